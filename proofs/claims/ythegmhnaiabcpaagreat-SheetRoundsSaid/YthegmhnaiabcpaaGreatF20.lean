/- Own texts, merged: Rd Ri Ub. -/
import Derived.Test.YthegmhnaiabcpaaGreatF17
set_option linter.unusedSimpArgs false
set_option linter.unusedVariables false
set_option linter.unnecessarySimpa false
section
/- Walks: the reference's Proves 10. -/
namespace Go.Proofs
open Go.RowKit
attribute [local go_sem] Oper.semAt_some
def lastQ (J:List Q4):Int -> List (Nat × Bool) -> Int
 | x,[]=>x
 | _,g :: r=>lastQ J (intoQ J g) r
theorem lastQ_snoc (J:List Q4) (g:Nat × Bool):∀ (x:Int) (l:List (Nat × Bool)),lastQ J x (l ++ [g]) = intoQ J g
 | _,[]=>rfl
 | _,h :: r=>lastQ_snoc J g (intoQ J h) r
theorem chainB_snoc (J:List Q4) (g:Nat × Bool):∀ (x:Int) (l:List (Nat × Bool)),chainB J x (l ++ [g]) = (chainB J x l && decide (fromQ J g = lastQ J x l))
 | x,[]=>by show (decide (fromQ J g = x) && true) = (true && decide (fromQ J g = x));rw [Bool.and_true,Bool.true_and]
 | x,h :: r=>by
  rw [List.cons_append];unfold chainB lastQ;rw [chainB_snoc J g (intoQ J h) r,Bool.and_assoc]
theorem lastQ_end (J:List Q4) (x:Int) (l:List (Int × Bool)) (h:l ≠ []):lastQ J x (l.map natG) = intoQ J (natG (l.getLastD (0,false))):=by
 rcases List.eq_nil_or_concat l with e | ⟨r,g,e⟩
 ·exact absurd e h
 ·subst e;simp only [List.concat_eq_append,List.map_append,List.map_cons,List.map_nil];rw [lastQ_snoc]
  simp
theorem chain_round (J:List Q4) (y:Int) (L:List (Nat × Bool)) (h:L ≠ []) (hc:chainB J (fromQ J (L.headD (0,false))) L = true):chainB J y L = decide (fromQ J (L.headD (0,false)) = y):=by
 cases L with
 | nil=>exact absurd rfl h
 | cons g r =>
  unfold chainB at hc ⊢;rw [Bool.and_eq_true] at hc;rw [hc.2,Bool.and_true];rfl
theorem chain_cut (J:List Q4):∀ (x:Int) (l r:List (Nat × Bool)),chainB J x (l ++ r) = true -> chainB J x l = true
 | _,[],_,_=>rfl
 | x,g :: l,r,h=>by
  rw [List.cons_append] at h;unfold chainB at h ⊢;rw [Bool.and_eq_true] at h ⊢;exact ⟨h.1,chain_cut J _ l r h.2⟩
theorem round_chain (J:List Q4) (y:Int) (L:List (Nat × Bool)) (hc:chainB J y L = true):chainB J (fromQ J (L.headD (0,false))) L = true:=by
 cases L with
 | nil=>rfl
 | cons g r =>
  unfold chainB at hc ⊢;rw [Bool.and_eq_true] at hc ⊢;exact ⟨decide_eq_true rfl,hc.2⟩
structure ChI (J:List Q4) (north:Bool) (L:List (Nat × Bool)) (k:Nat) (f a sm:Int):Prop where
 chain:chainB J (fromQ J (L.headD (0,false))) (L.take k) = true
 sum:sm = Sheet.sumN (joOf north J) (L.take k)
 fst:0 < k -> f = fromQ J (L.headD (0,false))
 at_:0 < k -> a = lastQ J (fromQ J (L.headD (0,false))) (L.take k)
theorem ChI.start {J:List Q4} {north:Bool} {L:List (Nat × Bool)}:ChI J north L 0 (-1) (-1) 0:=⟨rfl,rfl,fun h=>absurd h (Nat.lt_irrefl _),fun h=>absurd h (Nat.lt_irrefl _)⟩
theorem sumN_one (J:List Sheet.Jo) (g:Nat × Bool) (l:List (Nat × Bool)):Sheet.sumN J (l ++ [g]) = Sheet.sumN J l + Sheet.num J g:=by
 rw [Sheet.sumN_append];simp [Sheet.sumN]
theorem ChI.first {J:List Q4} {north:Bool} {L:List (Nat × Bool)} {f a sm:Int} (h:ChI J north L 0 f a sm) (hk:0 < L.length):ChI J north L 1 (fromQ J L[0]) (intoQ J L[0]) (sm + Sheet.num (joOf north J) L[0]):=by
 cases L with
 | nil=>exact absurd hk (Nat.lt_irrefl _)
 | cons g r =>
  have hs:sm = 0:=h.sum;subst hs;refine ⟨by simp [chainB],?_,fun _=>rfl,fun _=>rfl⟩;simp [Sheet.sumN]
theorem ChI.next {J:List Q4} {north:Bool} {L:List (Nat × Bool)} {k:Nat} {f a sm:Int} (h:ChI J north L k f a sm) (h0:0 < k) (hk:k < L.length) (he:fromQ J L[k] = a):ChI J north L (k + 1) f (intoQ J L[k]) (sm + Sheet.num (joOf north J) L[k]):=by
 have ht:L.take (k + 1) = L.take k ++ [L[k]]:=List.take_succ_eq_append_getElem hk;refine ⟨?_,?_,fun _=>h.fst h0,fun _=>?_⟩
 ·rw [ht,chainB_snoc,h.chain,he,h.at_ h0]
  simp
 ·rw [ht,sumN_one,h.sum]
 ·rw [ht,lastQ_snoc]
theorem ChI.broken {J:List Q4} {north:Bool} {L:List (Nat × Bool)} {k:Nat} {f a sm:Int} (h:ChI J north L k f a sm) (h0:0 < k) (hk:k < L.length) (he:fromQ J L[k] ≠ a) (y:Int):chainB J y L = false:=by
 cases e:chainB J y L
 ·rfl
 ·have h1:=round_chain J y L e;have ht:L.take (k + 1) = L.take k ++ [L[k]]:=List.take_succ_eq_append_getElem hk;rw [<- List.take_append_drop (k + 1) L] at h1;have h2:=chain_cut J _ _ _ h1;rw [List.take_append_drop] at h2;rw [ht,chainB_snoc,Bool.and_eq_true,decide_eq_true_eq,<- h.at_ h0] at h2;exact absurd h2.2 he
set_option maxRecDepth 100000 in
set_option maxHeartbeats 16000000 in
theorem refProves_any (S:SetL) (A:Option Addr) (c:Nat) (north:Bool) (l:List (Int × Bool)) (Al:Option Addr) (cl:Nat) (w:World) (hA:Quads w A S.J) (hL:Gs w Al l) :
  Calls Tryz.prog 10 #[.agg #[.int .i64 S.n,.slice A S.J.length c],.bool north,.slice Al l.length cl] w fun e w'=>e = .returned (.tuple #[.agg #[.int .i64 (provesP S north l).1,.int .i64 (provesP S north l).2],.int .i64 (provesE S l)]) /\ Aft w w':=by
 obtain ⟨s,hs⟩:∃ s,w.heap.size = s:=⟨_,rfl⟩;have F0:=((Fr.start w).alloc rfl 37 #[.int .i64 S.n,.slice A S.J.length c]).alloc (by simp) 29 #[.int .i64 0,.int .i64 0];simp only [List.nil_append,List.cons_append] at F0;rw [hs] at F0;have hll:=hL.len;obtain ⟨W0,hW0⟩:∃ W0,(w.alloc (.cells #[.int .i64 S.n,.slice A S.J.length c] 37)).alloc (.cells #[.int .i64 0,.int .i64 0] 29) = W0:=⟨_,rfl⟩;rw [hW0] at F0;have HF0:=Lib.hid F0;have HA:=Lib.hid (hA.aft F0.aft);have HL:=Lib.hid (hL.aft F0.aft);have HC:=Lib.hid (refCheck_any S A c W0 HA.out);have HW0:=Lib.hid hW0;have HS0:=Lib.hid hs;have hsw:w.heap.size <= s:=Nat.le_of_eq hs;clear hA hL F0 hW0 hs;by_cases he:setE S = 0
 case neg =>
  have e1:provesE S l = setE S:=by unfold provesE;rw [if_pos he]
  have e2:provesP S north l = (0,0):=by unfold provesP;rw [e1,if_neg he]
  rw [e1,e2];obtain ⟨E,hE⟩:∃ E,setE S = E:=⟨_,rfl⟩;rw [hE] at HC he ⊢;have t1:(E != 0) = true:=by simpa using he
  clear e1 e2 hE;go_enter Tryz.func10,Tryz.ntmps10;go_upto_region 1 with fail
  try rw [HS0.out]
  try rw [HW0.out]
  have c0:W0.cell? ⟨s,0,none⟩ = some (.int .i64 S.n):=(HF0.out.nth 0 rfl).cell 0;have c1:W0.cell? ⟨s,1,none⟩ = some (.slice A S.J.length c):=(HF0.out.nth 0 rfl).cell 1;have c2:=(HF0.out.nth 0 rfl).lt;go_upto_region 2 with (go_at_call 39;refine HC.out.mono ?_;rintro e w2 ⟨rfl,ha2⟩)
  have HF2:=Lib.hid (HF0.out.later ha2);clear c0 c1 c2 ha2 HF0;have z0:=(HF2.out.nth 1 rfl).cell 0;have z1:=(HF2.out.nth 1 rfl).cell 1;have z2:=(HF2.out.nth 1 rfl).lt;have z3:=(HF2.out.nth 1 rfl).frozen 0;have z4:=(HF2.out.nth 1 rfl).frozen 1;simp only [List.getElem?_toArray,List.getElem?_cons_zero,List.getElem?_cons_succ] at z0 z1;go_wp2_with fail
  have B2:=((HF2.out.nth 1 rfl).store 0 (.int .i64 0)).store 1 (.int .i64 0);have A2:=(HF2.out.aft.then_setCell (p:=⟨s + 1,0,none⟩) (by show w.heap.size <= s + 1;omega) (.int .i64 0)).then_setCell (p:=⟨s + 1,1,none⟩) (by show w.heap.size <= s + 1;omega) (.int .i64 0);generalize (w2.setCell ⟨s + 1,0,none⟩ (.int .i64 0)).setCell ⟨s + 1,1,none⟩ (.int .i64 0) = X at *;have z0:X.cell? ⟨s + 1,0,none⟩ = some (.int .i64 0):=B2.cell 0;have z1:X.cell? ⟨s + 1,1,none⟩ = some (.int .i64 0):=B2.cell 1;exact bodyPost_ret (v:=.tuple #[.agg #[.int .i64 0,.int .i64 0],.int .i64 E]) (by simp [results,Tryz.results10,go_sem,z0,z1]) rfl ⟨rfl,A2⟩
 have hS:=setE_ok he;have hfew:=hS.few;have HS:=Lib.hid hS
 have h3:fromB l.length 1 60 = false -> (provesP S north l).1 = 0 /\ (provesP S north l).2 = 0 /\ provesE S l = 3:=fun h=>by
  have e1:provesE S l = 3:=by unfold provesE;rw [if_neg (by rw [he];decide),if_pos h]
  unfold provesP;rw [e1];exact ⟨rfl,rfl,rfl⟩
 have h2:fromB l.length 1 60 = true -> l.all (inL S.J.length) = false -> (provesP S north l).1 = 0 /\ (provesP S north l).2 = 0 /\ provesE S l = 2:=fun h h'=>by
  have e1:provesE S l = 2:=by unfold provesE;rw [if_neg (by rw [he];decide),if_neg (by rw [h];decide),if_pos h']
  unfold provesP;rw [e1];exact ⟨rfl,rfl,rfl⟩
 have h9:fromB l.length 1 60 = true -> l.all (inL S.J.length) = true -> chainB S.J (intoQ S.J (natG (l.getLastD (0,false)))) (l.map natG) = false -> (provesP S north l).1 = 0 /\ (provesP S north l).2 = 0 /\ provesE S l = 9:=fun h h' h2=>by
  have e1:provesE S l = 9:=by unfold provesE;rw [if_neg (by rw [he];decide),if_neg (by rw [h];decide),if_neg (by rw [h'];decide),h2];rfl
  unfold provesP;rw [e1];exact ⟨rfl,rfl,rfl⟩
 have h1:fromB l.length 1 60 = true -> l.all (inL S.J.length) = true -> chainB S.J (intoQ S.J (natG (l.getLastD (0,false)))) (l.map natG) = true -> provesE S l = 0 /\ provesP S north l = Sheet.low (Sheet.sumN (joOf north S.J) (l.map natG)).natAbs l.length:=fun h h' h2=>by
  have e1:provesE S l = 0:=by unfold provesE;rw [if_neg (by rw [he];decide),if_neg (by rw [h];decide),if_neg (by rw [h'];decide),h2];rfl
  refine ⟨e1,?_⟩;unfold provesP;rw [e1,if_pos rfl];rfl
 rw [he] at HC;obtain ⟨pv,hpv⟩:∃ z,provesP S north l = z:=⟨_,rfl⟩;obtain ⟨pe,hpe⟩:∃ z,provesE S l = z:=⟨_,rfl⟩;rw [hpv,hpe] at h3 h2 h9 h1 ⊢;obtain ⟨p1,p2⟩:=pv;dsimp only at h3 h2 h9 ⊢;have H3:=Lib.hid h3;have H2:=Lib.hid h2;have H9:=Lib.hid h9;have H1:=Lib.hid h1;clear h3 h2 h9 h1 hpv hpe he hS;go_enter Tryz.func10,Tryz.ntmps10;go_upto_region 1 with fail
 try rw [HS0.out]
 try rw [HW0.out]
 have c0:W0.cell? ⟨s,0,none⟩ = some (.int .i64 S.n):=(HF0.out.nth 0 rfl).cell 0;have c1:W0.cell? ⟨s,1,none⟩ = some (.slice A S.J.length c):=(HF0.out.nth 0 rfl).cell 1;have c2:=(HF0.out.nth 0 rfl).lt;go_upto_region 2 with (go_at_call 39;refine HC.out.mono ?_;rintro e w2 ⟨rfl,ha2⟩)
 have HF2:=Lib.hid (HF0.out.later ha2);have HA2:=Lib.hid (HA.out.aft ha2);have HL2:=Lib.hid (HL.out.aft ha2);clear c0 c1 c2 ha2 HF0 HA HL;go_upto_region 4 with fail
 cases hb:fromB l.length 1 60
 ·obtain ⟨rfl,rfl,rfl⟩:=H3.out hb;have hb2:¬ (1 <= (l.length:Int) /\ (l.length:Int) <= 60):=fun h=>by rw [fromB_iff.2 h] at hb;cases hb
  clear hb H3 H2 H9 H1;by_cases hl1:l.length < 1
  ·have t1:decide (l.length < 1) = true:=by simpa using hl1
   have t1i:decide ((l.length:Int) < 1) = true:=by rw [decide_eq_true_eq];omega
   clear hl1 hb2;have z0:=(HF2.out.nth 1 rfl).cell 0;have z1:=(HF2.out.nth 1 rfl).cell 1;have z2:=(HF2.out.nth 1 rfl).lt;have z3:=(HF2.out.nth 1 rfl).frozen 0;have z4:=(HF2.out.nth 1 rfl).frozen 1;simp only [List.getElem?_toArray,List.getElem?_cons_zero,List.getElem?_cons_succ] at z0 z1;go_wp2_with fail
   have B2:=((HF2.out.nth 1 rfl).store 0 (.int .i64 0)).store 1 (.int .i64 0);have A2:=(HF2.out.aft.then_setCell (p:=⟨s + 1,0,none⟩) (by show w.heap.size <= s + 1;omega) (.int .i64 0)).then_setCell (p:=⟨s + 1,1,none⟩) (by show w.heap.size <= s + 1;omega) (.int .i64 0);generalize (w2.setCell ⟨s + 1,0,none⟩ (.int .i64 0)).setCell ⟨s + 1,1,none⟩ (.int .i64 0) = X at *;have z0:X.cell? ⟨s + 1,0,none⟩ = some (.int .i64 0):=B2.cell 0;have z1:X.cell? ⟨s + 1,1,none⟩ = some (.int .i64 0):=B2.cell 1;exact bodyPost_ret (v:=.tuple #[.agg #[.int .i64 0,.int .i64 0],.int .i64 3]) (by simp [results,Tryz.results10,go_sem,z0,z1]) rfl ⟨rfl,A2⟩
  ·have t1:decide (l.length < 1) = false:=by simpa using hl1
   have t1i:decide ((l.length:Int) < 1) = false:=by rw [decide_eq_false_iff_not];omega
   have t2:decide (60 < l.length) = true:=by rw [decide_eq_true_eq];omega
   have t2i:decide ((60:Int) < (l.length:Int)) = true:=by rw [decide_eq_true_eq];omega
   clear hl1 hb2;have z0:=(HF2.out.nth 1 rfl).cell 0;have z1:=(HF2.out.nth 1 rfl).cell 1;have z2:=(HF2.out.nth 1 rfl).lt;have z3:=(HF2.out.nth 1 rfl).frozen 0;have z4:=(HF2.out.nth 1 rfl).frozen 1;simp only [List.getElem?_toArray,List.getElem?_cons_zero,List.getElem?_cons_succ] at z0 z1;go_wp2_with fail
   have B2:=((HF2.out.nth 1 rfl).store 0 (.int .i64 0)).store 1 (.int .i64 0);have A2:=(HF2.out.aft.then_setCell (p:=⟨s + 1,0,none⟩) (by show w.heap.size <= s + 1;omega) (.int .i64 0)).then_setCell (p:=⟨s + 1,1,none⟩) (by show w.heap.size <= s + 1;omega) (.int .i64 0);generalize (w2.setCell ⟨s + 1,0,none⟩ (.int .i64 0)).setCell ⟨s + 1,1,none⟩ (.int .i64 0) = X at *;have z0:X.cell? ⟨s + 1,0,none⟩ = some (.int .i64 0):=B2.cell 0;have z1:X.cell? ⟨s + 1,1,none⟩ = some (.int .i64 0):=B2.cell 1;exact bodyPost_ret (v:=.tuple #[.agg #[.int .i64 0,.int .i64 0],.int .i64 3]) (by simp [results,Tryz.results10,go_sem,z0,z1]) rfl ⟨rfl,A2⟩
 have H2:=Lib.hid (H2.out hb);have H9:=Lib.hid (H9.out hb);have H1:=Lib.hid (H1.out hb);have hb2:=fromB_iff.1 hb;have hl1:1 <= l.length:=by omega
 have hl60:l.length <= 60:=by omega
 have t1:decide (l.length < 1) = false:=by rw [decide_eq_false_iff_not];omega
 have t1i:decide ((l.length:Int) < 1) = false:=by rw [decide_eq_false_iff_not];omega
 have t2:decide (60 < l.length) = false:=by rw [decide_eq_false_iff_not];omega
 have t2i:decide ((60:Int) < (l.length:Int)) = false:=by rw [decide_eq_false_iff_not];omega
 clear hb H3 hb2;go_upto_block 0 with fail
 clear t1 t1i t2 t2i;refine wp_block ?_;go_loopw [9] (fun i wr=>∃ k:Nat,i = .int .i64 (k:Nat) /\ k <= l.length /\ Hid ((l.take k).all (inL S.J.length) = true) /\ Aft w2 wr) (fun i _=>l.length - (intOf i).toNat)
 case atStart=>exact ⟨0,rfl,by omega,Lib.hid (by simp),Aft.refl _⟩
 case round =>
  obtain ⟨k,rfl,hk,HT,hw1⟩:=hrel;have HX:=Lib.hid hw1;clear hw1;by_cases hkl:k < l.length
  ·have t1:decide (k < l.length) = true:=by simpa using hkl
   obtain ⟨bl,ol,rfl,hbl,hcl⟩:=(HL2.out.aft HX.out).at hkl;have HBAD:Hid (inL S.J.length l[k] = false -> p1 = 0 /\ p2 = 0 /\ pe = 2):=Lib.hid fun h=>H2.out (all_false hkl h)
   have HN:Hid (inL S.J.length l[k] = true -> (l.take (k + 1)).all (inL S.J.length) = true):=Lib.hid fun h=>all_take hkl HT.out h
   have HK:Hid (∀ W,Aft w2 W -> W.cell? ⟨bl,ol + k * 2,none⟩ = some (.int .i64 l[k].1)):=Lib.hid fun W hW=>by
    obtain ⟨b9,o9,e9,-,h9⟩:=(HL2.out.aft hW).at hkl;cases e9;exact (h9 k hkl).1
   obtain ⟨⟨gj,bk⟩,hg⟩:∃ g,l[k] = g:=⟨_,rfl⟩;rw [hg] at HBAD HN HK;dsimp only at HK;clear hcl hg;have HIN:Hid (inL S.J.length (gj,bk) = fromB gj 0 ((S.J.length:Int) - 1)):=Lib.hid rfl;have hin:(0:Int) <= (k:Int) /\ (k:Int) < (l.length:Int):=by omega
   have hwj:IntKind.i64.wrap ((S.J.length:Int) - 1) = (S.J.length:Int) - 1:=IntWalk.i64_in _ (by omega);go_upto_region 9 with fail
   clear t1;have hh0:Aft w2 wr.drew:=HX.out.trans (Aft.drew _);refine wp_region_valsT (by kernel_rfl) 9 106 rfl (by kernel_rfl) (by kernel_rfl) (by kernel_rfl) [.slice (some ⟨bl,ol,none⟩) l.length cl,.int .i64 (k:Nat),.pointer (some ⟨bl,ol + k * 2,none⟩),.pointer (some ⟨bl,ol + k * 2,none⟩),.int .i64 gj,.pointer (some ⟨s,1,none⟩),.slice A S.J.length c,.int .i64 (S.J.length:Nat),.int .i64 ((S.J.length:Int) - 1)] rfl (fun _ W=>Aft w2 W) (hh0) ?st1 ?fi1
   case st1 =>
    intro i o v ho hv
    match i,ho,hv with
    | 0,ho,hv =>
     cases ho;cases hv;refine .inl ⟨rfl,fun done a W hd hp hk hw K hK=>?_⟩;have e2:=hk.same 2 (by decide);exact op_val (by simp [go_sem,ev' e2]) (hK _ hw)
    | 1,ho,hv =>
     cases ho;cases hv;refine .inl ⟨rfl,fun done a W hd hp hk hw K hK=>?_⟩;have e9:=hk.same 9 (by decide);exact op_val (by simp [go_sem,ev' e9]) (hK _ hw)
    | 2,ho,hv =>
     cases ho;cases hv;refine .inl ⟨rfl,fun done a W hd hp hk hw K hK=>?_⟩;have e39:=hk.at_ 0 _ 39 _ rfl (by decide) _ rfl rfl rfl;have e40:=hk.at_ 1 _ 40 _ rfl (by decide) _ rfl rfl rfl;exact op_val (by simp [go_sem,ev' e39,ev' e40,hin]) (hK _ hw)
    | 3,ho,hv =>
     cases ho;cases hv;refine .inl ⟨rfl,fun done a W hd hp hk hw K hK=>?_⟩;have e41:=hk.at_ 2 _ 41 _ rfl (by decide) _ rfl rfl rfl;exact op_val (by simp [go_sem,ev' e41]) (hK _ hw)
    | 4,ho,hv =>
     cases ho;cases hv;refine .inl ⟨rfl,fun done a W hd hp hk hw K hK=>?_⟩;have e42:=hk.at_ 3 _ 42 _ rfl (by decide) _ rfl rfl rfl;exact op_val (by simp [go_sem,ev' e42,HK.out W hw]) (hK _ hw)
    | 5,ho,hv =>
     cases ho;cases hv;refine .inl ⟨rfl,fun done a W hd hp hk hw K hK=>?_⟩;have e3:=hk.same 3 (by decide);exact op_val (by simp [go_sem,ev' e3]) (hK _ hw)
    | 6,ho,hv =>
     cases ho;cases hv;refine .inl ⟨rfl,fun done a W hd hp hk hw K hK=>?_⟩;have e44:=hk.at_ 5 _ 44 _ rfl (by decide) _ rfl rfl rfl;exact op_val (by simp [go_sem,ev' e44,((HF2.out.later hw).nth 0 rfl).cell 1]) (hK _ hw)
    | 7,ho,hv =>
     cases ho;cases hv;refine .inl ⟨rfl,fun done a W hd hp hk hw K hK=>?_⟩;have e45:=hk.at_ 6 _ 45 _ rfl (by decide) _ rfl rfl rfl;exact op_val (by simp [go_sem,ev' e45]) (hK _ hw)
    | 8,ho,hv =>
     cases ho;cases hv;refine .inl ⟨rfl,fun done a W hd hp hk hw K hK=>?_⟩;have e46:=hk.at_ 7 _ 46 _ rfl (by decide) _ rfl rfl rfl;exact op_val (by simp [go_sem,ev' e46,hwj]) (hK _ hw)
    | _ + 9,_,hv=>cases hv
   intro done W hd hw;simp only [List.drop_succ_cons,List.drop_zero,List.zip_cons_cons,List.zip_nil_right,putAll];simp only [Act.put,List.setIfInBounds_toArray,List.set];clear hd;have HX:=Lib.hid hw;clear hw hwj;cases e1:fromB gj 0 ((S.J.length:Int) - 1)
   ·have F1:=Lib.hid e1;obtain ⟨rfl,rfl,rfl⟩:=HBAD.out (HIN.out.trans e1);have HF9:=Lib.hid (HF2.out.later HX.out);clear e1 HBAD HN HIN;have z0:=(HF9.out.nth 1 rfl).cell 0;have z1:=(HF9.out.nth 1 rfl).cell 1;have z2:=(HF9.out.nth 1 rfl).lt;have z3:=(HF9.out.nth 1 rfl).frozen 0;have z4:=(HF9.out.nth 1 rfl).frozen 1;simp only [List.getElem?_toArray,List.getElem?_cons_zero,List.getElem?_cons_succ] at z0 z1;go_wp2_with (go_at_call 40;refine (outside_any _ _ _ _).mono ?_;rintro e w9 ⟨rfl,rfl⟩;rw [F1.out])
    have B2:=((HF9.out.nth 1 rfl).store 0 (.int .i64 0)).store 1 (.int .i64 0);have A2:=(HF9.out.aft.then_setCell (p:=⟨s + 1,0,none⟩) (by show w.heap.size <= s + 1;omega) (.int .i64 0)).then_setCell (p:=⟨s + 1,1,none⟩) (by show w.heap.size <= s + 1;omega) (.int .i64 0);generalize (W.setCell ⟨s + 1,0,none⟩ (.int .i64 0)).setCell ⟨s + 1,1,none⟩ (.int .i64 0) = X at *;have z0:X.cell? ⟨s + 1,0,none⟩ = some (.int .i64 0):=B2.cell 0;have z1:X.cell? ⟨s + 1,1,none⟩ = some (.int .i64 0):=B2.cell 1;exact bodyPost_ret (v:=.tuple #[.agg #[.int .i64 0,.int .i64 0],.int .i64 2]) (by simp [results,Tryz.results10,go_sem,z0,z1]) rfl ⟨rfl,A2⟩
   ·have F1:=Lib.hid e1;have HN2:=Lib.hid (HN.out (HIN.out.trans e1));clear e1 HBAD HN HIN;go_wp2_with (go_at_call 40;refine (outside_any _ _ _ _).mono ?_;rintro e w9 ⟨rfl,rfl⟩;rw [F1.out])
    exact ⟨⟨k + 1,by go_num,by omega,HN2,HX.out⟩,by simp [intOf];omega⟩
  ·have t1:decide (k < l.length) = false:=by simpa using hkl
   have et:l.take k = l:=List.take_of_length_le (by omega);have ht:=HT.out;rw [et] at ht;have HALL:=Lib.hid ht;have H9:=Lib.hid (H9.out ht);have H1:=Lib.hid (H1.out ht);clear et ht HT H2;go_upto_block 2 with fail
   clear t1;obtain ⟨L,hL⟩:∃ L,l.map natG = L:=⟨_,rfl⟩;have hLl:L.length = l.length:=by rw [<- hL,List.length_map]
   have HLL:=Lib.hid hLl;have HLE:=Lib.hid hL;have HEND:Hid (lastQ S.J (fromQ S.J (L.headD (0,false))) L = intoQ S.J (natG (l.getLastD (0,false)))):=Lib.hid (by rw [<- hL];exact lastQ_end _ _ _ (fun h=>by rw [h] at hl1;exact absurd hl1 (by decide)));obtain ⟨y,hy⟩:∃ y,intoQ S.J (natG (l.getLastD (0,false))) = y:=⟨_,rfl⟩;rw [hL] at H9 H1;rw [hy] at H9 H1 HEND;clear hL hLl hy;refine wp_block ?_;go_loopw [10,11,12,13] (fun fv av sv i wr3=>∃ (k:Nat) (f a9 sm:Int),i = .int .i64 (k:Nat) /\ fv = .int .i64 f /\ av = .int .i64 a9 /\ sv = .int .i64 sm /\ k <= l.length /\ -1000000 * (k:Int) <= sm /\ sm <= 1000000 * (k:Int) /\ Hid (ChI S.J north L k f a9 sm) /\ Aft w2 wr3) (fun _ _ _ i _=>l.length - (intOf i).toNat)
   case atStart=>exact ⟨0,-1,-1,0,rfl,rfl,rfl,rfl,by omega,by omega,by omega,Lib.hid .start,HX.out⟩
   case round =>
    clear hkl hk HX;obtain ⟨k,f,a9,sm,rfl,rfl,rfl,rfl,hk,hs1,hs2,HCH,hw3⟩:=hrel;have HX:=Lib.hid hw3;clear hw3;by_cases hkl:k < l.length
    ·have t1:decide (k < l.length) = true:=by simpa using hkl
     have hkL:k < L.length:=by rw [HLL.out];exact hkl
     have hgL:L[k] = natG l[k]:=by
      have e:=HLE.out;subst e;exact List.getElem_map natG
     obtain ⟨bl,ol,rfl,hbl,hcl⟩:=(HL2.out.aft HX.out).at hkl;have hin0:=List.all_eq_true.1 HALL.out _ (List.getElem_mem hkl)
     have HK:Hid (∀ W,Aft w2 W -> W.cell? ⟨bl,ol + k * 2,none⟩ = some (.int .i64 l[k].1) /\ W.cell? ⟨bl,ol + k * 2 + 1,none⟩ = some (.bool l[k].2)):=Lib.hid fun W hW=>by
      obtain ⟨b9,o9,e9,-,h9⟩:=(HL2.out.aft hW).at hkl;cases e9;exact h9 k hkl
     have HFI:Hid (k = 0 -> ChI S.J north L (k + 1) (fromQ S.J L[k]) (intoQ S.J L[k]) (sm + Sheet.num (joOf north S.J) L[k])):=Lib.hid fun h=>by subst h;exact HCH.out.first hkL
     have HNX:Hid (0 < k -> fromQ S.J L[k] = a9 -> ChI S.J north L (k + 1) f (intoQ S.J L[k]) (sm + Sheet.num (joOf north S.J) L[k])):=Lib.hid fun h h'=>HCH.out.next h hkL h'
     have HBR:Hid (0 < k -> fromQ S.J L[k] ≠ a9 -> p1 = 0 /\ p2 = 0 /\ pe = 9):=Lib.hid fun h h'=>H9.out (HCH.out.broken h hkL h' y)
     rw [hgL] at HFI HNX HBR;clear hgL hkL;obtain ⟨⟨gj,bk⟩,hg⟩:∃ g,l[k] = g:=⟨_,rfl⟩;rw [hg] at HFI HNX HBR HK hin0;dsimp only at HK;have hin1:fromB gj 0 ((S.J.length:Int) - 1) = true:=hin0;have hin2:=fromB_iff.1 hin1;obtain ⟨gn,rfl⟩:∃ gn:Nat,gj = gn:=⟨gj.toNat,by omega⟩;have hgn:gn < S.J.length:=by omega
     have hng:natG ((gn:Int),bk) = (gn,bk):=by unfold natG;rw [Int.toNat_natCast]
     rw [hng] at HFI HNX HBR;clear hcl hg hng hin0 hin1 hin2;have hnb:=num_le (north:=north) HS.out (g:=(gn,bk)) hgn;obtain ⟨bA,oA,hbo,hbA,hcA⟩:=HA2.out.at hgn;subst hbo
     have HKJ:Hid (∀ W,Aft w2 W -> W.cell? ⟨bA,oA + gn * 4,none⟩ = some (.int .i64 S.J[gn].a) /\ W.cell? ⟨bA,oA + gn * 4 + 1,none⟩ = some (.int .i64 S.J[gn].b) /\ W.cell? ⟨bA,oA + gn * 4 + 2,none⟩ = some (.int .i64 S.J[gn].x) /\ W.cell? ⟨bA,oA + gn * 4 + 3,none⟩ = some (.int .i64 S.J[gn].y)):=Lib.hid fun W hW=>by
      obtain ⟨b9,o9,e9,-,h9⟩:=(HA2.out.aft hW).at hgn;cases e9;exact h9 gn hgn
     rw [fromQ_get hgn,intoQ_get hgn] at HFI HNX;rw [fromQ_get hgn] at HBR
     have hnu:Sheet.num (joOf north S.J) (gn,bk) = numI north S.J[gn] bk:=by
      unfold Sheet.num numI;rw [jo_of north S.J hgn]
     rw [hnu] at HFI HNX;clear hnu hcA;obtain ⟨⟨ja,jb,jx,jy⟩,hj⟩:∃ j,S.J[gn] = j:=⟨_,rfl⟩;rw [hj] at HFI HNX HBR HKJ hnb;dsimp only at HKJ;obtain ⟨nw,hnw⟩:∃ nw,way1 north ⟨ja,jb,jx,jy⟩ = nw:=⟨_,rfl⟩;have HNW:=Lib.hid hnw;clear hj;have hin:(0:Int) <= (k:Int) /\ (k:Int) < (l.length:Int):=by omega
     have hin2:(0:Int) <= (gn:Int) /\ (gn:Int) < (S.J.length:Int):=by omega
     go_upto_region 15 with fail
     clear t1;refine wp_region_valsT (by kernel_rfl) 10 106 rfl (by kernel_rfl) (by kernel_rfl) (by kernel_rfl) [.pointer (some ⟨s,1,none⟩),.slice (some ⟨bA,oA,none⟩) S.J.length c,.slice (some ⟨bl,ol,none⟩) l.length cl,.int .i64 (k:Nat),.pointer (some ⟨bl,ol + k * 2,none⟩),.pointer (some ⟨bl,ol + k * 2,none⟩),.int .i64 (gn:Nat),.pointer (some ⟨bA,oA + gn * 4,none⟩),.agg #[.int .i64 ja,.int .i64 jb,.int .i64 jx,.int .i64 jy],.pointer (some ⟨wr.heap.size,0,none⟩)] rfl (fun done W=>Aft wr W /\ (if done 9 = true then W = wr.drew.alloc (.cells #[.int .i64 0,.int .i64 0,.int .i64 0,.int .i64 0] 90) else W = wr.drew)) (⟨Aft.drew _,by simp⟩) ?st2 ?fi2
     case st2 =>
      intro i o v ho hv
      match i,ho,hv with
      | 0,ho,hv =>
       cases ho;cases hv;refine .inl ⟨rfl,fun done a W hd hp hk hw K hK=>?_⟩;have e3:=hk.same 3 (by decide);exact op_val (by simp [go_sem,ev' e3]) (hK _ (⟨hw.1,by rw [upd_ne' (by decide)];exact hw.2⟩))
      | 1,ho,hv =>
       cases ho;cases hv;refine .inl ⟨rfl,fun done a W hd hp hk hw K hK=>?_⟩;have e56:=hk.at_ 0 _ 56 _ rfl (by decide) _ rfl rfl rfl;exact op_val (by simp [go_sem,ev' e56,((HF2.out.later (HX.out.trans hw.1)).nth 0 rfl).cell 1]) (hK _ (⟨hw.1,by rw [upd_ne' (by decide)];exact hw.2⟩))
      | 2,ho,hv =>
       cases ho;cases hv;refine .inl ⟨rfl,fun done a W hd hp hk hw K hK=>?_⟩;have e2:=hk.same 2 (by decide);exact op_val (by simp [go_sem,ev' e2]) (hK _ (⟨hw.1,by rw [upd_ne' (by decide)];exact hw.2⟩))
      | 3,ho,hv =>
       cases ho;cases hv;refine .inl ⟨rfl,fun done a W hd hp hk hw K hK=>?_⟩;have e13:=hk.same 13 (by decide);exact op_val (by simp [go_sem,ev' e13]) (hK _ (⟨hw.1,by rw [upd_ne' (by decide)];exact hw.2⟩))
      | 4,ho,hv =>
       cases ho;cases hv;refine .inl ⟨rfl,fun done a W hd hp hk hw K hK=>?_⟩;have e58:=hk.at_ 2 _ 58 _ rfl (by decide) _ rfl rfl rfl;have e59:=hk.at_ 3 _ 59 _ rfl (by decide) _ rfl rfl rfl;exact op_val (by simp [go_sem,ev' e58,ev' e59,hin]) (hK _ (⟨hw.1,by rw [upd_ne' (by decide)];exact hw.2⟩))
      | 5,ho,hv =>
       cases ho;cases hv;refine .inl ⟨rfl,fun done a W hd hp hk hw K hK=>?_⟩;have e60:=hk.at_ 4 _ 60 _ rfl (by decide) _ rfl rfl rfl;exact op_val (by simp [go_sem,ev' e60]) (hK _ (⟨hw.1,by rw [upd_ne' (by decide)];exact hw.2⟩))
      | 6,ho,hv =>
       cases ho;cases hv;refine .inl ⟨rfl,fun done a W hd hp hk hw K hK=>?_⟩;have e61:=hk.at_ 5 _ 61 _ rfl (by decide) _ rfl rfl rfl;exact op_val (by simp [go_sem,ev' e61,(HK.out W (HX.out.trans hw.1)).1]) (hK _ (⟨hw.1,by rw [upd_ne' (by decide)];exact hw.2⟩))
      | 7,ho,hv =>
       cases ho;cases hv;refine .inl ⟨rfl,fun done a W hd hp hk hw K hK=>?_⟩;have e57:=hk.at_ 1 _ 57 _ rfl (by decide) _ rfl rfl rfl;have e62:=hk.at_ 6 _ 62 _ rfl (by decide) _ rfl rfl rfl;exact op_val (by simp [go_sem,ev' e57,ev' e62,hin2]) (hK _ (⟨hw.1,by rw [upd_ne' (by decide)];exact hw.2⟩))
      | 8,ho,hv =>
       cases ho;cases hv;refine .inl ⟨rfl,fun done a W hd hp hk hw K hK=>?_⟩;have e63:=hk.at_ 7 _ 63 _ rfl (by decide) _ rfl rfl rfl;exact op_val (by simp [go_sem,ev' e63,(HKJ.out W (HX.out.trans hw.1)).1,(HKJ.out W (HX.out.trans hw.1)).2.1,(HKJ.out W (HX.out.trans hw.1)).2.2.1,(HKJ.out W (HX.out.trans hw.1)).2.2.2]) (hK _ (⟨hw.1,by rw [upd_ne' (by decide)];exact hw.2⟩))
      | 9,ho,hv =>
       cases ho;cases hv;refine .inl ⟨rfl,fun done a W hd hp hk hw K hK=>?_⟩;have h2:=hw.2;rw [hd] at h2;simp only [Bool.false_eq_true,if_false] at h2;subst h2;exact op_valW (v:=.pointer (some ⟨wr.heap.size,0,none⟩)) (w':=wr.drew.alloc (.cells #[.int .i64 0,.int .i64 0,.int .i64 0,.int .i64 0] 90)) (by simp [go_sem]) (hK _ ⟨(Aft.drew wr).then_alloc _,by rw [upd_same',if_pos rfl]⟩)
      | _ + 10,_,hv=>cases hv
     intro done W hd hw;simp only [List.drop_succ_cons,List.drop_zero,List.zip_cons_cons,List.zip_nil_right,putAll];simp only [Act.put,List.setIfInBounds_toArray,List.set];have hw2:=hw.2;rw [if_pos (hd 9 (by decide))] at hw2;clear hw hd;subst hw2;obtain ⟨X,hX⟩:∃ X,(wr.alloc (.cells #[.int .i64 ja,.int .i64 jb,.int .i64 jx,.int .i64 jy] 90)).drew = X:=⟨_,rfl⟩;have hax:Aft wr X:=hX ▸ (Aft.alloc _ _).then_drew;obtain ⟨z,hz⟩:∃ z,wr.heap.size = z:=⟨_,rfl⟩;have HBX:Hid (Blk X z 90 #[.int .i64 ja,.int .i64 jb,.int .i64 jx,.int .i64 jy]):=Lib.hid (by rw [<- hX,<- hz];exact (Blk.new wr _ _).aft (Aft.drew _));have HX2:=Lib.hid (HX.out.trans hax);go_upto_region 16 with fail
     try rw [hX]
     try rw [hz]
     clear hX hz hax;have hh1:Aft w2 X.drew:=HX2.out.trans (Aft.drew _);have HBX2:=Lib.hid (HBX.out.aft (Aft.drew X));refine wp_region_valsG (by kernel_rfl) 106 rfl (by kernel_rfl) (by kernel_rfl) [.pointer (some ⟨z,0,none⟩),.int .i64 ja,.pointer (some ⟨z,1,none⟩),.int .i64 jb,.agg #[.int .i64 ja,.int .i64 jb,.int .i64 jx,.int .i64 jy],.bool north,.int .i64 nw,.int .i64 ja,.int .i64 jb,.int .i64 nw] rfl (fun W=>Aft X.drew W) (Aft.refl _) ?st3 ?fi3
     case st3 =>
      intro i o v ho hv
      match i,ho,hv with
      | 0,ho,hv =>
       cases ho;cases hv;refine .inl ⟨rfl,fun a W hk hw K hK=>?_⟩;have e14:=hk.same 14 (by decide);exact op_val (by simp [go_sem,ev' e14]) (hK _ hw)
      | 1,ho,hv =>
       cases ho;cases hv;refine .inl ⟨rfl,fun a W hk hw K hK=>?_⟩;have e65:=hk.at_ 0 _ 65 _ rfl (by decide) _ rfl rfl rfl;exact op_val (by simp [go_sem,ev' e65,(HBX2.out.aft hw).cell 0]) (hK _ hw)
      | 2,ho,hv =>
       cases ho;cases hv;refine .inl ⟨rfl,fun a W hk hw K hK=>?_⟩;have e14:=hk.same 14 (by decide);exact op_val (by simp [go_sem,ev' e14]) (hK _ hw)
      | 3,ho,hv =>
       cases ho;cases hv;refine .inl ⟨rfl,fun a W hk hw K hK=>?_⟩;have e67:=hk.at_ 2 _ 67 _ rfl (by decide) _ rfl rfl rfl;exact op_val (by simp [go_sem,ev' e67,(HBX2.out.aft hw).cell 1]) (hK _ hw)
      | 4,ho,hv =>
       cases ho;cases hv;refine .inl ⟨rfl,fun a W hk hw K hK=>?_⟩;have e14:=hk.same 14 (by decide);exact op_val (by simp [go_sem,ev' e14,(HBX2.out.aft hw).cell 0,(HBX2.out.aft hw).cell 1,(HBX2.out.aft hw).cell 2,(HBX2.out.aft hw).cell 3]) (hK _ hw)
      | 5,ho,hv =>
       cases ho;cases hv;refine .inl ⟨rfl,fun a W hk hw K hK=>?_⟩;have e1:=hk.same 1 (by decide);exact op_val (by simp [go_sem,ev' e1]) (hK _ hw)
      | 6,ho,hv =>
       cases ho;cases hv;refine .inl ⟨rfl,fun a W hk hw K hK=>?_⟩;have e69:=hk.at_ 4 _ 69 _ rfl (by decide) _ rfl rfl rfl;have e70:=hk.at_ 5 _ 70 _ rfl (by decide) _ rfl rfl rfl;refine op_callN rfl rfl rfl _ rfl (vs:=#[.agg #[.int .i64 ja,.int .i64 jb,.int .i64 jx,.int .i64 jy],.bool north]) (by simp [e69,e70]) (refNumber_any ⟨ja,jb,jx,jy⟩ north W) ?_;rintro e w7 ⟨rfl,hw7⟩;exact ⟨_,congrArg (fun n=>Ending.returned (Value.int .i64 n)) HNW.out,hK _ (hw.trans hw7)⟩
      | 7,ho,hv =>
       cases ho;cases hv;refine .inl ⟨rfl,fun a W hk hw K hK=>?_⟩;have e66:=hk.at_ 1 _ 66 _ rfl (by decide) _ rfl rfl rfl;exact op_val (by simp [go_sem,ev' e66]) (hK _ hw)
      | 8,ho,hv =>
       cases ho;cases hv;refine .inl ⟨rfl,fun a W hk hw K hK=>?_⟩;have e68:=hk.at_ 3 _ 68 _ rfl (by decide) _ rfl rfl rfl;exact op_val (by simp [go_sem,ev' e68]) (hK _ hw)
      | 9,ho,hv =>
       cases ho;cases hv;refine .inl ⟨rfl,fun a W hk hw K hK=>?_⟩;have e71:=hk.at_ 6 _ 71 _ rfl (by decide) _ rfl rfl rfl;exact op_val (by simp [go_sem,ev' e71]) (hK _ hw)
      | _ + 10,_,hv=>cases hv
     intro W hw;simp only [List.drop_succ_cons,List.drop_zero,List.zip_cons_cons,List.zip_nil_right,putAll];simp only [Act.put,List.setIfInBounds_toArray,List.set];have HX:=Lib.hid (hh1.trans hw);have HBX:=Lib.hid (HBX2.out.aft hw);clear hw hh1 HBX2 HX2;have hbk:=(HK.out W HX.out).2;cases bk
     ·have hnb2:-1000000 <= nw /\ nw <= 1000000:=by have:=hnb;unfold numI at this;rw [hnw] at this;exact this
      clear hnb hnw;have hws:IntKind.i64.wrap (sm + nw) = sm + nw:=IntWalk.i64_in _ (by omega);by_cases hk0:k = 0
      ·have tk:((k:Int) == 0) = true:=by simp;omega
       have HN:Hid (ChI S.J north L (k + 1) ja jb (sm + nw)):=Lib.hid (by have:=HFI.out hk0;rw [<- HNW.out];exact this);clear hk0 HFI HNX HBR;go_wp2_with fail
       exact ⟨⟨k + 1,ja,jb,sm + nw,by go_num,rfl,rfl,rfl,by omega,by omega,by omega,HN,HX.out⟩,by simp [intOf];omega⟩
      ·have tk:((k:Int) == 0) = false:=by simp;omega
       by_cases hfa:ja = a9
       ·have tn:(ja != a9) = false:=by rw [bne_eq_false_iff_eq];exact hfa
        have HN:Hid (ChI S.J north L (k + 1) f jb (sm + nw)):=Lib.hid (by have:=HNX.out (by omega) hfa;rw [<- HNW.out];exact this);clear hk0 HFI HNX HBR;go_wp2_with fail
        exact ⟨⟨k + 1,f,jb,sm + nw,by go_num,rfl,rfl,rfl,by omega,by omega,by omega,HN,HX.out⟩,by simp [intOf];omega⟩
       ·have tn:(ja != a9) = true:=by rw [bne_iff_ne];exact hfa
        obtain ⟨rfl,rfl,rfl⟩:=HBR.out (by omega) hfa;have HF9:=Lib.hid (HF2.out.later HX.out);clear hk0 HFI HNX HBR;have z0:=(HF9.out.nth 1 rfl).cell 0;have z1:=(HF9.out.nth 1 rfl).cell 1;have z2:=(HF9.out.nth 1 rfl).lt;have z3:=(HF9.out.nth 1 rfl).frozen 0;have z4:=(HF9.out.nth 1 rfl).frozen 1;simp only [List.getElem?_toArray,List.getElem?_cons_zero,List.getElem?_cons_succ] at z0 z1;go_wp2_with fail
        have B2:=((HF9.out.nth 1 rfl).store 0 (.int .i64 0)).store 1 (.int .i64 0);have A2:=(HF9.out.aft.then_setCell (p:=⟨s + 1,0,none⟩) (by show w.heap.size <= s + 1;omega) (.int .i64 0)).then_setCell (p:=⟨s + 1,1,none⟩) (by show w.heap.size <= s + 1;omega) (.int .i64 0);generalize (W.setCell ⟨s + 1,0,none⟩ (.int .i64 0)).setCell ⟨s + 1,1,none⟩ (.int .i64 0) = X at *;have z0:X.cell? ⟨s + 1,0,none⟩ = some (.int .i64 0):=B2.cell 0;have z1:X.cell? ⟨s + 1,1,none⟩ = some (.int .i64 0):=B2.cell 1;exact bodyPost_ret (v:=.tuple #[.agg #[.int .i64 0,.int .i64 0],.int .i64 9]) (by simp [results,Tryz.results10,go_sem,z0,z1]) rfl ⟨rfl,A2⟩
     ·have hnb2:-1000000 <= -nw /\ -nw <= 1000000:=by have:=hnb;unfold numI at this;rw [hnw] at this;exact this
      have hwn:IntKind.i64.wrap (-nw) = -nw:=IntWalk.i64_in _ (by omega);clear hnb hnw;go_upto_region 18 with fail
      have d0:W.cell? ⟨z,0,none⟩ = some (.int .i64 ja):=HBX.out.cell 0;have d1:W.cell? ⟨z,1,none⟩ = some (.int .i64 jb):=HBX.out.cell 1;have d2:=HBX.out.lt;clear hbk;go_quiet (fail);have hax9:=HX.out.then_drewN nq;obtain ⟨W9,hW9⟩:∃ W9,W.drewN nq = W9:=⟨_,rfl⟩;rw [hW9] at hax9 ⊢;have HX:=Lib.hid hax9;clear hax9 hW9 d0 d1 d2;have hws:IntKind.i64.wrap (sm + -nw) = sm + -nw:=IntWalk.i64_in _ (by omega);by_cases hk0:k = 0
      ·have tk:((k:Int) == 0) = true:=by simp;omega
       have HN:Hid (ChI S.J north L (k + 1) jb ja (sm + -nw)):=Lib.hid (by have:=HFI.out hk0;rw [<- HNW.out];exact this);clear hk0 HFI HNX HBR;go_wp2_with fail
       exact ⟨⟨k + 1,jb,ja,sm + -nw,by go_num,rfl,rfl,rfl,by omega,by omega,by omega,HN,HX.out⟩,by simp [intOf];omega⟩
      ·have tk:((k:Int) == 0) = false:=by simp;omega
       by_cases hfa:jb = a9
       ·have tn:(jb != a9) = false:=by rw [bne_eq_false_iff_eq];exact hfa
        have HN:Hid (ChI S.J north L (k + 1) f ja (sm + -nw)):=Lib.hid (by have:=HNX.out (by omega) hfa;rw [<- HNW.out];exact this);clear hk0 HFI HNX HBR;go_wp2_with fail
        exact ⟨⟨k + 1,f,ja,sm + -nw,by go_num,rfl,rfl,rfl,by omega,by omega,by omega,HN,HX.out⟩,by simp [intOf];omega⟩
       ·have tn:(jb != a9) = true:=by rw [bne_iff_ne];exact hfa
        obtain ⟨rfl,rfl,rfl⟩:=HBR.out (by omega) hfa;have HF9:=Lib.hid (HF2.out.later HX.out);clear hk0 HFI HNX HBR;have z0:=(HF9.out.nth 1 rfl).cell 0;have z1:=(HF9.out.nth 1 rfl).cell 1;have z2:=(HF9.out.nth 1 rfl).lt;have z3:=(HF9.out.nth 1 rfl).frozen 0;have z4:=(HF9.out.nth 1 rfl).frozen 1;simp only [List.getElem?_toArray,List.getElem?_cons_zero,List.getElem?_cons_succ] at z0 z1;go_wp2_with fail
        have B2:=((HF9.out.nth 1 rfl).store 0 (.int .i64 0)).store 1 (.int .i64 0);have A2:=(HF9.out.aft.then_setCell (p:=⟨s + 1,0,none⟩) (by show w.heap.size <= s + 1;omega) (.int .i64 0)).then_setCell (p:=⟨s + 1,1,none⟩) (by show w.heap.size <= s + 1;omega) (.int .i64 0);generalize (W9.setCell ⟨s + 1,0,none⟩ (.int .i64 0)).setCell ⟨s + 1,1,none⟩ (.int .i64 0) = X at *;have z0:X.cell? ⟨s + 1,0,none⟩ = some (.int .i64 0):=B2.cell 0;have z1:X.cell? ⟨s + 1,1,none⟩ = some (.int .i64 0):=B2.cell 1;exact bodyPost_ret (v:=.tuple #[.agg #[.int .i64 0,.int .i64 0],.int .i64 9]) (by simp [results,Tryz.results10,go_sem,z0,z1]) rfl ⟨rfl,A2⟩
    ·have t1:decide (k < l.length) = false:=by simpa using hkl
     have ek:k = l.length:=by omega
     have hch:=HCH.out;have htk:L.take k = L:=List.take_of_length_le (by rw [HLL.out];omega);have hLne:L ≠ []:=fun h=>by have:=HLL.out;rw [h] at this;simp at this;omega
     have h6:=hch.chain;have h7:=hch.sum;have h8:=hch.fst (by omega);have h10:=hch.at_ (by omega);rw [htk] at h6 h7 h10;rw [HEND.out] at h10;have h11:=chain_round S.J y L hLne h6;rw [<- h8,<- h10] at h11;rw [<- h10] at H9 H1;rw [<- h7] at H1;clear hch htk hLne h6 h7 h8 h10 HCH HEND;by_cases hfa:f = a9
     ·rw [decide_eq_true hfa] at h11;have tn:(a9 != f) = false:=by rw [bne_eq_false_iff_eq];exact hfa.symm
      obtain ⟨rfl,hpv⟩:=H1.out h11;have hp1:(Sheet.low (sm.natAbs:Int) l.length).1 = p1:=by rw [<- hpv]
      have hp2:(Sheet.low (sm.natAbs:Int) l.length).2 = p2:=by rw [<- hpv]
      have hlo:∀ W,Calls Tryz.prog 42 #[.int .i64 (sm.natAbs:Int),.int .i64 (l.length:Int)] W fun e w'=>e = .returned (.agg #[.int .i64 p1,.int .i64 p2]) /\ Aft W w':=fun W=>by
       have:=lowest_any (sm.natAbs:Int) (l.length:Int) W (by omega) (by omega) (by omega);rw [hp1,hp2] at this;exact this
      clear h11 H1 H9 hpv hp1 hp2 hfa;by_cases hneg:sm < 0
      ·have ts:decide (sm < 0) = true:=by rw [decide_eq_true_eq];exact hneg
       have hwn:IntKind.i64.wrap (-sm) = -sm:=IntWalk.i64_in _ (by omega);have e9:(sm.natAbs:Int) = -sm:=by omega
       rw [e9] at hlo;have HLO:=Lib.hid hlo;clear hlo hneg e9;go_wp2_with (go_at_call 42;refine (HLO.out _).mono ?_;rintro e w9 ⟨rfl,ha9⟩;have HF9:=Lib.hid (HF2.out.later (HX.out.trans ha9));have z0:=(HF9.out.nth 1 rfl).cell 0;have z1:=(HF9.out.nth 1 rfl).cell 1;have z2:=(HF9.out.nth 1 rfl).lt;have z3:=(HF9.out.nth 1 rfl).frozen 0;have z4:=(HF9.out.nth 1 rfl).frozen 1;simp only [List.getElem?_toArray,List.getElem?_cons_zero,List.getElem?_cons_succ] at z0 z1)
       have B2:=((HF9.out.nth 1 rfl).store 0 (.int .i64 p1)).store 1 (.int .i64 p2);have A2:=(HF9.out.aft.then_setCell (p:=⟨s + 1,0,none⟩) (by show w.heap.size <= s + 1;omega) (.int .i64 p1)).then_setCell (p:=⟨s + 1,1,none⟩) (by show w.heap.size <= s + 1;omega) (.int .i64 p2);generalize (w9.setCell ⟨s + 1,0,none⟩ (.int .i64 p1)).setCell ⟨s + 1,1,none⟩ (.int .i64 p2) = X at *;have z0:X.cell? ⟨s + 1,0,none⟩ = some (.int .i64 p1):=B2.cell 0;have z1:X.cell? ⟨s + 1,1,none⟩ = some (.int .i64 p2):=B2.cell 1;exact bodyPost_ret (v:=.tuple #[.agg #[.int .i64 p1,.int .i64 p2],.int .i64 0]) (by simp [results,Tryz.results10,go_sem,z0,z1]) rfl ⟨rfl,A2⟩
      ·have ts:decide (sm < 0) = false:=by rw [decide_eq_false_iff_not];exact hneg
       have e9:(sm.natAbs:Int) = sm:=by omega
       rw [e9] at hlo;have HLO:=Lib.hid hlo;clear hlo hneg e9;go_wp2_with (go_at_call 42;refine (HLO.out _).mono ?_;rintro e w9 ⟨rfl,ha9⟩;have HF9:=Lib.hid (HF2.out.later (HX.out.trans ha9));have z0:=(HF9.out.nth 1 rfl).cell 0;have z1:=(HF9.out.nth 1 rfl).cell 1;have z2:=(HF9.out.nth 1 rfl).lt;have z3:=(HF9.out.nth 1 rfl).frozen 0;have z4:=(HF9.out.nth 1 rfl).frozen 1;simp only [List.getElem?_toArray,List.getElem?_cons_zero,List.getElem?_cons_succ] at z0 z1)
       have B2:=((HF9.out.nth 1 rfl).store 0 (.int .i64 p1)).store 1 (.int .i64 p2);have A2:=(HF9.out.aft.then_setCell (p:=⟨s + 1,0,none⟩) (by show w.heap.size <= s + 1;omega) (.int .i64 p1)).then_setCell (p:=⟨s + 1,1,none⟩) (by show w.heap.size <= s + 1;omega) (.int .i64 p2);generalize (w9.setCell ⟨s + 1,0,none⟩ (.int .i64 p1)).setCell ⟨s + 1,1,none⟩ (.int .i64 p2) = X at *;have z0:X.cell? ⟨s + 1,0,none⟩ = some (.int .i64 p1):=B2.cell 0;have z1:X.cell? ⟨s + 1,1,none⟩ = some (.int .i64 p2):=B2.cell 1;exact bodyPost_ret (v:=.tuple #[.agg #[.int .i64 p1,.int .i64 p2],.int .i64 0]) (by simp [results,Tryz.results10,go_sem,z0,z1]) rfl ⟨rfl,A2⟩
     ·rw [decide_eq_false hfa] at h11;have tn:(a9 != f) = true:=by rw [bne_iff_ne];exact fun e=>hfa e.symm
      obtain ⟨rfl,rfl,rfl⟩:=H9.out h11;have HF9:=Lib.hid (HF2.out.later HX.out);clear h11 H1 H9 hfa;have z0:=(HF9.out.nth 1 rfl).cell 0;have z1:=(HF9.out.nth 1 rfl).cell 1;have z2:=(HF9.out.nth 1 rfl).lt;have z3:=(HF9.out.nth 1 rfl).frozen 0;have z4:=(HF9.out.nth 1 rfl).frozen 1;simp only [List.getElem?_toArray,List.getElem?_cons_zero,List.getElem?_cons_succ] at z0 z1;go_wp2_with fail
      have B2:=((HF9.out.nth 1 rfl).store 0 (.int .i64 0)).store 1 (.int .i64 0);have A2:=(HF9.out.aft.then_setCell (p:=⟨s + 1,0,none⟩) (by show w.heap.size <= s + 1;omega) (.int .i64 0)).then_setCell (p:=⟨s + 1,1,none⟩) (by show w.heap.size <= s + 1;omega) (.int .i64 0);generalize (wr.setCell ⟨s + 1,0,none⟩ (.int .i64 0)).setCell ⟨s + 1,1,none⟩ (.int .i64 0) = X at *;have z0:X.cell? ⟨s + 1,0,none⟩ = some (.int .i64 0):=B2.cell 0;have z1:X.cell? ⟨s + 1,1,none⟩ = some (.int .i64 0):=B2.cell 1;exact bodyPost_ret (v:=.tuple #[.agg #[.int .i64 0,.int .i64 0],.int .i64 9]) (by simp [results,Tryz.results10,go_sem,z0,z1]) rfl ⟨rfl,A2⟩
end Go.Proofs
end
section
/- Walks: Worst 14;what a round that is returned proves. -/
namespace Go.Proofs
open Go.RowKit
attribute [local go_sem] Oper.semAt_some
theorem walk_chain {S:SetL} (hS:SetOk S) {north:Bool}:∀ {a b:Nat} {l:List (Nat × Bool)},Sheet.IsWalk (joOf north S.J) a l b -> chainB S.J (a:Int) l = true /\ lastQ S.J (a:Int) l = (b:Int)
 | a,b,[],h=>by cases h;exact ⟨rfl,rfl⟩
 | a,b,g :: r,⟨h1,h2,h3⟩=>by
  obtain ⟨i,k⟩:=g;rw [joOf_len] at h1;have h1:i < S.J.length:=h1;have hj:=jo_of north S.J h1;have he:=hS.ends _ (List.getElem_mem h1)
  have hf:fromQ S.J (i,k) = (a:Int):=by
   rw [fromQ_get h1];unfold Sheet.from_ at h2;rw [hj] at h2;unfold fromI;cases k
   ·have h2:S.J[i].a.toNat = a:=h2;show S.J[i].a = _;omega
   ·have h2:S.J[i].b.toNat = a:=h2;show S.J[i].b = _;omega
  have hi:intoQ S.J (i,k) = (Sheet.into (joOf north S.J) (i,k):Int):=by
   rw [intoQ_get h1];unfold Sheet.into;rw [hj];unfold intoI;cases k
   ·show S.J[i].b = (S.J[i].b.toNat:Int);omega
   ·show S.J[i].a = (S.J[i].a.toNat:Int);omega
  obtain ⟨h4,h5⟩:=walk_chain hS h3;refine ⟨?_,?_⟩
  ·show (decide (fromQ S.J (i,k) = (a:Int)) && chainB S.J (intoQ S.J (i,k)) r) = true;rw [hi,h4,hf]
   simp
  ·show lastQ S.J (intoQ S.J (i,k)) r = _;rw [hi,h5]
theorem round_proves {S:SetL} (hS:SetOk S) {north:Bool} {l:List (Nat × Bool)} {p:Int × Int} (h:RoundP S north l p):provesE S (l.map legI) = 0 /\ provesP S north (l.map legI) = p:=by
 obtain ⟨h1,h2,⟨c,h3⟩,h4,h5⟩:=h
 have hm:(l.map legI).map natG = l:=by
  rw [List.map_map]
  conv=>rhs;rw [<- List.map_id l]
  refine List.map_congr_left fun x _=>?_
  obtain ⟨i,k⟩:=x;show (((i:Int)).toNat,k) = (i,k)
  simp
 have hall:(l.map legI).all (inL S.J.length) = true:=all_inl fun g hg=>by
  have:=IsWalk.ok h3 g hg
  rwa [joOf_len] at this
 obtain ⟨h6,h7⟩:=walk_chain hS h3
 have h8:=lastQ_end S.J (c:Int) (l.map legI) (fun e=>by
  have:=congrArg List.length e;simp at this;subst this;exact absurd h1 (by decide))
 rw [hm,h7] at h8
 have hE:provesE S (l.map legI) = 0:=by
  unfold provesE;rw [if_neg (by simp [hS.e]),if_neg (by
   have:fromB ((l.map legI).length:Int) 1 60 = true:=by rw [fromB_iff];simp;omega
   rw [this];decide),if_neg (by rw [hall];decide),hm,<- h8,if_pos h6]
 refine ⟨hE,?_⟩;unfold provesP;rw [if_pos hE];unfold provesV;rw [hm,h5,List.length_map]
 congr 1
 omega
def WstR (S:SetL) (w:World) (e:Ending) (w':World):Prop:=∃ p,PlayOf S p /\ ((p.1 = 0 /\ e = .returned (.tuple #[.agg #[.bool false,.slice none 0 0],.int .i64 7])) \/
 (p.1 ≠ 0 /\ ∃ nb l A c,e = .returned (.tuple #[.agg #[.bool nb,.slice A (l.map legI).length c],.int .i64 0]) /\ Gs w' A (l.map legI) /\ RoundP S nb l p))
set_option maxRecDepth 100000 in
set_option maxHeartbeats 2000000 in
theorem worst_bad (S:SetL) (A:Option Addr) (c:Nat) (w:World) (hA:Quads w A S.J) (he:setE S ≠ 0) :
  Calls Tryz.prog 14 #[.agg #[.int .i64 S.n,.slice A S.J.length c]] w fun e w'=>e = .returned (.tuple #[.agg #[.bool false,.slice none 0 0],.int .i64 (setE S)]) /\ Aft w w':=by
 obtain ⟨s,hs⟩:∃ s,w.heap.size = s:=⟨_,rfl⟩;have F0:=((Fr.start w).alloc rfl 24 #[.int .i64 S.n,.slice A S.J.length c]).alloc (by simp) 27 #[.bool false,.slice none 0 0];simp only [List.nil_append,List.cons_append] at F0;rw [hs] at F0;have HO:=Lib.hid (opened_bad S A c _ (hA.aft F0.aft) he);have t1:(setE S != 0) = true:=by simpa using he
 have HF0:=Lib.hid F0;clear hA he F0;generalize setE S = E at *;go_enter Tryz.func14,Tryz.ntmps14;go_upto_region 2 with (go_at_call 32;refine HO.out.mono ?_;rintro e w2 ⟨rfl,u,rfl⟩)
 have HF2:=Lib.hid (HF0.out.later (Aft.lat _ u))
 try rw [hs]
 generalize (((w.alloc (.cells #[.int .i64 S.n,.slice A S.J.length c] 24)).alloc (.cells #[.bool false,.slice none 0 0] 27)).lat u) = W2 at *;have z0:=(HF2.out.nth 1 rfl).cell 0;have z1:=(HF2.out.nth 1 rfl).cell 1;have z2:=(HF2.out.nth 1 rfl).lt;have z3:=(HF2.out.nth 1 rfl).frozen 0;have z4:=(HF2.out.nth 1 rfl).frozen 1;simp only [List.getElem?_toArray,List.getElem?_cons_zero,List.getElem?_cons_succ] at z0 z1;clear HF0 HO;go_wp2_with fail
 have B2:=((HF2.out.nth 1 rfl).store 0 (.bool false)).store 1 (.slice none 0 0);have A2:=(HF2.out.aft.then_setCell (p:=⟨s + 1,0,none⟩) (by show w.heap.size <= s + 1;omega) (.bool false)).then_setCell (p:=⟨s + 1,1,none⟩) (by show w.heap.size <= s + 1;omega) (.slice none 0 0);generalize (W2.setCell ⟨s + 1,0,none⟩ (.bool false)).setCell ⟨s + 1,1,none⟩ (.slice none 0 0) = X at *;have z0:X.cell? ⟨s + 1,0,none⟩ = some (.bool false):=B2.cell 0;have z1:X.cell? ⟨s + 1,1,none⟩ = some (.slice none 0 0):=B2.cell 1;exact bodyPost_ret (v:=.tuple #[.agg #[.bool false,.slice none 0 0],.int .i64 E]) (by simp [results,Tryz.results14,go_sem,z0,z1]) rfl ⟨rfl,A2⟩
set_option maxRecDepth 100000 in
set_option maxHeartbeats 2000000 in
theorem worst_good (S:SetL) (A:Option Addr) (c:Nat) (w:World) (hA:Quads w A S.J) (he:setE S = 0) :
  Calls Tryz.prog 14 #[.agg #[.int .i64 S.n,.slice A S.J.length c]] w fun e w'=>WstR S w e w' /\ Aft w w':=by
 obtain ⟨s,hs⟩:∃ s,w.heap.size = s:=⟨_,rfl⟩;have hS:=setE_ok he;have F0:=((Fr.start w).alloc rfl 24 #[.int .i64 S.n,.slice A S.J.length c]).alloc (by simp) 27 #[.bool false,.slice none 0 0];simp only [List.nil_append,List.cons_append] at F0;rw [hs] at F0;have HO:=Lib.hid (opened_good S A c _ (hA.aft F0.aft) he);have HP:=Lib.hid fun w0 w d ap bf (h:WorkAt w0 w d S A c ap bf)=>plays_any S A c d ap bf w0 w h hS
 have HF0:=Lib.hid F0;clear hA he F0 hS;go_enter Tryz.func14,Tryz.ntmps14;go_upto_region 2 with (go_at_call 32;refine HO.out.mono ?_;rintro e w2 ⟨d,rfl,hw2⟩)
 have HF2:=Lib.hid (HF0.out.later hw2.aft);have HW2:=Lib.hid hw2;have hdb:=hw2.base;clear hw2;simp only [World.size_alloc] at hdb
 try rw [hs]
 generalize ((w.alloc (.cells #[.int .i64 S.n,.slice A S.J.length c] 24)).alloc (.cells #[.bool false,.slice none 0 0] 27)) = W1 at *;clear HO HF0;go_upto_region 5 with (go_at_call 50;refine (HP.out _ _ _ _ _ HW2.out).mono ?_;rintro e w3 ⟨p,nb,v,ap3,bf3,rfl,hg3,hw3,hpl,hws⟩;obtain ⟨A9,n9,c9,rfl⟩:=hws.slice;have HG3:=Lib.hid hg3;have HPL:=Lib.hid hpl;have HWS:=Lib.hid hws;clear hg3 hw3 hpl hws)
 have F3:=HF2.out.grown HG3.out (fun r e=>by have e:d = r:=Option.some.inj e;omega);obtain ⟨z,hz⟩:∃ z,w3.heap.size = z:=⟨_,rfl⟩;have HB3:Hid (Blk ((w3.alloc (.cells #[.int .i64 p.1,.int .i64 p.2] 29)).alloc (.cells #[.bool nb,.slice A9 n9 c9] 27)) z 29 #[.int .i64 p.1,.int .i64 p.2]):=Lib.hid (by rw [<- hz];exact (Blk.new w3 29 _).alloc _);have HB4:Hid (Blk ((w3.alloc (.cells #[.int .i64 p.1,.int .i64 p.2] 29)).alloc (.cells #[.bool nb,.slice A9 n9 c9] 27)) (z + 1) 27 #[.bool nb,.slice A9 n9 c9]):=Lib.hid (by
  have:=Blk.new (w3.alloc (.cells #[.int .i64 p.1,.int .i64 p.2] 29)) 27 #[.bool nb,.slice A9 n9 c9];rw [World.size_alloc,hz] at this;exact this)
 have hA4:=(Aft.alloc w3 (.cells #[.int .i64 p.1,.int .i64 p.2] 29)).then_alloc (.cells #[.bool nb,.slice A9 n9 c9] 27);have HF3:=Lib.hid (F3.later hA4);have HA4:=Lib.hid hA4;clear F3 HG3 HF2 HW2 hA4
 try rw [hz]
 generalize (w3.alloc (.cells #[.int .i64 p.1,.int .i64 p.2] 29)).alloc (.cells #[.bool nb,.slice A9 n9 c9] 27) = W4 at *;clear hz;have y0:W4.cell? ⟨z,0,none⟩ = some (.int .i64 p.1):=HB3.out.cell 0;have y1:W4.cell? ⟨z,1,none⟩ = some (.int .i64 p.2):=HB3.out.cell 1;have y2:=HB3.out.lt;have x0:W4.cell? ⟨z + 1,0,none⟩ = some (.bool nb):=HB4.out.cell 0;have x1:W4.cell? ⟨z + 1,1,none⟩ = some (.slice A9 n9 c9):=HB4.out.cell 1;have x2:=HB4.out.lt;have z0:=(HF3.out.nth 1 rfl).cell 0;have z1:=(HF3.out.nth 1 rfl).cell 1;have z2:=(HF3.out.nth 1 rfl).lt;have z3:=(HF3.out.nth 1 rfl).frozen 0;have z4:=(HF3.out.nth 1 rfl).frozen 1;simp only [List.getElem?_toArray,List.getElem?_cons_zero,List.getElem?_cons_succ] at z0 z1;obtain ⟨p1,p2⟩:=p;dsimp only at y0 y1;by_cases hp:p1 = 0
 ·have tp:(p1 == 0) = true:=by simpa using hp
  have HQ:=Lib.hid hp;clear hp;go_wp2_with fail
  have B2:=((HF3.out.nth 1 rfl).store 0 (.bool false)).store 1 (.slice none 0 0);have A2:=(HF3.out.aft.then_setCell (p:=⟨s + 1,0,none⟩) (by show w.heap.size <= s + 1;omega) (.bool false)).then_setCell (p:=⟨s + 1,1,none⟩) (by show w.heap.size <= s + 1;omega) (.slice none 0 0);generalize (W4.setCell ⟨s + 1,0,none⟩ (.bool false)).setCell ⟨s + 1,1,none⟩ (.slice none 0 0) = X at *;have z0:X.cell? ⟨s + 1,0,none⟩ = some (.bool false):=B2.cell 0;have z1:X.cell? ⟨s + 1,1,none⟩ = some (.slice none 0 0):=B2.cell 1;exact bodyPost_ret (v:=.tuple #[.agg #[.bool false,.slice none 0 0],.int .i64 7]) (by simp [results,Tryz.results14,go_sem,z0,z1]) rfl ⟨⟨_,HPL.out,.inl ⟨HQ.out,rfl⟩⟩,A2⟩
 ·have tp:(p1 == 0) = false:=by simpa using hp
  have HQ:=Lib.hid hp;clear hp;rcases HWS.out with ⟨h0,-⟩ | ⟨g,cg,l,hv,hown,hrp⟩
  ·exact absurd h0 HQ.out
  ·cases hv;have HOW:=Lib.hid (own_aft hown HA4.out);have HRP:=Lib.hid hrp;have hl12:l.length <= 12:=hrp.2.1;clear hown hrp;obtain ⟨m,hm⟩:∃ m,l.map legI = m:=⟨_,rfl⟩;have hml:m.length = l.length:=by rw [<- hm,List.length_map]
   rw [hm] at HOW;have HM:=Lib.hid (And.intro hm hml);clear hm hml;go_wp2_with fail
   have B2:=((HF3.out.nth 1 rfl).store 0 (.bool nb)).store 1 (.slice (some ⟨g,0,none⟩) l.length c9);have Q2:=own_far2 (own_far2 HOW.out (HF3.out.nth 1 rfl) (by decide) 0 (.bool nb)) ((HF3.out.nth 1 rfl).store 0 (.bool nb)) (by decide) 1 (.slice (some ⟨g,0,none⟩) l.length c9);have A2:=(HF3.out.aft.then_setCell (p:=⟨s + 1,0,none⟩) (by show w.heap.size <= s + 1;omega) (.bool nb)).then_setCell (p:=⟨s + 1,1,none⟩) (by show w.heap.size <= s + 1;omega) (.slice (some ⟨g,0,none⟩) l.length c9);generalize (W4.setCell ⟨s + 1,0,none⟩ (.bool nb)).setCell ⟨s + 1,1,none⟩ (.slice (some ⟨g,0,none⟩) l.length c9) = X at *;have z0:X.cell? ⟨s + 1,0,none⟩ = some (.bool nb):=B2.cell 0;have z1:X.cell? ⟨s + 1,1,none⟩ = some (.slice (some ⟨g,0,none⟩) l.length c9):=B2.cell 1;have Q3:X.ownsRow w2.heap.size 34 2 (.slice (some ⟨g,0,none⟩) m.length c9) m.length (m.flatMap encG):=by rw [HM.out.2];exact Q2
   obtain ⟨A5,c5,hv5,-,hg5,-⟩:=own_flat (enc:=encG) (sz:=2) (fun _=>rfl) Q3 (by have:=HM.out.2;omega);cases hv5;refine bodyPost_ret (v:=.tuple #[.agg #[.bool nb,.slice (some ⟨g,0,none⟩) l.length c9],.int .i64 0]) (by simp [results,Tryz.results14,go_sem,z0,z1]) rfl ⟨⟨_,HPL.out,.inr ⟨HQ.out,nb,l,some ⟨g,0,none⟩,c9,?_,?_,HRP.out⟩⟩,A2⟩
   ·rw [HM.out.1,HM.out.2]
   ·rw [HM.out.1];exact hg5
end Go.Proofs
end
section
/- Walks: the kit's Clone. -/
namespace Go.Proofs
open Go.RowKit
attribute [local go_sem] Oper.semAt_some
set_option maxHeartbeats 1000000 in
theorem kitCloneJoint (A:Option Addr) (l:List (Q4)) (c:Nat) (w:World) (hA:RowsP w A 4 (FlatR enc4) l) :
  Calls Tryz.prog 31 #[.slice A l.length c] w (OwnF 72 4 enc4 w l):=by
 have hl:=hA.len (by decide);have hb:l.length * 32 <= 140737488355328:=by have:=hA.1;omega
 go_enter Tryz.func31,Tryz.ntmps31;go_wp2_with (at_builtin;refine wpList_app ty23 rfl _ _ rfl (Aft.refl w) rfl (World.ownsRow_nil w _ 72 4) rfl (flat_len (enc:=enc4) (sz:=4) (fun _=>rfl) l) (rows_nil hA) (rows_src (enc:=enc4) (fun _=>rfl) (by decide) hA) (enc4_one l) (by omega) (by decide) ?_;intro v' w1 hown' hgrow haft)
 go_ret;exact ⟨_,rfl,by simpa using hown',haft⟩
end Go.Proofs
end
