/- Own texts, merged: CtC CtD CtE CtF CtG CtFi CtH CtI. -/
import Derived.Test.YtbchfakfdikkjaaGreatS04
set_option linter.unusedSimpArgs false
set_option linter.unusedVariables false
set_option linter.unnecessarySimpa false
section
/- Walks: marked. -/
namespace Go.Proofs
open Go.RowKit
open Court (refL)
theorem refL_succ (l:List Int) (k:Nat) (h:k < l.length):refL (l.take (k + 1)) = setM (refL (l.take k)) l[k]:=by
 funext n
 unfold refL setM;rw [List.take_succ_eq_append_getElem h];show (List.take k l ++ [l[k]]).contains n = if n = l[k] then true else (List.take k l).contains n
 rw [List.contains_eq_mem,List.contains_eq_mem];by_cases e:n = l[k]
 ·rw [if_pos e];exact decide_eq_true (List.mem_append.2 (.inr (by rw [e];simp)))
 ·rw [if_neg e];exact decide_eq_decide.2 ⟨fun h=>(List.mem_append.1 h).elim id (fun h=>absurd (List.mem_singleton.1 h) e),fun h=>List.mem_append.2 (.inl h)⟩
theorem mkL_none:mkL (refL []) = List.replicate 14 (.bool false):=by
 unfold mkL refL;rfl
theorem info87:(Tryz.prog.info? 87).map (·.size) = some 14:=by kernel_rfl
theorem info92:(Tryz.prog.info? 92).map (·.size) = some 14:=by kernel_rfl
theorem blk_range {w:World} {g:Nat} {t:TypeId} {cs:List Value} (h:Blk w g t cs.toArray):w.rangeAt g 0 cs:=fun j v hv=>by
 rw [h.cell,Nat.zero_add,List.getElem?_toArray];exact hv
theorem blk_there {w:World} {g:Nat} {t:TypeId} {cs:Array Value} (h:Blk w g t cs) {n:Nat} (hn:n = cs.size):w.there g 0 n:=fun j hj=>by
 subst hn;rw [h.cell,h.frozen,Nat.zero_add];exact ⟨by simp [hj],rfl⟩
def Marked (l:List Int) (w:World) (e:Ending) (w':World):Prop:=e = .returned (.agg (mk (refL l))) /\ Aft w w'
set_option maxRecDepth 100000 in
set_option maxHeartbeats 2000000 in
theorem marked_any (l:List Int) (A:Option Addr) (c:Nat) (w:World) (hA:Ints w A l) (hl:∀ n ∈ l,0 <= n /\ n < 14) :
  Calls Tryz.prog 71 #[.slice A l.length c] w (Marked l w):=by
 have hll:=hA.len;have HA:=Lib.hid hA;have HL:Hid (∀ k,(h:k < l.length) -> 0 <= l[k] /\ l[k] < 14):=Lib.hid fun k h=>hl _ (List.getElem_mem h)
 clear hA hl;go_enter Tryz.func71,Tryz.ntmps71;go_wp2_with fail
 have HB0:Hid (Blk ((w.alloc (.cells (List.replicate 14 (Value.bool false)).toArray 87)).alloc (.cells (List.replicate 14 (Value.bool false)).toArray 87)) w.heap.size 87 (List.replicate 14 (Value.bool false)).toArray):=Lib.hid ((Blk.new w 87 _).alloc _);have HB1:Hid (Blk ((w.alloc (.cells (List.replicate 14 (Value.bool false)).toArray 87)).alloc (.cells (List.replicate 14 (Value.bool false)).toArray 87)) (w.heap.size + 1) 87 (mk (refL (l.take 0)))):=Lib.hid (by
  have:=Blk.new (w.alloc (.cells (List.replicate 14 (Value.bool false)).toArray 87)) 87 (List.replicate 14 (Value.bool false)).toArray;rw [World.size_alloc] at this;rw [List.take_zero];unfold mk;rw [mkL_none];exact this)
 have HA1:Hid (Aft w ((w.alloc (.cells (List.replicate 14 (Value.bool false)).toArray 87)).alloc (.cells (List.replicate 14 (Value.bool false)).toArray 87))):=Lib.hid ((Aft.alloc _ _).then_alloc _);change Code.wp _ _ _ _ ((w.alloc (.cells (List.replicate 14 (Value.bool false)).toArray 87)).alloc (.cells (List.replicate 14 (Value.bool false)).toArray 87));generalize (w.alloc (.cells (List.replicate 14 (Value.bool false)).toArray 87)).alloc (.cells (List.replicate 14 (Value.bool false)).toArray 87) = W1 at *;go_loopw [8] (fun i wr=>∃ k:Nat,i = .int .i64 k /\ k <= l.length /\ Blk wr w.heap.size 87 (List.replicate 14 (Value.bool false)).toArray /\ Blk wr (w.heap.size + 1) 87 (mk (refL (l.take k))) /\ Aft w wr) (fun i _=>l.length - (intOf i).toNat)
 case atStart=>exact ⟨0,rfl,by omega,HB0.out,HB1.out,HA1.out⟩
 case round =>
  obtain ⟨k,rfl,hk,hb0,hb1,ha⟩:=hrel;have HA2:=Lib.hid ha;have HB2:=Lib.hid hb0;have HB3:=Lib.hid hb1;by_cases hkl:k < l.length
  ·obtain ⟨b,o,rfl,hb,hc⟩:=(HA.out.aft ha).at hkl;have h1:=hc k hkl;obtain ⟨h2,h3⟩:=HL.out k hkl;have HS:=Lib.hid (refL_succ l k hkl);clear hc ha hb0 hb1;obtain ⟨n,hn⟩:∃ n:Nat,l[k] = n:=⟨l[k].toNat,by omega⟩;rw [hn] at h1 h2 h3 HS;clear hn;have hn14:n < 14:=by omega
   have k1:=(HB3.out.cell n).trans (mk_get _ hn14);have k2:=HB3.out.frozen n;go_wp2_with fail
   exact ⟨⟨k + 1,by go_num,by omega,HB2.out.far (p:=⟨w.heap.size + 1,n,none⟩) (by show w.heap.size ≠ w.heap.size + 1;omega) _,by
    have:=HB3.out.store n (.bool true);rw [mk_set _ hn14,<- HS.out] at this;exact this,HA2.out.then_setCell (p:=⟨w.heap.size + 1,n,none⟩) (by show w.heap.size <= w.heap.size + 1;omega) _⟩,by simp [intOf];omega⟩
  ·obtain rfl:k = l.length:=by omega
   rw [List.take_of_length_le (Nat.le_refl _)] at HB3;have HR:=Lib.hid (blk_range HB3.out);have HTH:=Lib.hid (blk_there HB2.out (mk_size (refL l)).symm.symm);obtain ⟨W9,hW9,hl2,h9⟩:∃ W9,wr.setCells w.heap.size 0 (mk (refL l)).toList = W9 /\ (loadVar 87 ⟨w.heap.size,0,none⟩).run Tryz.prog W9 = .ok (.agg (mk (refL l))) W9 /\ Aft w W9 :=
    ⟨_,rfl,run_loadVar_mid (P:=Tryz.prog) _ w.heap.size 0 87 (mkL (refL l)) _ (World.rangeAt_setCells_same wr w.heap.size 0 (mkL (refL l)) (blk_there HB2.out (mkL_len _))) Tryz.underlying87 rfl (by rw [info87,mkL_len]),
     HA2.out.grown (only_setCells _ _ _ (only_refl _ _)) (fun k e=>by cases e;exact Nat.le_refl _)⟩
   have H9:=Lib.hid h9;clear hb0 hb1 HL h9 ha;go_wp2_with (first | (refine wpList_load_mid rfl 87 (.tmp 3) rfl (w.heap.size + 1) 0 rfl (mkL (refL l)) _ HR.out Tryz.underlying87 rfl (by rw [info87,mkL_len]) ?_) | (refine wpList_store_mid rfl 87 (.tmp 2) (.tmp 15) rfl w.heap.size 0 (mk (refL l)) rfl rfl HTH.out (by rw [info87,mk_size]) (all_oneCell_toArray (mkL_one _)) ?_;rw [hW9]))
   refine bodyPost_ret (v:=.agg (mk (refL l))) ?_ rfl ⟨rfl,H9.out⟩;simp [results,Tryz.results71,Act.put,asAddr,hl2]
end Go.Proofs
end
section
/- Walks: begun,opened. -/
namespace Go.Proofs
open Go.RowKit
open Court (refL begF noS)
def deskA (N:Int) (a1:Option Addr) (n1 c1:Nat) (a2:Option Addr) (n2 c2:Nat) (p q:Int -> Bool):Array Value:=([Value.int .i64 N,Value.slice a1 n1 c1,Value.slice a2 n2 c2] ++ (mkL p ++ (mkL q ++ (mnL (fun _=>0) ++ mnL (fun _=>0))))).toArray
set_option maxRecDepth 100000 in
theorem build94 (N:Int) (a1:Option Addr) (n1 c1:Nat) (a2:Option Addr) (n2 c2:Nat) (p q:Int -> Bool) (w:World):(Instr.build 94 #[(0,.agg #[.int .i64 N,.slice a1 n1 c1,.slice a2 n2 c2]),(1,.agg (mk p)),(2,.agg (mk q))]).run Tryz.prog w = .ok (.agg (deskA N a1 n1 c1 a2 n2 c2 p q)) w:=by kernel_rfl
attribute [local go_sem ↓] build94
def begTo (ref:Int -> Bool) (k:Nat):Int -> Nat:=fun n=>if n < k /\ 0 <= n then begF ref n else 0
theorem begTo_zero (ref:Int -> Bool):begTo ref 0 = fun _=>0:=by
 funext n;unfold begTo;rw [if_neg (by omega)]
theorem begTo_no {ref:Int -> Bool} {k:Nat} (h:ref k = false):begTo ref (k + 1) = begTo ref k:=by
 funext n
 unfold begTo begF;by_cases e:n = k
 ·subst e;rw [if_neg (by omega:¬ ((k:Int) < k /\ _)),h];simp
 ·by_cases h2:n < k /\ 0 <= n
  ·rw [if_pos h2,if_pos (by omega)]
  ·rw [if_neg h2,if_neg (by omega)]
theorem begTo_yes {ref:Int -> Bool} {k:Nat} (h:ref k = true):begTo ref (k + 1) = Court.setF (begTo ref k) k 2:=by
 funext n
 unfold begTo begF Court.setF;by_cases e:n = k
 ·subst e;rw [if_pos (by omega),if_pos rfl,if_pos h]
 ·rw [if_neg e];dsimp only;by_cases h2:n < k /\ 0 <= n
  ·rw [if_pos h2,if_pos (by omega)]
  ·rw [if_neg h2,if_neg (by omega)]
theorem begTo_all {R:List Int} {N:Int} (hR:∀ n ∈ R,0 <= n /\ n < N) (k:Nat) (hk:(k:Int) = N):begTo (refL R) k = begF (refL R):=by
 funext n
 unfold begTo begF refL;by_cases h2:n < k /\ 0 <= n
 ·rw [if_pos h2]
 ·rw [if_neg h2,if_neg];intro h;have:=hR n (by simpa using h);omega
theorem box25 {W:World} {b:Nat} {N:Int} {s1 s2:Value} (h:Blk W b 25 #[.int .i64 N,s1,s2]):W.cell? ⟨b,0,none⟩ = some (.int .i64 N) /\ W.cell? ⟨b,1,none⟩ = some s1 /\ W.cell? ⟨b,2,none⟩ = some s2 :=
 ⟨(h.cell 0).trans rfl,(h.cell 1).trans rfl,(h.cell 2).trans rfl⟩
set_option maxRecDepth 100000 in
set_option maxHeartbeats 2000000 in
theorem begun_any (C:CaseL) (a1 a2:Option Addr) (c1 c2:Nat) (R F:List Int) (A A':Option Addr) (c c':Nat) (w:World) (hN:1 <= C.claims /\ C.claims <= 14) (hC:CRep w C a1 a2) (hA:Ints w A R) (hA':Ints w A' F) (hR:∀ n ∈ R,0 <= n /\ n < C.claims) (hF:∀ n ∈ F,0 <= n /\ n < 14) :
  Calls Tryz.prog 61 #[(.agg #[.int .i64 C.claims,.slice a1 C.strikes.length c1,.slice a2 C.surveys.length c2]),.slice A R.length c,.slice A' F.length c'] w fun e w'=>∃ d,e = .returned (.pointer (some ⟨d,0,none⟩)) /\ DeskAt w w' d C a1 a2 c1 c2 (refL R) (refL F) (begF (refL R)) (fun _=>0):=by
 have h0:Aft w (w.alloc (.cells #[.int .i64 C.claims,.slice a1 C.strikes.length c1,.slice a2 C.surveys.length c2] 25)):=Aft.alloc _ _;have HB:=Lib.hid (Blk.new w 25 #[.int .i64 C.claims,.slice a1 C.strikes.length c1,.slice a2 C.surveys.length c2]);have H1:Hid (∀ W,Aft w W -> Calls Tryz.prog 71 #[.slice A R.length c] W (Marked R W)):=Lib.hid fun W h=>marked_any R A c W (hA.aft h) fun n hn=>⟨(hR n hn).1,by have:=(hR n hn).2;omega⟩
 have H2:Hid (∀ W,Aft w W -> Calls Tryz.prog 71 #[.slice A' F.length c'] W (Marked F W)):=Lib.hid fun W h=>marked_any F A' c' W (hA'.aft h) hF
 have HC:=Lib.hid hC;have H0:=Lib.hid h0;have HR:=Lib.hid (begTo_all hR);clear hC hA hA' hR hF h0;go_enter Tryz.func61,Tryz.ntmps61;go_wp2_with fail
 obtain ⟨W1,hW1⟩:∃ W1,w.alloc (.cells #[.int .i64 C.claims,.slice a1 C.strikes.length c1,.slice a2 C.surveys.length c2] 25) = W1:=⟨_,rfl⟩;rw [hW1] at HB H0;rw [hW1];have hlt:=HB.out.lt;have k0:=HB.out.cell 0;have k1:=HB.out.cell 1;have k2:=HB.out.cell 2;simp only [List.getElem?_toArray,List.getElem?_cons_zero,List.getElem?_cons_succ] at k0 k1 k2;clear hW1;clear k0 k1 k2;refine wp_region_valsT (by kernel_rfl) 5 34 rfl (by kernel_rfl) (by kernel_rfl) (by kernel_rfl) [(.agg #[.int .i64 C.claims,.slice a1 C.strikes.length c1,.slice a2 C.surveys.length c2]),.slice A R.length c,.agg (mk (refL R)),.slice A' F.length c',.agg (mk (refL F))] rfl (fun _ W=>Aft W1 W) (Aft.drew _) ?step ?fin
 case step =>
  intro i o v ho hv
  match i,ho,hv with
  | 0,ho,hv =>
   cases ho;cases hv;refine .inl ⟨rfl,fun done a W hd hp hk hw K hK=>?_⟩;have e3:=hk.s 3;obtain ⟨k0,k1,k2⟩:=box25 (HB.out.aft hw);exact op_val (by simp [go_sem,ev' e3,k0,k1,k2]) (hK _ hw)
  | 1,ho,hv =>
   cases ho;cases hv;refine .inl ⟨rfl,fun done a W hd hp hk hw K hK=>?_⟩;have e1:=hk.s 1;exact op_val (by simp [go_sem,ev' e1]) (hK _ hw)
  | 2,ho,hv =>
   cases ho;cases hv;refine .inl ⟨rfl,fun done a W hd hp hk hw K hK=>?_⟩;have e1:=hk.t 1;refine op_callN rfl rfl rfl _ rfl (vs:=#[.slice A R.length c]) (by simp [e1]) (H1.out _ (H0.out.trans hw)) ?_;rintro e w' ⟨rfl,hw'⟩;exact ⟨_,rfl,hK _ (hw.trans hw')⟩
  | 3,ho,hv =>
   cases ho;cases hv;refine .inl ⟨rfl,fun done a W hd hp hk hw K hK=>?_⟩;have e1:=hk.s 2;exact op_val (by simp [go_sem,ev' e1]) (hK _ hw)
  | 4,ho,hv =>
   cases ho;cases hv;refine .inl ⟨rfl,fun done a W hd hp hk hw K hK=>?_⟩;have e1:=hk.t 3;refine op_callN rfl rfl rfl _ rfl (vs:=#[.slice A' F.length c']) (by simp [e1]) (H2.out _ (H0.out.trans hw)) ?_;rintro e w' ⟨rfl,hw'⟩;exact ⟨_,rfl,hK _ (hw.trans hw')⟩
  | _ + 5,_,hv=>cases hv
 case fin =>
  intro done W hd hw;simp only [List.drop_succ_cons,List.drop_zero,List.zip_cons_cons,List.zip_nil_right,putAll];have HW:=Lib.hid hw;clear hw hd;refine wpList_val (v:=.agg (deskL C a1 a2 c1 c2 (refL R) (refL F) (fun _=>0) (fun _=>0)).toArray) (w':=W) rfl (by kernel_rfl) ?_;refine wpList_val (v:=.pointer (some ⟨W.heap.size,0,none⟩)) (w':=W.alloc (.cells (deskL C a1 a2 c1 c2 (refL R) (refL F) (fun _=>0) (fun _=>0)).toArray 94)) rfl (by kernel_rfl) ?_;have HD:Hid (DeskAt w (W.alloc (.cells (deskL C a1 a2 c1 c2 (refL R) (refL F) (fun _=>0) (fun _=>0)).toArray 94)) W.heap.size C a1 a2 c1 c2 (refL R) (refL F) (fun _=>0) (fun _=>0)):=Lib.hid ⟨Blk.new _ _ _,HC.out,(H0.out.trans HW.out).size,(H0.out.trans HW.out).then_alloc _⟩;have HB2:=Lib.hid ((HB.out.aft HW.out).alloc (.cells (deskL C a1 a2 c1 c2 (refL R) (refL F) (fun _=>0) (fun _=>0)).toArray 94));have hdB:w.heap.size < W.heap.size:=Nat.lt_of_lt_of_le hlt HW.out.size;generalize hD:W.heap.size = D at *;generalize W.alloc (.cells (deskL C a1 a2 c1 c2 (refL R) (refL F) (fun _=>0) (fun _=>0)).toArray 94) = W2 at *;clear hD;obtain ⟨k0,k1,k2⟩:=box25 HB2.out;have hl2:=HB2.out.lt;simp only [Act.put,List.setIfInBounds_toArray,List.set];go_wp2_with fail
  go_loopw [18] (fun i wr=>∃ k:Nat,i = .int .i64 k /\ (k:Int) <= C.claims /\ DeskAt w wr D C a1 a2 c1 c2 (refL R) (refL F) (begTo (refL R) k) (fun _=>0)) (fun i _=>C.claims.toNat - (intOf i).toNat)
  case atStart=>exact ⟨0,rfl,by omega,by rw [begTo_zero];exact HD.out⟩
  case round =>
   obtain ⟨k,rfl,hk,hd⟩:=hrel;have HDE:=Lib.hid hd;have hdl:=hd.lt;clear hd;by_cases hkl:(k:Int) < C.claims
   ·have hk14:k < 14:=by omega
    have r1:=HDE.out.rf hk14;have r2:=HDE.out.fz (31 + k);have r3:=HDE.out.found hk14;have t1:decide ((k:Int) < C.claims) = true:=by simpa using hkl
    cases hr:refL R k
    ·have HB9:=Lib.hid (begTo_no (ref:=refL R) (k:=k) hr);rw [hr] at r1;clear hr;go_wp2_with fail
     exact ⟨⟨k + 1,by go_num,by omega,by rw [HB9.out];exact HDE.out⟩,by simp [intOf];omega⟩
    ·have HB9:=Lib.hid (begTo_yes (ref:=refL R) (k:=k) hr);rw [hr] at r1;clear hr;go_wp2_with fail
     exact ⟨⟨k + 1,by go_num,by omega,by rw [HB9.out];exact HDE.out.setFound hk14 2⟩,by simp [intOf];omega⟩
   ·have t1:decide ((k:Int) < C.claims) = false:=by simpa using hkl
    have ek:(k:Int) = C.claims:=by omega
    have HE:Hid (begTo (refL R) k = begF (refL R)):=Lib.hid (HR.out k ek);clear hkl ek;go_wp2_with fail
    go_ret;exact ⟨D,rfl,by rw [<- HE.out];exact HDE.out⟩
end Go.Proofs
end
section
/- Walks: opened. -/
namespace Go.Proofs
open Go.RowKit
open Court (refL begF noS)
def openE (C:CaseL) (R:List Int):Int:=if caseE C = 0 then listedE C.claims R else caseE C
theorem openE_ok {C:CaseL} {R:List Int} (h:openE C R = 0):caseE C = 0 /\ listedE C.claims R = 0:=by
 unfold openE at h;split at h
 ·rename_i h1;exact ⟨h1,h⟩
 ·rename_i h1;exact absurd h h1
theorem listedE_ok {N:Int} {l:List Int} (h:listedE N l = 0):(∀ n ∈ l,0 <= n /\ n < N) /\ risesB l = true:=by
 unfold listedE at h;split at h
 ·rename_i h1
  split at h
  ·rename_i h2;exact ⟨fun n hn=>Cl_iff.1 (List.all_eq_true.1 h1 n hn),h2⟩
  ·cases h
 ·cases h
theorem refL_nil:refL [] = noS:=by funext n;rfl
set_option maxRecDepth 100000 in
set_option maxHeartbeats 2000000 in
theorem opened_bad (C:CaseL) (a1 a2:Option Addr) (c1 c2:Nat) (R:List Int) (A:Option Addr) (c:Nat) (w:World) (hC:CRep w C a1 a2) (hA:Ints w A R) (he:openE C R ≠ 0) :
  Calls Tryz.prog 68 #[(.agg #[.int .i64 C.claims,.slice a1 C.strikes.length c1,.slice a2 C.surveys.length c2]),.slice A R.length c] w fun e w'=>e = .returned (.tuple #[.pointer none,.int .i64 (openE C R)]) /\ Aft w w':=by
 have h0:Aft w (w.alloc (.cells #[.int .i64 C.claims,.slice a1 C.strikes.length c1,.slice a2 C.surveys.length c2] 25)):=Aft.alloc _ _;have H1:Hid (∀ W,Aft w W -> Calls Tryz.prog 34 #[(.agg #[.int .i64 C.claims,.slice a1 C.strikes.length c1,.slice a2 C.surveys.length c2])] W fun e w'=>e = .returned (.int .i64 (caseE C)) /\ Aft W w'):=Lib.hid fun W h=>check_any C a1 a2 c1 c2 W (hC.aft h)
 have hA:=Lib.hid hA;have H0:=Lib.hid h0;clear hC h0;unfold openE at he ⊢;go_enter Tryz.func68,Tryz.ntmps68;by_cases h1:caseE C = 0
 ·rw [if_pos h1] at he ⊢;have hn:=(caseE_ok h1);have H2:Hid (∀ W,Aft w W -> Calls Tryz.prog 69 #[(.agg #[.int .i64 C.claims,.slice a1 C.strikes.length c1,.slice a2 C.surveys.length c2]),.slice A R.length c] W fun e w'=>e = .returned (.int .i64 (listedE C.claims R)) /\ Aft W w'):=Lib.hid fun W h=>listed_any C.claims a1 a2 _ _ c1 c2 A R c W ⟨hn.n1,hn.n2⟩ (hA.out.aft h)
  have t1:(listedE C.claims R != 0) = true:=by simpa using he
  rw [h1] at H1;clear h1 he hn;generalize listedE C.claims R = E at *;go_wp2_with (first | (go_at_call 34;refine (H1.out _ H0.out).mono ?_;rintro e w' ⟨rfl,u,rfl⟩) | (go_at_call 69;refine (H2.out _ (H0.out.then_lat _)).mono ?_;rintro e w' ⟨rfl,u2,rfl⟩))
  go_ret2;exact ⟨rfl,(H0.out.then_lat _).then_lat _⟩
 ·rw [if_neg h1] at he ⊢;have t1:(caseE C != 0) = true:=by simpa using he
  have t2:(caseE C == 0) = false:=by simpa using he
  clear h1 he;generalize caseE C = E at *;go_wp2_with (go_at_call 34;refine (H1.out _ H0.out).mono ?_;rintro e w' ⟨rfl,u,rfl⟩)
  go_ret2;exact ⟨rfl,H0.out.then_lat _⟩
def Opened (C:CaseL) (a1 a2:Option Addr) (c1 c2:Nat) (R:List Int) (w:World) (e:Ending) (w':World):Prop:=∃ d,e = .returned (.tuple #[.pointer (some ⟨d,0,none⟩),.int .i64 0]) /\ DeskAt w w' d C a1 a2 c1 c2 (refL R) noS (begF (refL R)) (fun _=>0)
set_option maxRecDepth 100000 in
set_option maxHeartbeats 2000000 in
theorem opened_good (C:CaseL) (a1 a2:Option Addr) (c1 c2:Nat) (R:List Int) (A:Option Addr) (c:Nat) (w:World) (hC:CRep w C a1 a2) (hA:Ints w A R) (he:openE C R = 0) :
  Calls Tryz.prog 68 #[(.agg #[.int .i64 C.claims,.slice a1 C.strikes.length c1,.slice a2 C.surveys.length c2]),.slice A R.length c] w (Opened C a1 a2 c1 c2 R w):=by
 obtain ⟨hc,hl⟩:=openE_ok he;have hn:=caseE_ok hc;have hr:=(listedE_ok hl).1;have h0:Aft w (w.alloc (.cells #[.int .i64 C.claims,.slice a1 C.strikes.length c1,.slice a2 C.surveys.length c2] 25)):=Aft.alloc _ _;have H1:Hid (∀ W,Aft w W -> Calls Tryz.prog 34 #[(.agg #[.int .i64 C.claims,.slice a1 C.strikes.length c1,.slice a2 C.surveys.length c2])] W fun e w'=>e = .returned (.int .i64 (caseE C)) /\ Aft W w'):=Lib.hid fun W h=>check_any C a1 a2 c1 c2 W (hC.aft h)
 have H2:Hid (∀ W,Aft w W -> Calls Tryz.prog 69 #[(.agg #[.int .i64 C.claims,.slice a1 C.strikes.length c1,.slice a2 C.surveys.length c2]),.slice A R.length c] W fun e w'=>e = .returned (.int .i64 (listedE C.claims R)) /\ Aft W w'):=Lib.hid fun W h=>listed_any C.claims a1 a2 _ _ c1 c2 A R c W ⟨hn.n1,hn.n2⟩ (hA.aft h)
 have H3:Hid (∀ W,Aft w W -> Calls Tryz.prog 61 #[(.agg #[.int .i64 C.claims,.slice a1 C.strikes.length c1,.slice a2 C.surveys.length c2]),.slice A R.length c,.slice none 0 0] W fun e w'=>∃ d,e = .returned (.pointer (some ⟨d,0,none⟩)) /\ DeskAt w w' d C a1 a2 c1 c2 (refL R) noS (begF (refL R)) (fun _=>0)):=Lib.hid fun W h =>
  (begun_any C a1 a2 c1 c2 R [] A none c 0 W ⟨hn.n1,hn.n2⟩ (hC.aft h) (hA.aft h) RowsP.nil hr (by simp)).mono fun e w' ⟨d,h1,h2⟩=>⟨d,h1,by rw [<- refL_nil];exact ⟨h2.blk,hC,Nat.le_trans h.size h2.base,h.trans h2.aft⟩⟩
 rw [hc] at H1;rw [hl] at H2;have H0:=Lib.hid h0;clear hC h0 hA he hc hl hn hr;go_enter Tryz.func68,Tryz.ntmps68;go_wp2_with (first | (go_at_call 34;refine (H1.out _ H0.out).mono ?_;rintro e w' ⟨rfl,u,rfl⟩) | (go_at_call 69;refine (H2.out _ (H0.out.then_lat _)).mono ?_;rintro e w' ⟨rfl,u2,rfl⟩) | (go_at_call 61;refine (H3.out _ ((H0.out.then_lat _).then_lat _)).mono ?_;rintro e w' ⟨d,rfl,hd⟩;have HD:=Lib.hid hd;clear hd))
 go_ret2;exact ⟨d,rfl,HD.out⟩
end Go.Proofs
end
section
/- Walks: the claims that strike one. -/
namespace Go.Proofs
open Go.RowKit
open Court (refL begF noS)
attribute [local go_sem] Oper.semAt_some
def strikers (S:List (Int × Int)) (sure:Int -> Bool) (n:Int):List Int:=(S.filter fun s=>decide (s.2 = n) && !sure n).map (·.1)
theorem strikers_succ (S:List (Int × Int)) (sure:Int -> Bool) (n:Int) (k:Nat) (h:k < S.length):strikers (S.take (k + 1)) sure n = strikers (S.take k) sure n ++ if decide (S[k].2 = n) && !sure n then [S[k].1] else []:=by
 unfold strikers;rw [List.take_succ_eq_append_getElem h,List.filter_append,List.map_append]
 congr 1
 by_cases e:(decide (S[k].2 = n) && !sure n) = true
 ·rw [if_pos e,List.filter_cons,if_pos e];rfl
 ·rw [if_neg e,List.filter_cons,if_neg e];rfl
theorem strikers_get (S:List (Int × Int)) (sure:Int -> Bool) (n:Int) (k:Nat) (h:k < S.length) (he:(decide (S[k].2 = n) && !sure n) = true) :
  (strikers S sure n)[(strikers (S.take k) sure n).length]? = some S[k].1:=by
 have h1:strikers S sure n = strikers (S.take (k + 1)) sure n ++ strikers (S.drop (k + 1)) sure n:=by
  unfold strikers;rw [<- List.map_append,<- List.filter_append,List.take_append_drop]
 rw [h1,strikers_succ S sure n k h,if_pos he,List.append_assoc,List.getElem?_append_right (Nat.le_refl _),Nat.sub_self];rfl
def RepS (w0:World) (bd bn d:Nat) (C:CaseL) (a1 a2:Option Addr) (c1 c2:Nat) (ref sure:Int -> Bool) (n:Int) (W:World):Prop :=
 W.cell? ⟨bd,0,none⟩ = some (.pointer (some ⟨d,0,none⟩)) /\ W.cell? ⟨bn,0,none⟩ = some (.int .i64 n) /\ bd < W.heap.size /\ bn < W.heap.size /\ ∃ f r,DeskAt w0 W d C a1 a2 c1 c2 ref sure f r
def GivesS (L:List Int) (k:Nat) (_ _:World) (v:Value):Prop:=∃ x,L[k]? = some x /\ v = .int .i64 x
def YieldS (J:Nat -> World -> Prop) (Jx:World -> Prop) (B k:Nat) (W1:World) (e:Ending) (W':World):Prop :=
 (e = .returned (.bool true) /\ J (k + 1) W' /\ W'.heap[B + 2]? = W1.heap[B + 2]? /\ W1.heap.size <= W'.heap.size) \/ (e = .returned (.bool false) /\ Jx W')
def IterS (J:Nat -> World -> Prop) (Jx:World -> Prop) (N:Nat) (e:Ending) (W:World):Prop:=(∃ v,e = .returned v) /\ (J N W \/ Jx W)
set_option maxRecDepth 100000 in
set_option maxHeartbeats 2000000 in
theorem iter118 (fu:Nat) (w0:World) (bd bn d B:Nat) (C:CaseL) (a1 a2:Option Addr) (c1 c2:Nat) (ref sure:Int -> Bool) (n:Nat) (hn:n < 14) :
  IterOk fu 118 #[.pointer (some ⟨bd,0,none⟩),.pointer (some ⟨bn,0,none⟩)] B (strikers C.strikes sure n).length (GivesS (strikers C.strikes sure n)) (RepS w0 bd bn d C a1 a2 c1 c2 ref sure n):=by
 intro l J Jx W hsz hJ hrep hY h0;obtain ⟨k1,k2,k3,k4,f0,r0,hD⟩:=hrep 0 W h0;have hll:=hD.strs.len;have d1:=hD.k1;have d2:=hD.lt;have HJ:=Lib.hid hJ;have HR:=Lib.hid hrep;have HY:Hid (∀ k v W0 W1,k < (strikers C.strikes sure n).length -> J k W0 -> Aft W0 W1 -> B + 3 <= W0.heap.size -> GivesS (strikers C.strikes sure n) k W0 W1 v -> YieldAt Fence.wide (fu - 1) Tryz.prog l #[v] W1 (YieldS J Jx B k W1)):=Lib.hid hY;have H0:=Lib.hid h0;have HT0:=Lib.hid (show strikers (C.strikes.take 0) sure n = [] from rfl);have HTE:=Lib.hid (show strikers (C.strikes.take C.strikes.length) sure n = strikers C.strikes sure n by rw [List.take_of_length_le (Nat.le_refl _)]);clear hJ hrep hY h0 hD;refine callsIn_wide.2 ?_;show Calls Tryz.prog 118 #[.func (.yield l) #[] #[],.pointer (some ⟨bd,0,none⟩),.pointer (some ⟨bn,0,none⟩)] W (IterS J Jx (strikers C.strikes sure n).length);go_enter Tryz.func118,Tryz.ntmps118;go_wp2_with fail
 clear k1 k2 k3 k4 d1 d2;go_loopw [12] (fun i wr=>∃ k:Nat,i = .int .i64 k /\ k <= C.strikes.length /\ J (strikers (C.strikes.take k) sure n).length wr /\ B + 2 <= wr.heap.size) (fun i _=>C.strikes.length - (intOf i).toNat)
 case atStart=>exact ⟨0,rfl,by omega,by rw [HT0.out];exact H0.out,by omega⟩
 case round =>
  obtain ⟨k,rfl,hk,hj,hsz2⟩:=hrel;have HJK:=Lib.hid hj;obtain ⟨k1,k2,k3,k4,f,r,hD⟩:=HR.out _ _ hj;by_cases hkl:k < C.strikes.length
  ·obtain ⟨b,o,rfl,hb,hc⟩:=hD.strs.at hkl;obtain ⟨h1,h2⟩:=hc k hkl;have d1:=hD.lt;have d2:=hD.sr hn;have HSU:=Lib.hid (strikers_succ C.strikes sure n k hkl);have HGE:=Lib.hid (strikers_get C.strikes sure n k hkl);have hb3:B + 3 <= (wr.alloc (.cells #[.int .i64 C.strikes[k].1,.int .i64 C.strikes[k].2] 57)).heap.size:=by simp;omega
   have hg3:wr.grownBy (wr.alloc (.cells #[.int .i64 C.strikes[k].1,.int .i64 C.strikes[k].2] 57)) (some (B + 2)):=only_of_aft (Aft.alloc _ _) _;have HJ3:=Lib.hid (HJ.out _ _ _ HJK.out hg3);have HB3:=Lib.hid hb3;have HRP:=Lib.hid (HR.out _ _ HJ3.out);have hn14:(0:Int) <= (n:Int) /\ (n:Int) < 14:=by omega
   clear hc hD hj hg3 hb3;obtain ⟨x,hx⟩:∃ x,C.strikes[k].1 = x:=⟨_,rfl⟩;obtain ⟨y,hy⟩:∃ y,C.strikes[k].2 = y:=⟨_,rfl⟩;rw [hx] at h1 HJ3 HB3 HSU HGE HRP;rw [hy] at h2 HJ3 HB3 HSU HGE HRP;clear hx hy;go_upto_region 3 with (fail)
   have q0':=(Blk.new wr 57 #[.int .i64 x,.int .i64 y]).cell 0;have q1':=(Blk.new wr 57 #[.int .i64 x,.int .i64 y]).cell 1;have q2':=HRP.out.2.1;have q3':=HRP.out.1;have q4':(wr.alloc (.cells #[.int .i64 x,.int .i64 y] 57)).cell? ⟨d,17 + n,none⟩ = some (.bool (sure n)):=by simp [go_sem,d1,d2]
   obtain ⟨X,hX⟩:∃ X,(wr.alloc (.cells #[.int .i64 x,.int .i64 y] 57)).drew = X:=⟨_,rfl⟩;have HX:Hid (J (strikers (C.strikes.take k) sure n).length X /\ B + 3 <= X.heap.size):=Lib.hid (by rw [<- hX];exact ⟨HJ.out _ _ _ HJ3.out (only_drew (only_refl _ _)),HB3.out⟩);have q0:X.cell? ⟨wr.heap.size,0,none⟩ = some (.int .i64 x):=by rw [<- hX];exact q0'
   have q1:X.cell? ⟨wr.heap.size,1,none⟩ = some (.int .i64 y):=by rw [<- hX];exact q1'
   have q2:X.cell? ⟨bn,0,none⟩ = some (.int .i64 n):=by rw [<- hX];exact q2'
   have q3:X.cell? ⟨bd,0,none⟩ = some (.pointer (some ⟨d,0,none⟩)):=by rw [<- hX];exact q3'
   have q4:X.cell? ⟨d,17 + n,none⟩ = some (.bool (sure n)):=by rw [<- hX];exact q4'
   clear q0' q1' q2' q3' q4' HJ3 HB3 HRP h1 h2 d1 d2 k1 k2;generalize hbs:wr.heap.size = b3 at *;by_cases hyn:y = n
   ·have t1:(y == (n:Int)) = true:=by simpa using hyn
    cases hs:sure n
    ·rw [hs] at q4 HSU HGE;have HSU2:Hid (strikers (C.strikes.take (k + 1)) sure n = strikers (C.strikes.take k) sure n ++ [x]):=Lib.hid (by rw [HSU.out,if_pos (by simp [hyn])]);have HGE2:Hid ((strikers C.strikes sure n)[(strikers (C.strikes.take k) sure n).length]? = some x):=Lib.hid (HGE.out (by simp [hyn]));clear hs HSU HGE hyn;have hlt3:(strikers (C.strikes.take k) sure n).length < (strikers C.strikes sure n).length:=(List.getElem?_eq_some_iff.1 HGE2.out).1;obtain ⟨fn,tmps,assign,body,hy,hR⟩:=HY.out _ (.int .i64 x) X X hlt3 HX.out.1 (Aft.refl _) HX.out.2 ⟨x,HGE2.out,rfl⟩;have HRR:=Lib.hid hR;clear hR;refine (wpIn_wide (n:=fu)).1 ?_;refine region_valsTIn (by kernel_rfl) (fun _=>trivial) lift_wide 17 37 rfl (by kernel_rfl) (by kernel_rfl) (by kernel_rfl) [.pointer (some ⟨b3,1,none⟩),.int .i64 y,.int .i64 n,.bool true,.bool true,.pointer (some ⟨d,0,none⟩),.int .i64 n,.pointer (some ⟨d,0,none⟩),.pointer (some ⟨d,17,none⟩),.pointer (some ⟨d,17 + n,none⟩),.bool false,.bool true,.bool true,.bool true,.func (.yield l) #[] #[],.pointer (some ⟨b3,0,none⟩),.int .i64 x] rfl (fun _ W=>W = X) (hX) ?st1 ?fi1
     case st1 =>
      intro i o v ho hv
      match i,ho,hv with
      | 0,ho,hv =>
       cases ho;cases hv;refine .inl ⟨rfl,fun done a W hd hp hk hw K hK=>?_⟩;have e5:=hk.s 5;exact op_val (by simp [go_sem,ev' e5]) (hK _ hw)
      | 1,ho,hv =>
       cases ho;cases hv;refine .inl ⟨rfl,fun done a W hd hp hk hw K hK=>?_⟩;have e16:=hk.t 0;exact op_val (by simp [go_sem,ev' e16,hw,q1]) (hK _ hw)
      | 2,ho,hv =>
       cases ho;cases hv;refine .inl ⟨rfl,fun done a W hd hp hk hw K hK=>?_⟩;have e2:=hk.s 2;exact op_val (by simp [go_sem,ev' e2,hw,q2]) (hK _ hw)
      | 3,ho,hv =>
       cases ho;cases hv;refine .inl ⟨rfl,fun done a W hd hp hk hw K hK=>?_⟩;have e17:=hk.t 1;have e18:=hk.t 2;exact op_val (by simp [go_sem,ev' e17,ev' e18,t1]) (hK _ hw)
      | 4,ho,hv =>
       cases ho;cases hv;refine .inl ⟨rfl,fun done a W hd hp hk hw K hK=>?_⟩;have e19:=hk.t 3;exact op_val (by simp [go_sem,ev' e19]) (hK _ hw)
      | 5,ho,hv =>
       cases ho;cases hv;refine .inl ⟨rfl,fun done a W hd hp hk hw K hK=>?_⟩;have e1:=hk.s 1;exact op_val (by simp [go_sem,ev' e1,hw,q3]) (hK _ hw)
      | 6,ho,hv =>
       cases ho;cases hv;refine .inl ⟨rfl,fun done a W hd hp hk hw K hK=>?_⟩;have e2:=hk.s 2;exact op_val (by simp [go_sem,ev' e2,hw,q2]) (hK _ hw)
      | 7,ho,hv =>
       cases ho;cases hv;refine .inl ⟨rfl,fun done a W hd hp hk hw K hK=>?_⟩;have e21:=hk.t 5;exact op_val (by simp [go_sem,ev' e21]) (hK _ hw)
      | 8,ho,hv =>
       cases ho;cases hv;refine .inl ⟨rfl,fun done a W hd hp hk hw K hK=>?_⟩;have e23:=hk.t 7;exact op_val (by simp [go_sem,ev' e23]) (hK _ hw)
      | 9,ho,hv =>
       cases ho;cases hv;refine .inl ⟨rfl,fun done a W hd hp hk hw K hK=>?_⟩;have e22:=hk.t 6;have e24:=hk.t 8;exact op_val (by simp [go_sem,ev' e22,ev' e24,hn14]) (hK _ hw)
      | 10,ho,hv =>
       cases ho;cases hv;refine .inl ⟨rfl,fun done a W hd hp hk hw K hK=>?_⟩;have e25:=hk.t 9;exact op_val (by simp [go_sem,ev' e25,hw,q4]) (hK _ hw)
      | 11,ho,hv =>
       cases ho;cases hv;refine .inl ⟨rfl,fun done a W hd hp hk hw K hK=>?_⟩;have e26:=hk.t 10;exact op_val (by simp [go_sem,ev' e26]) (hK _ hw)
      | 12,ho,hv =>
       cases ho;cases hv;refine .inl ⟨rfl,fun done a W hd hp hk hw K hK=>?_⟩;have e20:=hk.t 4;have e27:=hk.t 11;exact op_val (by simp [go_sem,ev' e20,ev' e27]) (hK _ hw)
      | 13,ho,hv =>
       cases ho;cases hv;refine .inl ⟨rfl,fun done a W hd hp hk hw K hK=>?_⟩;have e28:=hk.t 12;exact op_val (by simp [go_sem,ev' e28]) (hK _ hw)
      | 14,ho,hv =>
       cases ho;cases hv;refine .inl ⟨rfl,fun done a W hd hp hk hw K hK=>?_⟩;have e0:=hk.s 0;exact op_val (by simp [go_sem,ev' e0]) (hK _ hw)
      | 15,ho,hv =>
       cases ho;cases hv;refine .inl ⟨rfl,fun done a W hd hp hk hw K hK=>?_⟩;have e5:=hk.s 5;exact op_val (by simp [go_sem,ev' e5]) (hK _ hw)
      | 16,ho,hv =>
       cases ho;cases hv;refine .inl ⟨rfl,fun done a W hd hp hk hw K hK=>?_⟩;have e31:=hk.t 15;exact op_val (by simp [go_sem,ev' e31,hw,q0]) (hK _ hw)
      | _ + 17,_,hv=>cases hv
     intro done W hd hw;simp only [List.drop_succ_cons,List.drop_zero,List.zip_cons_cons,List.zip_nil_right,putAll];simp only [Act.put,List.setIfInBounds_toArray,List.set];clear hd;subst hw;gi_wp2_with fail
     refine ⟨(fun h=>by cases h),HRR.out.mono ?_⟩;rintro e W3 (⟨rfl,hJ3,hk3,hs3⟩ | ⟨rfl,hJx3⟩)
     ·have hs3':B + 3 <= W3.heap.size:=Nat.le_trans HX.out.2 hs3;have HJ4:Hid (J (strikers (C.strikes.take (k + 1)) sure n).length W3):=Lib.hid (by rw [HSU2.out,List.length_append];exact hJ3);clear hy HRR hJ3 hk3 hs3;gi_wp2_with fail
      go_wp2_with fail
      exact ⟨⟨k + 1,by go_num,by omega,HJ4.out,by omega⟩,by simp [intOf];omega⟩
     ·clear hy HRR;gi_wp2_with fail
      go_wp2_with fail
      go_end0;exact ⟨⟨_,rfl⟩,.inr hJx3⟩
    ·rw [hs] at q4 HSU;have HSU2:Hid (strikers (C.strikes.take (k + 1)) sure n = strikers (C.strikes.take k) sure n):=Lib.hid (by rw [HSU.out];simp);clear hs HSU HGE hyn;refine wp_region_valsT (by kernel_rfl) 17 37 rfl (by kernel_rfl) (by kernel_rfl) (by kernel_rfl) [.pointer (some ⟨b3,1,none⟩),.int .i64 y,.int .i64 n,.bool true,.bool true,.pointer (some ⟨d,0,none⟩),.int .i64 n,.pointer (some ⟨d,0,none⟩),.pointer (some ⟨d,17,none⟩),.pointer (some ⟨d,17 + n,none⟩),.bool true,.bool false,.bool false,.bool false,undef,undef,undef] rfl (fun _ W=>W = X) (hX) ?st2 ?fi2
     case st2 =>
      intro i o v ho hv
      match i,ho,hv with
      | 0,ho,hv =>
       cases ho;cases hv;refine .inl ⟨rfl,fun done a W hd hp hk hw K hK=>?_⟩;have e5:=hk.s 5;exact op_val (by simp [go_sem,ev' e5]) (hK _ hw)
      | 1,ho,hv =>
       cases ho;cases hv;refine .inl ⟨rfl,fun done a W hd hp hk hw K hK=>?_⟩;have e16:=hk.t 0;exact op_val (by simp [go_sem,ev' e16,hw,q1]) (hK _ hw)
      | 2,ho,hv =>
       cases ho;cases hv;refine .inl ⟨rfl,fun done a W hd hp hk hw K hK=>?_⟩;have e2:=hk.s 2;exact op_val (by simp [go_sem,ev' e2,hw,q2]) (hK _ hw)
      | 3,ho,hv =>
       cases ho;cases hv;refine .inl ⟨rfl,fun done a W hd hp hk hw K hK=>?_⟩;have e17:=hk.t 1;have e18:=hk.t 2;exact op_val (by simp [go_sem,ev' e17,ev' e18,t1]) (hK _ hw)
      | 4,ho,hv =>
       cases ho;cases hv;refine .inl ⟨rfl,fun done a W hd hp hk hw K hK=>?_⟩;have e19:=hk.t 3;exact op_val (by simp [go_sem,ev' e19]) (hK _ hw)
      | 5,ho,hv =>
       cases ho;cases hv;refine .inl ⟨rfl,fun done a W hd hp hk hw K hK=>?_⟩;have e1:=hk.s 1;exact op_val (by simp [go_sem,ev' e1,hw,q3]) (hK _ hw)
      | 6,ho,hv =>
       cases ho;cases hv;refine .inl ⟨rfl,fun done a W hd hp hk hw K hK=>?_⟩;have e2:=hk.s 2;exact op_val (by simp [go_sem,ev' e2,hw,q2]) (hK _ hw)
      | 7,ho,hv =>
       cases ho;cases hv;refine .inl ⟨rfl,fun done a W hd hp hk hw K hK=>?_⟩;have e21:=hk.t 5;exact op_val (by simp [go_sem,ev' e21]) (hK _ hw)
      | 8,ho,hv =>
       cases ho;cases hv;refine .inl ⟨rfl,fun done a W hd hp hk hw K hK=>?_⟩;have e23:=hk.t 7;exact op_val (by simp [go_sem,ev' e23]) (hK _ hw)
      | 9,ho,hv =>
       cases ho;cases hv;refine .inl ⟨rfl,fun done a W hd hp hk hw K hK=>?_⟩;have e22:=hk.t 6;have e24:=hk.t 8;exact op_val (by simp [go_sem,ev' e22,ev' e24,hn14]) (hK _ hw)
      | 10,ho,hv =>
       cases ho;cases hv;refine .inl ⟨rfl,fun done a W hd hp hk hw K hK=>?_⟩;have e25:=hk.t 9;exact op_val (by simp [go_sem,ev' e25,hw,q4]) (hK _ hw)
      | 11,ho,hv =>
       cases ho;cases hv;refine .inl ⟨rfl,fun done a W hd hp hk hw K hK=>?_⟩;have e26:=hk.t 10;exact op_val (by simp [go_sem,ev' e26]) (hK _ hw)
      | 12,ho,hv =>
       cases ho;cases hv;refine .inl ⟨rfl,fun done a W hd hp hk hw K hK=>?_⟩;have e20:=hk.t 4;have e27:=hk.t 11;exact op_val (by simp [go_sem,ev' e20,ev' e27]) (hK _ hw)
      | 13,ho,hv =>
       cases ho;cases hv;refine .inl ⟨rfl,fun done a W hd hp hk hw K hK=>?_⟩;have e28:=hk.t 12;exact op_val (by simp [go_sem,ev' e28]) (hK _ hw)
      | 14,ho,hv=>cases ho;cases hv;exact .inr ⟨rfl,rfl,fun _ _ h=>h⟩
      | 15,ho,hv=>cases ho;cases hv;exact .inr ⟨rfl,rfl,fun _ _ h=>h⟩
      | 16,ho,hv=>cases ho;cases hv;exact .inr ⟨rfl,rfl,fun _ _ h=>h⟩
      | _ + 17,_,hv=>cases hv
     intro done W hd hw;simp only [List.drop_succ_cons,List.drop_zero,List.zip_cons_cons,List.zip_nil_right,putAll];simp only [Act.put,List.setIfInBounds_toArray,List.set];clear hd;subst hw;go_wp2_with fail
     exact ⟨⟨k + 1,by go_num,by omega,by rw [HSU2.out];exact HX.out.1,by have:=HX.out.2;omega⟩,by simp [intOf];omega⟩
   ·have t1:(y == (n:Int)) = false:=by simpa using hyn
    have HSU2:Hid (strikers (C.strikes.take (k + 1)) sure n = strikers (C.strikes.take k) sure n):=Lib.hid (by rw [HSU.out,decide_eq_false hyn];simp);clear HSU HGE hyn;refine wp_region_valsT (by kernel_rfl) 17 37 rfl (by kernel_rfl) (by kernel_rfl) (by kernel_rfl) [.pointer (some ⟨b3,1,none⟩),.int .i64 y,.int .i64 n,.bool false,.bool false,undef,undef,undef,undef,undef,undef,undef,.bool false,.bool false,undef,undef,undef] rfl (fun _ W=>W = X) (hX) ?st3 ?fi3
    case st3 =>
     intro i o v ho hv
     match i,ho,hv with
     | 0,ho,hv =>
      cases ho;cases hv;refine .inl ⟨rfl,fun done a W hd hp hk hw K hK=>?_⟩;have e5:=hk.s 5;exact op_val (by simp [go_sem,ev' e5]) (hK _ hw)
     | 1,ho,hv =>
      cases ho;cases hv;refine .inl ⟨rfl,fun done a W hd hp hk hw K hK=>?_⟩;have e16:=hk.t 0;exact op_val (by simp [go_sem,ev' e16,hw,q1]) (hK _ hw)
     | 2,ho,hv =>
      cases ho;cases hv;refine .inl ⟨rfl,fun done a W hd hp hk hw K hK=>?_⟩;have e2:=hk.s 2;exact op_val (by simp [go_sem,ev' e2,hw,q2]) (hK _ hw)
     | 3,ho,hv =>
      cases ho;cases hv;refine .inl ⟨rfl,fun done a W hd hp hk hw K hK=>?_⟩;have e17:=hk.t 1;have e18:=hk.t 2;exact op_val (by simp [go_sem,ev' e17,ev' e18,t1]) (hK _ hw)
     | 4,ho,hv =>
      cases ho;cases hv;refine .inl ⟨rfl,fun done a W hd hp hk hw K hK=>?_⟩;have e19:=hk.t 3;exact op_val (by simp [go_sem,ev' e19]) (hK _ hw)
     | 5,ho,hv=>cases ho;cases hv;exact .inr ⟨rfl,rfl,fun _ _ h=>h⟩
     | 6,ho,hv=>cases ho;cases hv;exact .inr ⟨rfl,rfl,fun _ _ h=>h⟩
     | 7,ho,hv=>cases ho;cases hv;exact .inr ⟨rfl,rfl,fun _ _ h=>h⟩
     | 8,ho,hv=>cases ho;cases hv;exact .inr ⟨rfl,rfl,fun _ _ h=>h⟩
     | 9,ho,hv=>cases ho;cases hv;exact .inr ⟨rfl,rfl,fun _ _ h=>h⟩
     | 10,ho,hv=>cases ho;cases hv;exact .inr ⟨rfl,rfl,fun _ _ h=>h⟩
     | 11,ho,hv=>cases ho;cases hv;exact .inr ⟨rfl,rfl,fun _ _ h=>h⟩
     | 12,ho,hv =>
      cases ho;cases hv;refine .inl ⟨rfl,fun done a W hd hp hk hw K hK=>?_⟩;have e20:=hk.t 4;have e27:=hk.t 11;exact op_val (by simp [go_sem,ev' e20,ev' e27]) (hK _ hw)
     | 13,ho,hv =>
      cases ho;cases hv;refine .inl ⟨rfl,fun done a W hd hp hk hw K hK=>?_⟩;have e28:=hk.t 12;exact op_val (by simp [go_sem,ev' e28]) (hK _ hw)
     | 14,ho,hv=>cases ho;cases hv;exact .inr ⟨rfl,rfl,fun _ _ h=>h⟩
     | 15,ho,hv=>cases ho;cases hv;exact .inr ⟨rfl,rfl,fun _ _ h=>h⟩
     | 16,ho,hv=>cases ho;cases hv;exact .inr ⟨rfl,rfl,fun _ _ h=>h⟩
     | _ + 17,_,hv=>cases hv
    intro done W hd hw;simp only [List.drop_succ_cons,List.drop_zero,List.zip_cons_cons,List.zip_nil_right,putAll];simp only [Act.put,List.setIfInBounds_toArray,List.set];clear hd;subst hw;go_wp2_with fail
    exact ⟨⟨k + 1,by go_num,by omega,by rw [HSU2.out];exact HX.out.1,by have:=HX.out.2;omega⟩,by simp [intOf];omega⟩
  ·obtain rfl:k = C.strikes.length:=by omega
   rw [HTE.out] at HJK;clear hj hD k1 k2 k3 k4;go_wp2_with fail
   go_end0;exact ⟨⟨_,rfl⟩,.inl HJK.out⟩
end Go.Proofs
end
section
/- Walks: ranges over the claims that strike one;struck. -/
namespace Go.Proofs
open Go.RowKit
open Court (refL begF noS struckB)
attribute [local go_sem] Oper.semAt_some
structure Fr (w:World) (B:Nat) (bs:List (Nat × TypeId × Array Value)) (W:World):Prop where
 aft:Aft w W
 blks:∀ x ∈ bs,x.1 < B /\ w.heap.size <= x.1 /\ Blk W x.1 x.2.1 x.2.2
 size:B <= W.heap.size
 ge:w.heap.size <= B
section
variable {w W W':World} {B:Nat} {bs:List (Nat × TypeId × Array Value)}
theorem Fr.later (h:Fr w B bs W) (ha:Aft W W'):Fr w B bs W':=⟨h.aft.trans ha,fun x hx=>let ⟨h1,h2,h3⟩:=h.blks x hx;⟨h1,h2,h3.aft ha⟩,Nat.le_trans h.size ha.size,h.ge⟩
theorem Fr.grown (h:Fr w B bs W) {r:Nat} (hg:W.grownBy W' (some r)) (hr:B <= r):Fr w B bs W' :=
 ⟨h.aft.grown hg (fun k e=>by cases e;exact Nat.le_trans h.ge hr),fun x hx=>let ⟨h1,h2,h3⟩:=h.blks x hx;⟨h1,h2,h3.grown hg (fun e=>by cases e;omega)⟩,Nat.le_trans h.size hg.size,h.ge⟩
theorem Fr.blk (h:Fr w B bs W) {g:Nat} {t:TypeId} {cs:Array Value} (hx:(g,t,cs) ∈ bs):Blk W g t cs:=(h.blks _ hx).2.2
theorem Fr.nth (h:Fr w B bs W) (i:Nat) {g:Nat} {t:TypeId} {cs:Array Value} (hx:bs[i]? = some (g,t,cs)):Blk W g t cs:=h.blk (List.mem_of_getElem? hx)
theorem Fr.sub (h:Fr w B bs W) {bs':List (Nat × TypeId × Array Value)} (hs:∀ x ∈ bs',x ∈ bs):Fr w B bs' W:=⟨h.aft,fun x hx=>h.blks x (hs x hx),h.size,h.ge⟩
theorem Fr.store (h:Fr w B bs W) {g:Nat} {t:TypeId} {cs:Array Value} (hx:(g,t,cs) ∈ bs) (i:Nat) (v:Value) {bs':List (Nat × TypeId × Array Value)} (hs:∀ x ∈ bs',x = (g,t,cs.setIfInBounds i v) \/ (x ∈ bs /\ x.1 ≠ g)):Fr w B bs' (W.setCell ⟨g,i,none⟩ v) :=
 ⟨h.aft.then_setCell (h.blks _ hx).2.1 _,fun x hx'=>by
  rcases hs x hx' with rfl | ⟨h1,h2⟩
  ·exact ⟨(h.blks _ hx).1,(h.blks _ hx).2.1,(h.blks _ hx).2.2.store i v⟩
  ·exact ⟨(h.blks _ h1).1,(h.blks _ h1).2.1,(h.blks _ h1).2.2.far (p:=⟨g,i,none⟩) h2 _⟩,by have:=h.size;simpa [World.setCell] using this,h.ge⟩
theorem Fr.three {β:Type} {bs:β -> List (Nat × TypeId × Array Value)} {p:β -> Prop}:Three B (fun s W=>Fr w B (bs s) W /\ p s):=fun _ _ _ _ h hg h1 _=>⟨h.1.grown hg h1,h.2⟩
end
theorem striking_any (d:Nat) (n:Int) (w:World) :
  Calls Tryz.prog 103 #[.pointer (some ⟨d,0,none⟩),.int .i64 n] w fun e w'=>e = .returned (.func (.func 118) #[] #[.pointer (some ⟨w.heap.size,0,none⟩),.pointer (some ⟨w.heap.size + 1,0,none⟩)]) /\ w' = (w.alloc (.cells #[.pointer (some ⟨d,0,none⟩)] 95)).alloc (.cells #[.int .i64 n] 3):=by
 go_enter Tryz.func103,Tryz.ntmps103;go_wp2_with fail
 go_ret;exact ⟨rfl,rfl⟩
theorem runs_118 (args:Array Value) (w:World):(callFunc 118 args).run Tryz.prog w = .ok (.enter 118 args) w:=by simp [go_sem]
theorem wpIn_striking {g:Operand} {p:Tmp} {assign body:Code} {Q:Exit -> Act -> World -> Prop} {a:Act} {w:World} {n:Nat} {w0:World} {bd bn d:Nat} {C:CaseL} {a1 a2:Option Addr} {c1 c2:Nat} {ref sure:Int -> Bool} {m:Nat} (hm:m < 14)
  (hg:a.eval g = .func (.func 118) #[] #[.pointer (some ⟨bd,0,none⟩),.pointer (some ⟨bn,0,none⟩)])
  (I:Nat -> World -> Prop) (Ix:Code -> World -> Prop) (hI:Three w.heap.size I) (hIa:∀ k W W',I k W -> Aft W W' -> I k W') (hIx:∀ c,Three w.heap.size (fun (_:Unit)=>Ix c)) (hrep:∀ k W,I k W -> RepS w0 bd bn d C a1 a2 c1 c2 ref sure m W) (h0:I 0 w) (a₁:Value -> Act)
  (hassign:∀ (l:Nat) (v:Value) (W:World) (K:Act -> World -> Prop),K (a₁ v) W ->
   assign.wpIn (Fence.wide.inRound l) (n - 1 - 1) Tryz.prog (Exit.then K (fun _ _ _=>False)) { tmps:=a.tmps.setIfInBounds p v,defers:=[] } W)
  (hbody:∀ (l k:Nat) (x:Int) (W:World),(strikers C.strikes sure m)[k]? = some x -> I k W -> w.heap.size + 3 <= W.heap.size -> body.wpIn (Fence.wide.inRound l) (n - 1 - 1) Tryz.prog (post3 w.heap.size I Ix (k + 1) W) (a₁ (.int .i64 x)) W)
  (hdone:∀ (D:Nat) (W:World),w.heap.size = D -> I (strikers C.strikes sure m).length W -> W.heap[D]? = some (.deferred (some [])) -> Q .normal { a with defers:={ target:=.collected D,args:=#[] } :: a.defers } W)
  (hstop:∀ (D:Nat) (c:Code) (W:World),w.heap.size = D -> Ix c W -> W.heap[D]? = some (.deferred (some [])) -> c.wpIn Fence.wide n Tryz.prog Q { a with defers:={ target:=.collected D,args:=#[] } :: a.defers } W) :
  (Code.rangeFunc g #[p] assign body).wpIn Fence.wide n Tryz.prog Q a w:=by
 refine wpIn_range3 hg runs_118 (iter118 (n - 1) w0 bd bn d w.heap.size C a1 a2 c1 c2 ref sure m hm) (fun k W0 W v r o h _=>h) I Ix hI hIx hrep h0 a₁ hassign (fun l k v W0 W hk hi ha hB hv=>?_) hdone hstop;obtain ⟨x,hx,rfl⟩:=hv;exact hbody l k x W hx (hIa _ _ _ hi ha) (Nat.le_trans hB ha.size)
theorem wpIn_striking2 {g:Operand} {p:Tmp} {body:Code} {rid:Nat} {q:Tmp} {oq:Oper} {Q:Exit -> Act -> World -> Prop} {a:Act} {w:World} {n:Nat} {w0:World} {bd bn d:Nat} {C:CaseL} {a1 a2:Option Addr} {c1 c2:Nat} {ref sure:Int -> Bool} {m:Nat} (hm:m < 14)
  (hg:a.eval g = .func (.func 118) #[] #[.pointer (some ⟨bd,0,none⟩),.pointer (some ⟨bn,0,none⟩)])
  (I:Nat -> World -> Prop) (Ix:Code -> World -> Prop) (hI:Three w.heap.size I) (hIa:∀ k W W',I k W -> Aft W W' -> I k W') (hIx:∀ c,Three w.heap.size (fun (_:Unit)=>Ix c)) (hrep:∀ k W,I k W -> RepS w0 bd bn d C a1 a2 c1 c2 ref sure m W) (h0:I 0 w) (hq:oq.op = .assign (.tmp p)) (hqd:oq.dst = some q) (hqg:oq.guard = none) (hp:p < a.tmps.size)
  (hbody:∀ (l k:Nat) (x:Int) (W:World),(strikers C.strikes sure m)[k]? = some x -> I k W -> w.heap.size + 3 <= W.heap.size -> body.wpIn (Fence.wide.inRound l) (n - 1 - 1) Tryz.prog (post3 w.heap.size I Ix (k + 1) W) { tmps:=(a.tmps.setIfInBounds p (.int .i64 x)).setIfInBounds q (.int .i64 x),defers:=[] } W)
  (hdone:∀ (D:Nat) (W:World),w.heap.size = D -> I (strikers C.strikes sure m).length W -> W.heap[D]? = some (.deferred (some [])) -> Q .normal { a with defers:={ target:=.collected D,args:=#[] } :: a.defers } W)
  (hstop:∀ (D:Nat) (c:Code) (W:World),w.heap.size = D -> Ix c W -> W.heap[D]? = some (.deferred (some [])) -> c.wpIn Fence.wide n Tryz.prog Q { a with defers:={ target:=.collected D,args:=#[] } :: a.defers } W) :
  (Code.rangeFunc g #[p] (Code.region rid #[oq] false) body).wpIn Fence.wide n Tryz.prog Q a w:=by
 refine wpIn_striking (a₁:=fun v=>{ tmps:=(a.tmps.setIfInBounds p v).setIfInBounds q v,defers:=[] }) hm hg I Ix hI hIa hIx hrep h0 (fun l v W K hK=>?_) hbody hdone hstop;refine wpIn_region_of_list (xs:=[oq]) (by simp [noDefers,hq]) ?_;refine wpList_val (w':=W) (v:=v) hqg ?_ ?_
 ·unfold execOp;simp [hq,Act.eval,hp,go_sem]
 ·show OnlyN _ .normal _ W;refine OnlyN.normal ?_;rw [hqd];exact hK
end Go.Proofs
end
section
/- Walks: Five. -/
namespace Go.Proofs
open Go.RowKit
attribute [local go_sem] Oper.semAt_some
theorem nums_self (l:List Int):Nums (l.map (Value.int .i64)).toArray l:=⟨by simp,fun t ht=>by simp [ht]⟩
def fiveL:List Int:=[0,1,1,2,2,3,3,2,3,4]
def fiveC:CaseL:=⟨5,[(0,1),(1,2),(2,3),(3,2),(3,4)],[[0],[3]]⟩
theorem five_pairs:prL fiveL (fiveL.length / 2) = fiveC.strikes:=by decide
theorem strs_grown {w w':World} {A:Option Addr} {l:List (Int × Int)} {row:Option Nat} (h:Strs w A l) (hg:w.grownBy w' row) (hr:∀ b o,A = some ⟨b,o,none⟩ -> some b ≠ row):Strs w' A l:=by
 refine ⟨h.1,?_⟩;rcases h.2 with h | ⟨b,o,rfl,hb,hc⟩
 ·exact .inl h
 ·refine .inr ⟨b,o,rfl,Nat.lt_of_lt_of_le hb hg.size,fun i hi=>?_⟩;obtain ⟨vs,h1,h2,h3⟩:=hc i hi;exact ⟨vs,h1,h2,fun j hj=>(World.cell?_of_block (hg.block b hb (hr b o rfl))).trans (h3 j hj)⟩
theorem info25':(Tryz.prog.info? 25).map (·.size) = some 3:=by kernel_rfl
set_option maxRecDepth 100000 in
set_option maxHeartbeats 2000000 in
theorem five_any (w:World):Calls Tryz.prog 32 #[] w fun e w'=>∃ a1 a2 c1 c2,e = .returned (.agg #[.int .i64 5,.slice a1 5 c1,.slice a2 2 c2]) /\ CRep w' fiveC a1 a2 /\ Aft w w':=by
 have H1:Hid (∀ W (b:Nat),Blk W b 3 #[.int .i64 0,.int .i64 1,.int .i64 1,.int .i64 2,.int .i64 2,.int .i64 3,.int .i64 3,.int .i64 2,.int .i64 3,.int .i64 4] -> Calls Tryz.prog 80 #[.slice (some ⟨b,0,none⟩) 10 10] W fun e w'=>∃ A' c',e = .returned (.slice A' 5 c') /\ Strs w' A' fiveC.strikes /\ (∀ b o,A' = some ⟨b,o,none⟩ -> W.heap.size <= b) /\ Aft W w'):=Lib.hid fun W b hb=>by
  have h:=struck80_any fiveL (some ⟨b,0,none⟩) 10 W (Nums.ints hb (nums_self fiveL) (by decide)) (by decide);rw [five_pairs] at h;exact h
 have HB0:=Lib.hid (Blk.new w 25 #[.int .i64 0,.slice none 0 0,.slice none 0 0]);have HB1:Hid (Blk ((w.alloc (.cells #[.int .i64 0,.slice none 0 0,.slice none 0 0] 25)).alloc (.cells #[.int .i64 0,.int .i64 1,.int .i64 1,.int .i64 2,.int .i64 2,.int .i64 3,.int .i64 3,.int .i64 2,.int .i64 3,.int .i64 4] 3)) (w.heap.size + 1) 3 #[.int .i64 0,.int .i64 1,.int .i64 1,.int .i64 2,.int .i64 2,.int .i64 3,.int .i64 3,.int .i64 2,.int .i64 3,.int .i64 4]):=Lib.hid (by
  have:=Blk.new (w.alloc (.cells #[.int .i64 0,.slice none 0 0,.slice none 0 0] 25)) 3 #[.int .i64 0,.int .i64 1,.int .i64 1,.int .i64 2,.int .i64 2,.int .i64 3,.int .i64 3,.int .i64 2,.int .i64 3,.int .i64 4]
  rwa [World.size_alloc] at this)
 go_enter Tryz.func32,Tryz.ntmps32;go_wp2_with (first | (go_at_call 80;refine (H1.out _ _ HB1.out).mono ?_;rintro e w2 ⟨A2,c2,rfl,hs2,hb2,ha2⟩;have HS2:=Lib.hid hs2;have HA2:=Lib.hid (((Aft.alloc w _).then_alloc _).trans ha2);have HBX:=Lib.hid ((HB0.out.alloc (.cells #[.int .i64 0,.int .i64 1,.int .i64 1,.int .i64 2,.int .i64 2,.int .i64 3,.int .i64 3,.int .i64 2,.int .i64 3,.int .i64 4] 3)).aft ha2);have HBB:=Lib.hid hb2;clear hs2 hb2 ha2) | (refine wpList_store_mid rfl 25 (.tmp 0) (.tmp 6) rfl w.heap.size 0 #[.int .i64 5,.slice A2 5 c2,.slice (some ⟨w2.heap.size + 1 + 1,0,none⟩) 2 2] rfl rfl (blk_there (((HBX.out.alloc _).alloc _).alloc _) rfl) info25' (all_oneCell_toArray (by intro v hv;simp at hv;rcases hv with rfl | rfl | rfl <;> rfl)) ?_))
 have hne:∀ g,w2.heap.size <= g -> w.heap.size ≠ g:=fun g hg=>by have:=HBX.out.lt;omega
 have G3:=Lib.hid (((Blk.new w2 3 #[.int .i64 0]).alloc (.cells #[.int .i64 3] 3)).alloc (.cells #[.slice (some ⟨w2.heap.size,0,none⟩) 1 1,.slice (some ⟨w2.heap.size + 1,0,none⟩) 1 1] 33));have G4:=Lib.hid ((Blk.new (w2.alloc (.cells #[.int .i64 0] 3)) 3 #[.int .i64 3]).alloc (.cells #[.slice (some ⟨w2.heap.size,0,none⟩) 1 1,.slice (some ⟨w2.heap.size + 1,0,none⟩) 1 1] 33));have G5:=Lib.hid (Blk.new ((w2.alloc (.cells #[.int .i64 0] 3)).alloc (.cells #[.int .i64 3] 3)) 33 #[.slice (some ⟨w2.heap.size,0,none⟩) 1 1,.slice (some ⟨w2.heap.size + 1,0,none⟩) 1 1]);have G0:=Lib.hid (((HBX.out.alloc (.cells #[.int .i64 0] 3)).alloc (.cells #[.int .i64 3] 3)).alloc (.cells #[.slice (some ⟨w2.heap.size,0,none⟩) 1 1,.slice (some ⟨w2.heap.size + 1,0,none⟩) 1 1] 33));rw [World.size_alloc] at G4;rw [World.size_alloc,World.size_alloc] at G5;have GA:=Lib.hid ((((Aft.alloc w2 (.cells #[.int .i64 0] 3)).then_alloc (.cells #[.int .i64 3] 3)).then_alloc (.cells #[.slice (some ⟨w2.heap.size,0,none⟩) 1 1,.slice (some ⟨w2.heap.size + 1,0,none⟩) 1 1] 33)));generalize (((w2.alloc (.cells #[.int .i64 0] 3)).alloc (.cells #[.int .i64 3] 3)).alloc (.cells #[.slice (some ⟨w2.heap.size,0,none⟩) 1 1,.slice (some ⟨w2.heap.size + 1,0,none⟩) 1 1] 33)) = W3 at *;have hbb:∀ b o,A2 = some ⟨b,o,none⟩ -> w.heap.size ≠ b:=fun b o e=>by have:=HBB.out b o e;simp at this;omega
 generalize w2.heap.size = g at *;obtain ⟨W9,hW9,hl9,hg9⟩:∃ W9,W3.setCells w.heap.size 0 [.int .i64 5,.slice A2 5 c2,.slice (some ⟨g + 1 + 1,0,none⟩) 2 2] = W9 /\ (loadVar 25 ⟨w.heap.size,0,none⟩).run Tryz.prog W9 = .ok (.agg #[.int .i64 5,.slice A2 5 c2,.slice (some ⟨g + 1 + 1,0,none⟩) 2 2]) W9 /\ W3.grownBy W9 (some w.heap.size) :=
  ⟨_,rfl,run_loadVar_mid (P:=Tryz.prog) _ w.heap.size 0 25 [.int .i64 5,.slice A2 5 c2,.slice (some ⟨g + 1 + 1,0,none⟩) 2 2] _ (World.rangeAt_setCells_same W3 w.heap.size 0 _ (blk_there G0.out rfl)) Tryz.underlying25 rfl info25',only_setCells _ _ _ (only_refl _ _)⟩
 rw [hW9];have q3:=(G3.out.grown hg9 (fun e=>hne _ (Nat.le_refl _) (Option.some.inj e).symm));have q4:=(G4.out.grown hg9 (fun e=>hne _ (Nat.le_succ _) (Option.some.inj e).symm));have q5:=(G5.out.grown hg9 (fun e=>hne (g + 1 + 1) (by omega) (Option.some.inj e).symm));refine bodyPost_ret (v:=.agg #[.int .i64 5,.slice A2 5 c2,.slice (some ⟨g + 1 + 1,0,none⟩) 2 2]) (by simp [results,Tryz.results32,Act.put,asAddr,hl9]) rfl ⟨_,_,_,_,rfl,⟨?_,?_⟩,(HA2.out.trans GA.out).grown hg9 (fun k e=>by cases e;exact Nat.le_refl _)⟩
 ·exact strs_grown (HS2.out.aft GA.out) hg9 (fun b o e e2=>hbb b o e (Option.some.inj e2).symm)
 ·refine ⟨by decide,.inr ⟨g + 1 + 1,0,rfl,q5.lt,fun i hi=>?_⟩⟩
  match i,hi with
  | 0,_=>exact ⟨[.slice (some ⟨g,0,none⟩) 1 1],rfl,⟨_,1,rfl,Nums.ints q3 (nums_self [0]) (by show 1 <= 17592186043904;decide)⟩,fun j hj=>by
    have:j = 0:=by simpa using hj
    subst this;exact q5.cell 0⟩
  | 1,_=>exact ⟨[.slice (some ⟨g + 1,0,none⟩) 1 1],rfl,⟨_,1,rfl,Nums.ints q4 (nums_self [3]) (by show 1 <= 17592186043904;decide)⟩,fun j hj=>by
    have:j = 0:=by simpa using hj
    subst this;exact q5.cell 1⟩
end Go.Proofs
end
section
/- Walks: struck,free. -/
namespace Go.Proofs
open Go.RowKit
open Court (refL begF noS struckB)
attribute [local go_sem] Oper.semAt_some
theorem Fr.start (w:World):Fr w w.heap.size [] w:=⟨Aft.refl _,(fun x hx=>by cases hx),Nat.le_refl _,Nat.le_refl _⟩
theorem Fr.alloc {w W:World} {B:Nat} {bs:List (Nat × TypeId × Array Value)} (h:Fr w B bs W) (hB:W.heap.size = B) (t:TypeId) (cs:Array Value):Fr w (B + 1) (bs ++ [(B,t,cs)]) (W.alloc (.cells cs t)) :=
 ⟨h.aft.then_alloc _,fun x hx=>by
  rcases List.mem_append.1 hx with hx | hx
  ·obtain ⟨h1,h2,h3⟩:=h.blks x hx;exact ⟨by omega,h2,h3.alloc _⟩
  ·rw [List.mem_singleton] at hx;subst hx;subst hB;exact ⟨by simp,h.ge,Blk.new _ _ _⟩,by rw [World.size_alloc];omega,by have:=h.ge;omega⟩
theorem struck_strikers (S:List (Int × Int)) (sure:Int -> Bool) (f:Int -> Nat) (n:Int) (v:Nat):struckB S sure f n v = (strikers S sure n).any fun x=>decide (f x = v):=by
 unfold struckB strikers
 induction S with
 | nil=>rfl
 | cons s S ih =>
  rw [List.any_cons,ih,List.filter_cons];by_cases e:(decide (s.2 = n) && !sure n) = true
  ·rw [if_pos e,List.map_cons,List.any_cons,e,Bool.true_and]
  ·rw [if_neg e,Bool.eq_false_iff.2 e,Bool.false_and,Bool.false_or]
theorem strikers_mem {S:List (Int × Int)} {sure:Int -> Bool} {n x:Int} (h:x ∈ strikers S sure n):∃ s ∈ S,s.1 = x:=by
 unfold strikers at h;obtain ⟨s,hs,rfl⟩:=List.mem_map.1 h;exact ⟨s,(List.mem_filter.1 hs).1,rfl⟩
set_option maxRecDepth 100000 in
set_option maxHeartbeats 2000000 in
theorem struck_any (w0 w:World) (d:Nat) (C:CaseL) (a1 a2:Option Addr) (c1 c2:Nat) (ref sure:Int -> Bool) (f r:Int -> Nat) (hD:DeskAt w0 w d C a1 a2 c1 c2 ref sure f r) (n v:Nat) (hn:n < 14) (hS:∀ s ∈ C.strikes,0 <= s.1 /\ s.1 < 14) :
  Calls Tryz.prog 115 #[.pointer (some ⟨d,0,none⟩),.int .i64 n,.int .i64 v] w fun e w'=>e = .returned (.bool (struckB C.strikes sure f n v)) /\ Aft w w':=by
 rw [struck_strikers]
 have HL:Hid (∀ (k:Nat) (x:Int),(strikers C.strikes sure n)[k]? = some x -> 0 <= x /\ x < 14):=Lib.hid fun k x h=>by
  obtain ⟨s,hs,rfl⟩:=strikers_mem (List.mem_of_getElem? h);exact hS s hs
 have HD:=Lib.hid hD;have F0:=(((((Fr.start w).alloc rfl 95 #[.pointer (some ⟨d,0,none⟩)]).alloc (by simp) 3 #[.int .i64 v]).alloc (by simp) 4 #[.bool false]).alloc (by simp) 95 #[.pointer (some ⟨d,0,none⟩)]).alloc (by simp) 3 #[.int .i64 n];simp only [List.nil_append,List.cons_append] at F0;have HF0:=Lib.hid F0;clear hD hS F0;refine (callsIn_wide (n:=5)).1 ?_;refine callsIn_of_wp_marks Tryz.func115 rfl trivial ?_ rfl;simp only [Tryz.ntmps115,List.size_toArray,List.length_cons,List.length_nil,Nat.reduceAdd,Nat.reduceSub,Array.replicate_succ,Array.replicate_zero,List.push_toArray,List.append_toArray,List.nil_append,List.cons_append];refine wpIn_wide.2 ?_;go_upto_block 0 with (go_at_call 103;refine (striking_any d n _).mono ?_;rintro e w' ⟨rfl,rfl⟩)
 have hz:(((((w.alloc (.cells #[.pointer (some ⟨d,0,none⟩)] 95)).alloc (.cells #[.int .i64 v] 3)).alloc (.cells #[.bool false] 4)).alloc (.cells #[.pointer (some ⟨d,0,none⟩)] 95)).alloc (.cells #[.int .i64 n] 3)).heap.size = w.heap.size + 1 + 1 + 1 + 1 + 1:=by simp
 generalize (((((w.alloc (.cells #[.pointer (some ⟨d,0,none⟩)] 95)).alloc (.cells #[.int .i64 v] 3)).alloc (.cells #[.bool false] 4)).alloc (.cells #[.pointer (some ⟨d,0,none⟩)] 95)).alloc (.cells #[.int .i64 n] 3)) = W5 at *;have HL0:=Lib.hid (show ∀ (j:Nat) (x:Int),j < 0 -> (strikers C.strikes sure n)[j]? = some x -> f x ≠ v from fun j x h=>absurd h (Nat.not_lt_zero _));obtain ⟨S,hS⟩:∃ S,w.heap.size = S:=⟨_,rfl⟩;rw [hS] at HF0 hz ⊢;refine wp_block ?_;refine (wpIn_wide (n:=5)).1 ?_;refine wpIn_striking (w0:=w0) (bd:=S + 1 + 1 + 1) (bn:=S + 1 + 1 + 1 + 1) (d:=d) (C:=C) (a1:=a1) (a2:=a2) (c1:=c1) (c2:=c2) (ref:=ref) (sure:=sure) (m:=n) hn rfl
  (fun k W=>Fr w (S + 1 + 1 + 1 + 1 + 1) [(S,95,#[.pointer (some ⟨d,0,none⟩)]),(S + 1,3,#[.int .i64 v]),(S + 1 + 1,4,#[.bool false]),(S + 1 + 1 + 1,95,#[.pointer (some ⟨d,0,none⟩)]),(S + 1 + 1 + 1 + 1,3,#[.int .i64 n])] W /\ ∀ (j:Nat) (x:Int),j < k -> (strikers C.strikes sure n)[j]? = some x -> f x ≠ v)
  (fun c W=>Fr w (S + 1 + 1 + 1 + 1 + 1) [(S + 1 + 1,4,#[.bool true])] W /\ c = .ret /\ ((strikers C.strikes sure n).any fun x=>decide (f x = v)) = true)
  (by rw [hz];exact Fr.three) (fun k W W' h ha=>⟨h.1.later ha,h.2⟩) (fun c=>by rw [hz];exact Fr.three)
  (fun k W h=>⟨(h.1.nth 3 rfl).cell 0,(h.1.nth 4 rfl).cell 0,(h.1.nth 3 rfl).lt,(h.1.nth 4 rfl).lt,f,r,HD.out.later h.1.aft⟩) ⟨HF0.out,HL0.out⟩
  (fun v'=>{ tmps:=#[.pointer (some ⟨d,0,none⟩),.int .i64 n,.int .i64 v,.pointer (some ⟨S,0,none⟩),undef,.pointer (some ⟨S + 1,0,none⟩),.pointer (some ⟨S + 1 + 1,0,none⟩),v',.pointer (some ⟨d,0,none⟩),.int .i64 n,.func (.func 118) #[] #[.pointer (some ⟨S + 1 + 1 + 1,0,none⟩),.pointer (some ⟨S + 1 + 1 + 1 + 1,0,none⟩)],v',undef,undef,undef,undef,undef,undef,undef,undef],defers:=[] }) ?assign ?body ?done ?stop
 case assign =>
  intro l v W K hK;gi_wp2_with fail
  exact hK
 case body =>
  intro l k x W hx hI hsz;obtain ⟨x0,x1⟩:=HL.out k x hx;obtain ⟨m,rfl⟩:∃ m:Nat,x = m:=⟨x.toNat,by omega⟩;have hm14:m < 14:=by omega
  have hDW:=HD.out.later hI.1.aft;have q1:=hDW.found hm14;have q2:W.cell? ⟨S,0,none⟩ = some (.pointer (some ⟨d,0,none⟩)):=(hI.1.nth 0 rfl).cell 0;have q3:W.cell? ⟨S + 1,0,none⟩ = some (.int .i64 v):=(hI.1.nth 1 rfl).cell 0;have b2:=hI.1.nth 2 rfl;have q4:=b2.cell 0;have q5:=b2.frozen 0;have q6:=b2.lt;have hn14:(0:Int) <= (m:Int) /\ (m:Int) < 14:=by omega
  have HI:=Lib.hid hI;clear hI hDW b2;refine wpIn_block ?_;refine wpIn_seq_k fun K1 H1=>?_
  refine wpIn_region_valsT (by kernel_rfl) (by kernel_rfl) 7 20 rfl (by kernel_rfl) (by kernel_rfl) (by kernel_rfl) [.pointer (some ⟨d,0,none⟩),.int .i64 m,.pointer (some ⟨d,0,none⟩),.pointer (some ⟨d,31,none⟩),.pointer (some ⟨d,31 + m,none⟩),.int .i64 (f m:Nat),.int .i64 v] rfl (fun _ W'=>W' = W.drew) (rfl) ?st1 ?fi1
  case st1 =>
   intro i o v ho hv
   match i,ho,hv with
   | 0,ho,hv =>
    cases ho;cases hv;refine .inl ⟨rfl,fun done a W hd hp hk hw K hK=>?_⟩;have e3:=hk.s 3;exact op_val (by simp [go_sem,ev' e3,hw,q2]) (hK _ hw)
   | 1,ho,hv =>
    cases ho;cases hv;refine .inl ⟨rfl,fun done a W hd hp hk hw K hK=>?_⟩;have e7:=hk.s 7;exact op_val (by simp [go_sem,ev' e7]) (hK _ hw)
   | 2,ho,hv =>
    cases ho;cases hv;refine .inl ⟨rfl,fun done a W hd hp hk hw K hK=>?_⟩;have e12:=hk.t 0;exact op_val (by simp [go_sem,ev' e12]) (hK _ hw)
   | 3,ho,hv =>
    cases ho;cases hv;refine .inl ⟨rfl,fun done a W hd hp hk hw K hK=>?_⟩;have e14:=hk.t 2;exact op_val (by simp [go_sem,ev' e14]) (hK _ hw)
   | 4,ho,hv =>
    cases ho;cases hv;refine .inl ⟨rfl,fun done a W hd hp hk hw K hK=>?_⟩;have e13:=hk.t 1;have e15:=hk.t 3;exact op_val (by simp [go_sem,ev' e13,ev' e15,hn14]) (hK _ hw)
   | 5,ho,hv =>
    cases ho;cases hv;refine .inl ⟨rfl,fun done a W hd hp hk hw K hK=>?_⟩;have e16:=hk.t 4;exact op_val (by simp [go_sem,ev' e16,hw,q1]) (hK _ hw)
   | 6,ho,hv =>
    cases ho;cases hv;refine .inl ⟨rfl,fun done a W hd hp hk hw K hK=>?_⟩;have e5:=hk.s 5;exact op_val (by simp [go_sem,ev' e5,hw,q3]) (hK _ hw)
   | _ + 7,_,hv=>cases hv
  intro done W hd hw;simp only [List.drop_succ_cons,List.drop_zero,List.zip_cons_cons,List.zip_nil_right,putAll];simp only [Act.put,List.setIfInBounds_toArray,List.set];clear hd;subst hw;by_cases hfv:f m = v
  ·have t1:(((f m:Nat):Int) == (v:Int)) = true:=by simp [hfv]
   go_wp2_with fail
   change K1 _ _;refine H1 _ _ ?_;clear H1;refine wpIn_cond_true (by simp [Act.eval]) ?_;refine wpIn_seq_k fun K2 H2=>?_
   refine wpIn_region_of_list (by kernel_rfl) ?_;go_wp2_with fail
   change K2 _ _;refine H2 _ _ ?_;clear H2;refine wpIn_ret ?_;refine ⟨(Kept3.of_aft (Aft.drew W) (by omega)).setCell (p:=⟨S + 1 + 1,0,none⟩) (by left;show S + 1 + 1 < W5.heap.size;omega) _,((HI.out.1.later (Aft.drew W)).store (g:=S + 1 + 1) (t:=4) (cs:=#[.bool false]) (by simp) 0 (.bool true) (by simp)),rfl,List.any_eq_true.2 ⟨_,List.mem_of_getElem? hx,by simpa using hfv⟩⟩
  ·have t1:(((f m:Nat):Int) == (v:Int)) = false:=by simp;omega
   go_wp2_with fail
   change K1 _ _;refine H1 _ _ ?_;clear H1;refine wpIn_cond_false (by simp [Act.eval]) ?_;refine wpIn_skip ?_;refine ⟨Kept3.of_aft (Aft.drew W) (by omega),HI.out.1.later (Aft.drew W),fun j x hj hjx=>?_⟩;by_cases e:j < k
   ·exact HI.out.2 j x e hjx
   ·obtain rfl:j = k:=by omega
    rw [hx] at hjx;cases hjx;exact hfv
 case done =>
  intro D W hDD hI hd;have b2:=hI.1.nth 2 rfl;have q4:=b2.cell 0;have q5:=b2.frozen 0;have q6:=b2.lt;have HI:=Lib.hid hI;have HN:Hid (((strikers C.strikes sure n).any fun x=>decide (f x = v)) = false):=Lib.hid (by
   rw [Bool.eq_false_iff];intro h;obtain ⟨x,hx,h2⟩:=List.any_eq_true.1 h;obtain ⟨j,hj,rfl⟩:=List.getElem_of_mem hx;exact hI.2 j _ hj (List.getElem?_eq_getElem hj) (by simpa using h2))
  have hd2:(W.setCell ⟨S + 1 + 1,0,none⟩ (.bool false)).heap[D]? = some (.deferred (some [])):=(Below.heap_setCell W ⟨S + 1 + 1,0,none⟩ (.bool false) D (by show D ≠ S + 1 + 1;omega)).trans hd;have HB2:=Lib.hid (b2.store 0 (.bool false));have HD2:=Lib.hid hd2;clear hI b2 hd2 hd;go_wp2_with fail
  refine ⟨by simp,.inl ⟨_,_,rfl,run_takeDeferred HD2.out,?_⟩⟩;have y1:=(HB2.out.grown (grownBy_putObj' _ D (.deferred none)) (fun e=>by cases e;omega)).cell 0;refine ⟨.bool false,?_,by rw [HN.out],(HI.out.1.aft.then_setCell (p:=⟨S + 1 + 1,0,none⟩) (by show w.heap.size <= S + 1 + 1;omega) _).grown (grownBy_putObj' _ D (.deferred none)) (fun k e=>by cases e;omega)⟩;generalize ((W.setCell ⟨S + 1 + 1,0,none⟩ (.bool false)).putObj D (.deferred none)) = X at *;have y1':X.cell? ⟨S + 1 + 1,0,none⟩ = some (.bool false):=y1;simp [results,Tryz.results115,go_sem,y1']
 case stop =>
  intro D c W hDD hI hd;obtain ⟨hF,rfl,hany⟩:=hI;refine wpIn_ret ?_;refine ⟨by simp,.inl ⟨_,_,rfl,run_takeDeferred hd,?_⟩⟩;have y1:=((hF.nth 0 rfl).grown (grownBy_putObj' W D (.deferred none)) (fun e=>by cases e;omega)).cell 0;refine ⟨.bool true,?_,by rw [hany],hF.aft.grown (grownBy_putObj' _ D (.deferred none)) (fun k e=>by cases e;omega)⟩;generalize (W.putObj D (.deferred none)) = X at *;have y1':X.cell? ⟨S + 1 + 1,0,none⟩ = some (.bool true):=y1;simp [results,Tryz.results115,go_sem,y1']
end Go.Proofs
end
section
/- Walks: next. -/
namespace Go.Proofs
open Go.RowKit
open Court (refL begF noS struckB nextR)
attribute [local go_sem] Oper.semAt_some
def nx (r:Int -> Nat) (L:List Int):Nat:=L.foldl (fun m x=>max m (r x + 1)) 1
theorem next_strikers (S:List (Int × Int)) (sure:Int -> Bool) (r:Int -> Nat) (n:Int):nextR S sure r n = nx r (strikers S sure n):=by
 unfold nextR strikers nx
 have key:∀ m:Nat,S.foldl (fun m s=>if decide (s.2 = n) && !sure n then max m (r s.1 + 1) else m) m = ((S.filter fun s=>decide (s.2 = n) && !sure n).map (·.1)).foldl (fun m x=>max m (r x + 1)) m:=by
  induction S with
  | nil=>exact fun _=>rfl
  | cons s S ih =>
   intro m;rw [List.foldl_cons,List.filter_cons];by_cases e:(decide (s.2 = n) && !sure n) = true
   ·rw [if_pos e,if_pos e,List.map_cons,List.foldl_cons,ih]
   ·rw [if_neg e,if_neg e,ih]
 exact key 1
theorem nx_succ (r:Int -> Nat) (L:List Int) {k:Nat} {x:Int} (h:L[k]? = some x):nx r (L.take (k + 1)) = max (nx r (L.take k)) (r x + 1):=by
 obtain ⟨hk,rfl⟩:=List.getElem?_eq_some_iff.1 h;unfold nx;rw [List.take_succ_eq_append_getElem hk,List.foldl_append];rfl
theorem nx_le (r:Int -> Nat) (b:Nat) (hr:∀ x,r x <= b) (L:List Int):nx r L <= b + 1:=by
 unfold nx
 have:∀ (L:List Int) (m:Nat),m <= b + 1 -> L.foldl (fun m x=>max m (r x + 1)) m <= b + 1:=by
  intro L
  induction L with
  | nil=>exact fun m h=>h
  | cons x L ih=>exact fun m h=>ih (max m (r x + 1)) (by have:=hr x;omega)
 exact this L 1 (by omega)
set_option maxRecDepth 100000 in
set_option maxHeartbeats 2000000 in
theorem next_any (w0 w:World) (d:Nat) (C:CaseL) (a1 a2:Option Addr) (c1 c2:Nat) (ref sure:Int -> Bool) (f r:Int -> Nat) (hD:DeskAt w0 w d C a1 a2 c1 c2 ref sure f r) (n:Nat) (hn:n < 14) (hS:∀ s ∈ C.strikes,0 <= s.1 /\ s.1 < 14) (hr:∀ x,r x <= 1000) :
  Calls Tryz.prog 113 #[.pointer (some ⟨d,0,none⟩),.int .i64 n] w fun e w'=>e = .returned (.int .i64 (nextR C.strikes sure r n:Nat)) /\ Aft w w':=by
 rw [next_strikers]
 have HL:Hid (∀ (k:Nat) (x:Int),(strikers C.strikes sure n)[k]? = some x -> 0 <= x /\ x < 14):=Lib.hid fun k x h=>by
  obtain ⟨s,hs,rfl⟩:=strikers_mem (List.mem_of_getElem? h);exact hS s hs
 have HD:=Lib.hid hD;have HR:=Lib.hid hr;have F0:=((((Fr.start w).alloc rfl 95 #[.pointer (some ⟨d,0,none⟩)]).alloc (by simp) 3 #[.int .i64 (1:Nat)]).alloc (by simp) 95 #[.pointer (some ⟨d,0,none⟩)]).alloc (by simp) 3 #[.int .i64 n];simp only [List.nil_append,List.cons_append] at F0;have HF0:=Lib.hid F0;clear hD hS F0 hr;refine (callsIn_wide (n:=5)).1 ?_;refine callsIn_of_wp_marks Tryz.func113 rfl trivial ?_ rfl;simp only [Tryz.ntmps113,List.size_toArray,List.length_cons,List.length_nil,Nat.reduceAdd,Nat.reduceSub,Array.replicate_succ,Array.replicate_zero,List.push_toArray,List.append_toArray,List.nil_append,List.cons_append];refine wpIn_wide.2 ?_;go_upto_block 0 with (go_at_call 103;refine (striking_any d n _).mono ?_;rintro e w' ⟨rfl,rfl⟩)
 have hz:((((w.alloc (.cells #[.pointer (some ⟨d,0,none⟩)] 95)).alloc (.cells #[.int .i64 (1:Nat)] 3)).alloc (.cells #[.pointer (some ⟨d,0,none⟩)] 95)).alloc (.cells #[.int .i64 n] 3)).heap.size = w.heap.size + 1 + 1 + 1 + 1:=by simp
 change Code.wp _ _ _ _ ((((w.alloc (.cells #[.pointer (some ⟨d,0,none⟩)] 95)).alloc (.cells #[.int .i64 (1:Nat)] 3)).alloc (.cells #[.pointer (some ⟨d,0,none⟩)] 95)).alloc (.cells #[.int .i64 n] 3));generalize (((w.alloc (.cells #[.pointer (some ⟨d,0,none⟩)] 95)).alloc (.cells #[.int .i64 (1:Nat)] 3)).alloc (.cells #[.pointer (some ⟨d,0,none⟩)] 95)).alloc (.cells #[.int .i64 n] 3) = W5 at *;obtain ⟨S,hS⟩:∃ S,w.heap.size = S:=⟨_,rfl⟩;rw [hS] at HF0 hz ⊢;refine wp_block ?_;refine (wpIn_wide (n:=5)).1 ?_;refine wpIn_striking (w0:=w0) (bd:=S + 1 + 1) (bn:=S + 1 + 1 + 1) (d:=d) (C:=C) (a1:=a1) (a2:=a2) (c1:=c1) (c2:=c2) (ref:=ref) (sure:=sure) (m:=n) hn rfl
  (fun k W=>Fr w (S + 1 + 1 + 1 + 1) [(S,95,#[.pointer (some ⟨d,0,none⟩)]),(S + 1,3,#[.int .i64 (nx r ((strikers C.strikes sure n).take k):Nat)]),(S + 1 + 1,95,#[.pointer (some ⟨d,0,none⟩)]),(S + 1 + 1 + 1,3,#[.int .i64 n])] W)
  (fun _ _=>False)
  (by rw [hz];exact fun _ _ _ _ h hg h1 _=>h.grown hg h1) (fun k W W' h ha=>h.later ha) (fun c=>fun _ _ _ _ h _ _ _=>h)
  (fun k W h=>⟨(h.nth 2 rfl).cell 0,(h.nth 3 rfl).cell 0,(h.nth 2 rfl).lt,(h.nth 3 rfl).lt,f,r,HD.out.later h.aft⟩) HF0.out
  (fun v'=>{ tmps:=#[.pointer (some ⟨d,0,none⟩),.int .i64 n,.pointer (some ⟨S,0,none⟩),undef,.int .i64 0,.pointer (some ⟨S + 1,0,none⟩),v',.pointer (some ⟨d,0,none⟩),.int .i64 n,.func (.func 118) #[] #[.pointer (some ⟨S + 1 + 1,0,none⟩),.pointer (some ⟨S + 1 + 1 + 1,0,none⟩)],v',undef,undef,undef,undef,undef,undef,undef,undef,undef,undef],defers:=[] }) ?assign ?body ?done (fun _ _ _ _ h _=>h.elim)
 case assign =>
  intro l v W K hK;gi_wp2_with fail
  exact hK
 case body =>
  intro l k x W hx hI hsz;obtain ⟨x0,x1⟩:=HL.out k x hx;have HNX:=Lib.hid (nx_succ r _ hx);have hnb:=nx_le r 1000 HR.out ((strikers C.strikes sure n).take k);obtain ⟨m,rfl⟩:∃ m:Nat,x = m:=⟨x.toNat,by omega⟩;have hm14:m < 14:=by omega
  have hrm:=HR.out m;have hDW:=HD.out.later hI.aft;have q1:=hDW.rank hm14;have q2:W.cell? ⟨S,0,none⟩ = some (.pointer (some ⟨d,0,none⟩)):=(hI.nth 0 rfl).cell 0;have b2:=hI.nth 1 rfl;have q3:W.cell? ⟨S + 1,0,none⟩ = some (.int .i64 (nx r ((strikers C.strikes sure n).take k):Nat)):=b2.cell 0;have q5:=b2.frozen 0;have q6:=b2.lt;have hn14:(0:Int) <= (m:Int) /\ (m:Int) < 14:=by omega
  have HI:=Lib.hid hI;clear hI hDW b2;generalize nx r ((strikers C.strikes sure n).take k) = c at *;generalize r m = y at *;refine wpIn_block ?_;have hwr:IntKind.i64.wrap ((y:Int) + 1) = (y:Int) + 1:=IntWalk.i64_in _ (by omega);refine wpIn_region_valsT (by kernel_rfl) (by kernel_rfl) 8 21 rfl (by kernel_rfl) (by kernel_rfl) (by kernel_rfl) [.int .i64 (c:Nat),.pointer (some ⟨d,0,none⟩),.int .i64 m,.pointer (some ⟨d,0,none⟩),.pointer (some ⟨d,45,none⟩),.pointer (some ⟨d,45 + m,none⟩),.int .i64 (y:Nat),.int .i64 ((y:Int) + 1)] rfl (fun _ W'=>W' = W.drew) (rfl) ?st1 ?fi1
  case st1 =>
   intro i o v ho hv
   match i,ho,hv with
   | 0,ho,hv =>
    cases ho;cases hv;refine .inl ⟨rfl,fun done a W hd hp hk hw K hK=>?_⟩;have e5:=hk.s 5;exact op_val (by simp [go_sem,ev' e5,hw,q3]) (hK _ hw)
   | 1,ho,hv =>
    cases ho;cases hv;refine .inl ⟨rfl,fun done a W hd hp hk hw K hK=>?_⟩;have e2:=hk.s 2;exact op_val (by simp [go_sem,ev' e2,hw,q2]) (hK _ hw)
   | 2,ho,hv =>
    cases ho;cases hv;refine .inl ⟨rfl,fun done a W hd hp hk hw K hK=>?_⟩;have e6:=hk.s 6;exact op_val (by simp [go_sem,ev' e6]) (hK _ hw)
   | 3,ho,hv =>
    cases ho;cases hv;refine .inl ⟨rfl,fun done a W hd hp hk hw K hK=>?_⟩;have e12:=hk.t 1;exact op_val (by simp [go_sem,ev' e12]) (hK _ hw)
   | 4,ho,hv =>
    cases ho;cases hv;refine .inl ⟨rfl,fun done a W hd hp hk hw K hK=>?_⟩;have e14:=hk.t 3;exact op_val (by simp [go_sem,ev' e14]) (hK _ hw)
   | 5,ho,hv =>
    cases ho;cases hv;refine .inl ⟨rfl,fun done a W hd hp hk hw K hK=>?_⟩;have e13:=hk.t 2;have e15:=hk.t 4;exact op_val (by simp [go_sem,ev' e13,ev' e15,hn14]) (hK _ hw)
   | 6,ho,hv =>
    cases ho;cases hv;refine .inl ⟨rfl,fun done a W hd hp hk hw K hK=>?_⟩;have e16:=hk.t 5;exact op_val (by simp [go_sem,ev' e16,hw,q1]) (hK _ hw)
   | 7,ho,hv =>
    cases ho;cases hv;refine .inl ⟨rfl,fun done a W hd hp hk hw K hK=>?_⟩;have e17:=hk.t 6;exact op_val (by simp [go_sem,ev' e17,hwr]) (hK _ hw)
   | _ + 8,_,hv=>cases hv
  intro done W hd hw;simp only [List.drop_succ_cons,List.drop_zero,List.zip_cons_cons,List.zip_nil_right,putAll];simp only [Act.put,List.setIfInBounds_toArray,List.set];clear hd;subst hw;clear hwr
  have key:∀ (z:Int),z = ((max c (y + 1):Nat):Int) -> post3 (S + 1 + 1 + 1 + 1) (fun k W=>Fr w (S + 1 + 1 + 1 + 1) [(S,95,#[.pointer (some ⟨d,0,none⟩)]),(S + 1,3,#[.int .i64 (nx r ((strikers C.strikes sure n).take k):Nat)]),(S + 1 + 1,95,#[.pointer (some ⟨d,0,none⟩)]),(S + 1 + 1 + 1,3,#[.int .i64 n])] W) (fun _ _=>False) (k + 1) W .normal ⟨#[],[]⟩ (W.drew.setCell ⟨S + 1,0,none⟩ (.int .i64 z)):=by
   rintro z rfl;refine ⟨(Kept3.of_aft (Aft.drew W) (by omega)).setCell (p:=⟨S + 1,0,none⟩) (by left;show S + 1 < S + 1 + 1 + 1 + 1;omega) _,?_⟩;dsimp only;rw [HNX.out];exact (HI.out.later (Aft.drew W)).store (g:=S + 1) (t:=3) (cs:=#[.int .i64 (c:Nat)]) (by simp) 0 _ (by simp;omega)
  have HKEY:=Lib.hid key;clear key;go_wp2_with fail
  ·rename_i h
   exact OnlyN.normal (HKEY.out _ (by omega))
  ·rename_i h
   exact OnlyN.normal (HKEY.out _ (by omega))
 case done =>
  intro D W hDD hI hd;have b2:=hI.nth 1 rfl;have q3:W.cell? ⟨S + 1,0,none⟩ = some (.int .i64 (nx r ((strikers C.strikes sure n).take (strikers C.strikes sure n).length):Nat)):=b2.cell 0;rw [List.take_of_length_le (Nat.le_refl _)] at q3;have q6:=b2.lt;have HI:=Lib.hid hI;have HDF:=Lib.hid hd;clear hI b2 hd;go_wp2_with fail
  refine ⟨by simp,.inl ⟨_,_,rfl,run_takeDeferred HDF.out,?_⟩⟩;exact ⟨_,by simp [results,Tryz.results113,go_sem],rfl,HI.out.aft.grown (grownBy_putObj' _ D (.deferred none)) (fun k e=>by cases e;omega)⟩
end Go.Proofs
end
