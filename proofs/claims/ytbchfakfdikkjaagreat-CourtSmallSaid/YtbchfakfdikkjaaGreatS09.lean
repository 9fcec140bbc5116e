/- Own texts, merged: CtO CtP CtQ. -/
import Derived.Test.YtbchfakfdikkjaaGreatS08
import Derived.Laws.CopyOwn
set_option linter.unusedSimpArgs false
set_option linter.unusedVariables false
set_option linter.unnecessarySimpa false
section
/- Walks: held. -/
namespace Go.Proofs
open Go.RowKit
open Court (refL begF noS struckB nextR HeldP)
attribute [local go_sem] Oper.semAt_some
def heldB (S:List (Int × Int)) (sure ref:Int -> Bool) (f r:Int -> Nat) (n:Int):Bool :=
 if ref n then decide (f n = 2) && decide (r n = 0)
 else if f n = 0 then decide (r n = 0) && (!struckB S sure f n 1 && struckB S sure f n 0)
 else if f n = 1 then freeB S sure f n && decide (nextR S sure r n <= r n)
 else (strikers S sure n).any fun x=>decide (f x = 1) && decide (r x < r n)
set_option maxRecDepth 100000 in
set_option maxHeartbeats 2000000 in
theorem held_easy (w0 w:World) (d:Nat) (C:CaseL) (a1 a2:Option Addr) (c1 c2:Nat) (ref sure:Int -> Bool) (f r:Int -> Nat) (hD:DeskAt w0 w d C a1 a2 c1 c2 ref sure f r) (n:Nat) (hn:n < 14) (hS:∀ s ∈ C.strikes,0 <= s.1 /\ s.1 < 14) (hr:∀ x,r x <= 1000) (hc:ref n = true \/ f n = 0 \/ f n = 1) :
  Calls Tryz.prog 93 #[.pointer (some ⟨d,0,none⟩),.int .i64 n] w fun e w'=>e = .returned (.bool (heldB C.strikes sure ref f r n)) /\ Aft w w':=by
 have HL:Hid (∀ (k:Nat) (x:Int),(strikers C.strikes sure n)[k]? = some x -> 0 <= x /\ x < 14):=Lib.hid fun k x h=>by
  obtain ⟨s,hs,rfl⟩:=strikers_mem (List.mem_of_getElem? h);exact hS s hs
 have HD:=Lib.hid hD;have HR:=Lib.hid hr;have H1:Hid (∀ W,Aft w W -> Calls Tryz.prog 115 #[.pointer (some ⟨d,0,none⟩),.int .i64 n,.int .i64 1] W fun e w'=>e = .returned (.bool (struckB C.strikes sure f n 1)) /\ Aft W w'):=Lib.hid fun W h=>struck_any w0 W d C a1 a2 c1 c2 ref sure f r (hD.later h) n 1 hn hS
 have H0:Hid (∀ W,Aft w W -> Calls Tryz.prog 115 #[.pointer (some ⟨d,0,none⟩),.int .i64 n,.int .i64 0] W fun e w'=>e = .returned (.bool (struckB C.strikes sure f n 0)) /\ Aft W w'):=Lib.hid fun W h=>struck_any w0 W d C a1 a2 c1 c2 ref sure f r (hD.later h) n 0 hn hS
 have H2:Hid (∀ W,Aft w W -> Calls Tryz.prog 116 #[.pointer (some ⟨d,0,none⟩),.int .i64 n] W fun e w'=>e = .returned (.bool (freeB C.strikes sure f n)) /\ Aft W w'):=Lib.hid fun W h=>free_any w0 W d C a1 a2 c1 c2 ref sure f r (hD.later h) n hn hS
 have H3:Hid (∀ W,Aft w W -> Calls Tryz.prog 113 #[.pointer (some ⟨d,0,none⟩),.int .i64 n] W fun e w'=>e = .returned (.int .i64 (nextR C.strikes sure r n:Nat)) /\ Aft W w'):=Lib.hid fun W h=>next_any w0 W d C a1 a2 c1 c2 ref sure f r (hD.later h) n hn hS hr
 have q1:=hD.found hn;have q2:=hD.rf hn;have q3:=hD.rank hn;have hlt:=hD.lt;have hn14:(0:Int) <= (n:Int) /\ (n:Int) < 14:=by omega
 have hrn:=hr n;have F0:=(((Fr.start w).alloc rfl 95 #[.pointer (some ⟨d,0,none⟩)]).alloc (by simp) 4 #[.bool false]).alloc (by simp) 3 #[.int .i64 (r n:Nat)];simp only [List.nil_append,List.cons_append] at F0;have HF0:=Lib.hid F0;clear hD hS hr F0;obtain ⟨X,hX⟩:∃ X,heldB C.strikes sure ref f r n = X:=⟨_,rfl⟩;rw [hX];have HX:=Lib.hid hX;clear hX;have HC:=Lib.hid hc;clear hc;go_enter Tryz.func93,Tryz.ntmps93;go_upto_block 0 with (fail)
 have hz:(((w.alloc (.cells #[.pointer (some ⟨d,0,none⟩)] 95)).alloc (.cells #[.bool false] 4)).alloc (.cells #[.int .i64 (r n:Nat)] 3)).heap.size = w.heap.size + 1 + 1 + 1:=by simp
 generalize ((w.alloc (.cells #[.pointer (some ⟨d,0,none⟩)] 95)).alloc (.cells #[.bool false] 4)).alloc (.cells #[.int .i64 (r n:Nat)] 3) = W3 at *;obtain ⟨S,hS⟩:∃ S,w.heap.size = S:=⟨_,rfl⟩;rw [hS] at HF0 hz hlt ⊢;have hD3:=HD.out.later HF0.out.aft;have p1:=hD3.found hn;have p2:=hD3.rf hn;have p3:=hD3.rank hn;have plt:=hD3.lt;have p4:W3.cell? ⟨S,0,none⟩ = some (.pointer (some ⟨d,0,none⟩)):=(HF0.out.nth 0 rfl).cell 0;have p5:W3.cell? ⟨S + 1,0,none⟩ = some (.bool false):=(HF0.out.nth 1 rfl).cell 0;have p6:=(HF0.out.nth 1 rfl).frozen 0;have p7:W3.cell? ⟨S + 1 + 1,0,none⟩ = some (.int .i64 (r n:Nat)):=(HF0.out.nth 2 rfl).cell 0;have l1:=(HF0.out.nth 0 rfl).lt;have l2:=(HF0.out.nth 1 rfl).lt;have l3:=(HF0.out.nth 2 rfl).lt
 have HST:Hid (∀ (W:World) (v:Value),Aft W3 W -> (W.setCell ⟨S + 1,0,none⟩ v).cell? ⟨S + 1,0,none⟩ = some v /\ Aft w (W.setCell ⟨S + 1,0,none⟩ v)):=Lib.hid fun W v h=>by
  have hf:=HF0.out.later h;refine ⟨?_,hf.aft.then_setCell (p:=⟨S + 1,0,none⟩) (by show w.heap.size <= S + 1;omega) _⟩;have:=((hf.nth 1 rfl).store 0 v).cell 0;simpa using this
 clear hD3 q1 q2 q3 hlt;refine wp_block ?_;cases h1:ref n
 ·have HR1:=Lib.hid h1;rw [h1] at p2;clear h1;by_cases h2:f n = 0
  ·have t1:(((f n:Nat):Int) == 0) = true:=by simp [h2]
   have HC2:=Lib.hid h2;clear h2;by_cases h5:r n = 0
   ·have t2:(((r n:Nat):Int) == 0) = true:=by simp [h5]
    have HC5:=Lib.hid h5;clear h5;cases h6:struckB C.strikes sure f n 1
    ·have HC6:=Lib.hid h6;rw [h6] at H1;clear h6;go_wp2_with (first | (go_at_call_of 115 (Value.int IntKind.i64 1);refine (H1.out _ (HF0.out.aft)).mono ?_;rintro e w4 ⟨rfl,ha4⟩;have HA4:=Lib.hid ha4;have f4:=HF0.out.later ha4;have z4:w4.cell? ⟨S,0,none⟩ = some (.pointer (some ⟨d,0,none⟩)):=(f4.nth 0 rfl).cell 0;have z4l:=(f4.nth 0 rfl).lt;clear ha4 f4) | (go_at_call_of 115 (Value.int IntKind.i64 0);refine (H0.out _ (HF0.out.aft.trans HA4.out)).mono ?_;rintro e w5 ⟨rfl,ha5⟩;have HA5:=Lib.hid (HA4.out.trans ha5);have f5:=HF0.out.later (HA4.out.trans ha5);have y1:=(f5.nth 1 rfl).cell 0;have y2:=(f5.nth 1 rfl).frozen 0;have y3:=(f5.nth 1 rfl).lt;have HY:=Lib.hid (HST.out w5 (.bool (struckB C.strikes sure f n 0)) HA5.out);clear ha5 f5))
     refine bodyPost_ret (v:=.bool (struckB C.strikes sure f n 0)) (by simp [results,Tryz.results93,go_sem,HY.out.1]) rfl ⟨ret_bool ?_,HY.out.2⟩;rw [<- HX.out];unfold heldB;rw [if_neg (by rw [HR1.out];decide),if_pos HC2.out,decide_eq_true HC5.out,HC6.out];simp
    ·have HC6:=Lib.hid h6;rw [h6] at H1;clear h6;go_wp2_with (go_at_call_of 115 (Value.int IntKind.i64 1);refine (H1.out _ (HF0.out.aft)).mono ?_;rintro e w5 ⟨rfl,ha5⟩;have HA5:=Lib.hid ha5;have f5:=HF0.out.later ha5;have y1:=(f5.nth 1 rfl).cell 0;have y2:=(f5.nth 1 rfl).frozen 0;have y3:=(f5.nth 1 rfl).lt;have HY:=Lib.hid (HST.out w5 (.bool false) HA5.out);clear ha5 f5)
     refine bodyPost_ret (v:=.bool false) (by simp [results,Tryz.results93,go_sem,HY.out.1]) rfl ⟨ret_bool ?_,HY.out.2⟩;rw [<- HX.out];unfold heldB;rw [if_neg (by rw [HR1.out];decide),if_pos HC2.out,HC6.out];simp
   ·have t2:(((r n:Nat):Int) == 0) = false:=by simp;omega
    have HC5:=Lib.hid h5;clear h5;have HY:=Lib.hid (HST.out W3 (.bool false) (Aft.refl _));go_wp2_with fail
    refine bodyPost_ret (v:=.bool false) (by simp [results,Tryz.results93,go_sem,HY.out.1]) rfl ⟨ret_bool ?_,HY.out.2⟩;rw [<- HX.out];unfold heldB;rw [if_neg (by rw [HR1.out];decide),if_pos HC2.out,decide_eq_false HC5.out];simp
  ·have t1:(((f n:Nat):Int) == 0) = false:=by simp;omega
   have HC2:=Lib.hid h2
   have h3:f n = 1:=by
    rcases HC.out with h | h | h
    ·rw [HR1.out] at h;cases h
    ·exact absurd h h2
    ·exact h
   have t2:(((f n:Nat):Int) == 1) = true:=by simp [h3]
   have HC3:=Lib.hid h3;clear h2 h3;go_upto_region 7 with (fail)
   cases h6:freeB C.strikes sure f n
   ·have HC6:=Lib.hid h6;rw [h6] at H2;clear h6;refine wp_region_valsT (by kernel_rfl) 8 91 rfl (by kernel_rfl) (by kernel_rfl) (by kernel_rfl) [.pointer (some ⟨d,0,none⟩),.int .i64 n,.bool false,.bool false,undef,undef,undef,undef] rfl (fun _ W=>Aft W3 W) (Aft.drew _) ?st1 ?fi1
    case st1 =>
     intro i o v ho hv
     match i,ho,hv with
     | 0,ho,hv =>
      cases ho;cases hv;refine .inl ⟨rfl,fun done a W hd hp hk hw K hK=>?_⟩;have e2:=hk.s 2;exact op_val (by simp [go_sem,ev' e2,((HF0.out.later hw).nth 0 rfl).cell 0]) (hK _ hw)
     | 1,ho,hv =>
      cases ho;cases hv;refine .inl ⟨rfl,fun done a W hd hp hk hw K hK=>?_⟩;have e1:=hk.s 1;exact op_val (by simp [go_sem,ev' e1]) (hK _ hw)
     | 2,ho,hv =>
      cases ho;cases hv;refine .inl ⟨rfl,fun done a W hd hp hk hw K hK=>?_⟩;have e60:=hk.t 0;have e61:=hk.t 1;refine op_callN rfl rfl rfl _ rfl (vs:=#[.pointer (some ⟨d,0,none⟩),.int .i64 n]) (by simp [e60,e61]) (H2.out _ (HF0.out.aft.trans hw)) ?_;rintro e w' ⟨rfl,hw'⟩;exact ⟨_,rfl,hK _ (hw.trans hw')⟩
     | 3,ho,hv =>
      cases ho;cases hv;refine .inl ⟨rfl,fun done a W hd hp hk hw K hK=>?_⟩;have e62:=hk.t 2;exact op_val (by simp [go_sem,ev' e62]) (hK _ hw)
     | 4,ho,hv=>cases ho;cases hv;exact .inr ⟨rfl,rfl,fun _ _ h=>h⟩
     | 5,ho,hv=>cases ho;cases hv;exact .inr ⟨rfl,rfl,fun _ _ h=>h⟩
     | 6,ho,hv=>cases ho;cases hv;exact .inr ⟨rfl,rfl,fun _ _ h=>h⟩
     | 7,ho,hv=>cases ho;cases hv;exact .inr ⟨rfl,rfl,fun _ _ h=>h⟩
     | _ + 8,_,hv=>cases hv
    intro done W hd hw;simp only [List.drop_succ_cons,List.drop_zero,List.zip_cons_cons,List.zip_nil_right,putAll];simp only [Act.put,List.setIfInBounds_toArray,List.set];clear hd;have HW:=Lib.hid hw;have f5:=HF0.out.later hw;have y1:=(f5.nth 1 rfl).cell 0;have y2:=(f5.nth 1 rfl).frozen 0;have y3:=(f5.nth 1 rfl).lt;have HY:=Lib.hid (HST.out W (.bool false) hw);clear f5 hw;go_wp2_with fail
    refine bodyPost_ret (v:=.bool false) (by simp [results,Tryz.results93,go_sem,HY.out.1]) rfl ⟨ret_bool ?_,HY.out.2⟩;rw [<- HX.out];unfold heldB;rw [if_neg (by rw [HR1.out];decide),if_neg HC2.out,if_pos HC3.out,HC6.out];simp
   ·have HC6:=Lib.hid h6;rw [h6] at H2;clear h6;refine wp_region_valsT (by kernel_rfl) 8 91 rfl (by kernel_rfl) (by kernel_rfl) (by kernel_rfl) [.pointer (some ⟨d,0,none⟩),.int .i64 n,.bool true,.bool true,.int .i64 (r n:Nat),.pointer (some ⟨d,0,none⟩),.int .i64 n,.int .i64 (nextR C.strikes sure r n:Nat)] rfl (fun _ W=>Aft W3 W) (Aft.drew _) ?st2 ?fi2
    case st2 =>
     intro i o v ho hv
     match i,ho,hv with
     | 0,ho,hv =>
      cases ho;cases hv;refine .inl ⟨rfl,fun done a W hd hp hk hw K hK=>?_⟩;have e2:=hk.s 2;exact op_val (by simp [go_sem,ev' e2,((HF0.out.later hw).nth 0 rfl).cell 0]) (hK _ hw)
     | 1,ho,hv =>
      cases ho;cases hv;refine .inl ⟨rfl,fun done a W hd hp hk hw K hK=>?_⟩;have e1:=hk.s 1;exact op_val (by simp [go_sem,ev' e1]) (hK _ hw)
     | 2,ho,hv =>
      cases ho;cases hv;refine .inl ⟨rfl,fun done a W hd hp hk hw K hK=>?_⟩;have e60:=hk.t 0;have e61:=hk.t 1;refine op_callN rfl rfl rfl _ rfl (vs:=#[.pointer (some ⟨d,0,none⟩),.int .i64 n]) (by simp [e60,e61]) (H2.out _ (HF0.out.aft.trans hw)) ?_;rintro e w' ⟨rfl,hw'⟩;exact ⟨_,rfl,hK _ (hw.trans hw')⟩
     | 3,ho,hv =>
      cases ho;cases hv;refine .inl ⟨rfl,fun done a W hd hp hk hw K hK=>?_⟩;have e62:=hk.t 2;exact op_val (by simp [go_sem,ev' e62]) (hK _ hw)
     | 4,ho,hv =>
      cases ho;cases hv;refine .inl ⟨rfl,fun done a W hd hp hk hw K hK=>?_⟩;have e5:=hk.s 5;exact op_val (by simp [go_sem,ev' e5,((HF0.out.later hw).nth 2 rfl).cell 0]) (hK _ hw)
     | 5,ho,hv =>
      cases ho;cases hv;refine .inl ⟨rfl,fun done a W hd hp hk hw K hK=>?_⟩;have e2:=hk.s 2;exact op_val (by simp [go_sem,ev' e2,((HF0.out.later hw).nth 0 rfl).cell 0]) (hK _ hw)
     | 6,ho,hv =>
      cases ho;cases hv;refine .inl ⟨rfl,fun done a W hd hp hk hw K hK=>?_⟩;have e1:=hk.s 1;exact op_val (by simp [go_sem,ev' e1]) (hK _ hw)
     | 7,ho,hv =>
      cases ho;cases hv;refine .inl ⟨rfl,fun done a W hd hp hk hw K hK=>?_⟩;have e65:=hk.t 5;have e66:=hk.t 6;refine op_callN rfl rfl rfl _ rfl (vs:=#[.pointer (some ⟨d,0,none⟩),.int .i64 n]) (by simp [e65,e66]) (H3.out _ (HF0.out.aft.trans hw)) ?_;rintro e w' ⟨rfl,hw'⟩;exact ⟨_,rfl,hK _ (hw.trans hw')⟩
     | _ + 8,_,hv=>cases hv
    intro done W hd hw;simp only [List.drop_succ_cons,List.drop_zero,List.zip_cons_cons,List.zip_nil_right,putAll];simp only [Act.put,List.setIfInBounds_toArray,List.set];clear hd;have HW:=Lib.hid hw;have f5:=HF0.out.later hw;have y1:=(f5.nth 1 rfl).cell 0;have y2:=(f5.nth 1 rfl).frozen 0;have y3:=(f5.nth 1 rfl).lt;by_cases h7:nextR C.strikes sure r n <= r n
    ·have t3:decide (nextR C.strikes sure r n <= r n) = true:=by simpa using h7
     have HC7:=Lib.hid h7;have HY:=Lib.hid (HST.out W (.bool true) hw);clear f5 hw h7;go_wp2_with fail
     refine bodyPost_ret (v:=.bool true) (by simp [results,Tryz.results93,go_sem,HY.out.1]) rfl ⟨ret_bool ?_,HY.out.2⟩;rw [<- HX.out];unfold heldB;rw [if_neg (by rw [HR1.out];decide),if_neg HC2.out,if_pos HC3.out,HC6.out,decide_eq_true HC7.out];rfl
    ·have t3:decide (nextR C.strikes sure r n <= r n) = false:=by simpa using h7
     have HC7:=Lib.hid h7;have HY:=Lib.hid (HST.out W (.bool false) hw);clear f5 hw h7;go_wp2_with fail
     refine bodyPost_ret (v:=.bool false) (by simp [results,Tryz.results93,go_sem,HY.out.1]) rfl ⟨ret_bool ?_,HY.out.2⟩;rw [<- HX.out];unfold heldB;rw [if_neg (by rw [HR1.out];decide),if_neg HC2.out,if_pos HC3.out,HC6.out,decide_eq_false HC7.out];rfl
 ·have HR1:=Lib.hid h1;rw [h1] at p2;clear h1;by_cases h4:f n = 2
  ·have t1:(((f n:Nat):Int) == 2) = true:=by simp [h4]
   have HC4:=Lib.hid h4;clear h4;by_cases h5:r n = 0
   ·have t2:(((r n:Nat):Int) == 0) = true:=by simp [h5]
    have HC5:=Lib.hid h5;clear h5;have HY:=Lib.hid (HST.out W3 (.bool true) (Aft.refl _));go_wp2_with fail
    refine bodyPost_ret (v:=.bool true) (by simp [results,Tryz.results93,go_sem,HY.out.1]) rfl ⟨ret_bool ?_,HY.out.2⟩;rw [<- HX.out];unfold heldB;rw [if_pos HR1.out,decide_eq_true HC4.out,decide_eq_true HC5.out];rfl
   ·have t2:(((r n:Nat):Int) == 0) = false:=by simp;omega
    have HC5:=Lib.hid h5;clear h5;have HY:=Lib.hid (HST.out W3 (.bool false) (Aft.refl _));go_wp2_with fail
    refine bodyPost_ret (v:=.bool false) (by simp [results,Tryz.results93,go_sem,HY.out.1]) rfl ⟨ret_bool ?_,HY.out.2⟩;rw [<- HX.out];unfold heldB;rw [if_pos HR1.out,decide_eq_false HC5.out];simp
  ·have t1:(((f n:Nat):Int) == 2) = false:=by simp;omega
   have HC4:=Lib.hid h4;clear h4;have HY:=Lib.hid (HST.out W3 (.bool false) (Aft.refl _));go_wp2_with fail
   refine bodyPost_ret (v:=.bool false) (by simp [results,Tryz.results93,go_sem,HY.out.1]) rfl ⟨ret_bool ?_,HY.out.2⟩;rw [<- HX.out];unfold heldB;rw [if_pos HR1.out,decide_eq_false HC4.out];rfl
set_option maxRecDepth 100000 in
set_option maxHeartbeats 2000000 in
theorem held_range (w0 w:World) (d:Nat) (C:CaseL) (a1 a2:Option Addr) (c1 c2:Nat) (ref sure:Int -> Bool) (f r:Int -> Nat) (hD:DeskAt w0 w d C a1 a2 c1 c2 ref sure f r) (n:Nat) (hn:n < 14) (hS:∀ s ∈ C.strikes,0 <= s.1 /\ s.1 < 14) (hr:∀ x,r x <= 1000) (h1:ref n = false) (h2:f n ≠ 0) (h3:f n ≠ 1) :
  Calls Tryz.prog 93 #[.pointer (some ⟨d,0,none⟩),.int .i64 n] w fun e w'=>e = .returned (.bool (heldB C.strikes sure ref f r n)) /\ Aft w w':=by
 have HL:Hid (∀ (k:Nat) (x:Int),(strikers C.strikes sure n)[k]? = some x -> 0 <= x /\ x < 14):=Lib.hid fun k x h=>by
  obtain ⟨s,hs,rfl⟩:=strikers_mem (List.mem_of_getElem? h);exact hS s hs
 have HD:=Lib.hid hD;have HR:=Lib.hid hr;have H1:Hid (∀ W,Aft w W -> Calls Tryz.prog 115 #[.pointer (some ⟨d,0,none⟩),.int .i64 n,.int .i64 1] W fun e w'=>e = .returned (.bool (struckB C.strikes sure f n 1)) /\ Aft W w'):=Lib.hid fun W h=>struck_any w0 W d C a1 a2 c1 c2 ref sure f r (hD.later h) n 1 hn hS
 have H0:Hid (∀ W,Aft w W -> Calls Tryz.prog 115 #[.pointer (some ⟨d,0,none⟩),.int .i64 n,.int .i64 0] W fun e w'=>e = .returned (.bool (struckB C.strikes sure f n 0)) /\ Aft W w'):=Lib.hid fun W h=>struck_any w0 W d C a1 a2 c1 c2 ref sure f r (hD.later h) n 0 hn hS
 have H2:Hid (∀ W,Aft w W -> Calls Tryz.prog 116 #[.pointer (some ⟨d,0,none⟩),.int .i64 n] W fun e w'=>e = .returned (.bool (freeB C.strikes sure f n)) /\ Aft W w'):=Lib.hid fun W h=>free_any w0 W d C a1 a2 c1 c2 ref sure f r (hD.later h) n hn hS
 have H3:Hid (∀ W,Aft w W -> Calls Tryz.prog 113 #[.pointer (some ⟨d,0,none⟩),.int .i64 n] W fun e w'=>e = .returned (.int .i64 (nextR C.strikes sure r n:Nat)) /\ Aft W w'):=Lib.hid fun W h=>next_any w0 W d C a1 a2 c1 c2 ref sure f r (hD.later h) n hn hS hr
 have q1:=hD.found hn;have q2:=hD.rf hn;have q3:=hD.rank hn;have hlt:=hD.lt;have hn14:(0:Int) <= (n:Int) /\ (n:Int) < 14:=by omega
 have hrn:=hr n;have F0:=(((Fr.start w).alloc rfl 95 #[.pointer (some ⟨d,0,none⟩)]).alloc (by simp) 4 #[.bool false]).alloc (by simp) 3 #[.int .i64 (r n:Nat)];simp only [List.nil_append,List.cons_append] at F0;have HF0:=Lib.hid F0;clear hD hS hr F0;obtain ⟨X,hX⟩:∃ X,heldB C.strikes sure ref f r n = X:=⟨_,rfl⟩;rw [hX];have HX:=Lib.hid hX;clear hX;refine (callsIn_wide (n:=5)).1 ?_;refine callsIn_of_wp_marks Tryz.func93 rfl trivial ?_ rfl;simp only [Tryz.ntmps93,List.size_toArray,List.length_cons,List.length_nil,Nat.reduceAdd,Nat.reduceSub,Array.replicate_succ,Array.replicate_zero,List.push_toArray,List.append_toArray,List.nil_append,List.cons_append];refine wpIn_wide.2 ?_;go_upto_block 0 with (fail)
 have hz:(((w.alloc (.cells #[.pointer (some ⟨d,0,none⟩)] 95)).alloc (.cells #[.bool false] 4)).alloc (.cells #[.int .i64 (r n:Nat)] 3)).heap.size = w.heap.size + 1 + 1 + 1:=by simp
 generalize ((w.alloc (.cells #[.pointer (some ⟨d,0,none⟩)] 95)).alloc (.cells #[.bool false] 4)).alloc (.cells #[.int .i64 (r n:Nat)] 3) = W3 at *;obtain ⟨S,hS⟩:∃ S,w.heap.size = S:=⟨_,rfl⟩;rw [hS] at HF0 hz hlt ⊢;have hD3:=HD.out.later HF0.out.aft;have p1:=hD3.found hn;have p2:=hD3.rf hn;have p3:=hD3.rank hn;have plt:=hD3.lt;have p4:W3.cell? ⟨S,0,none⟩ = some (.pointer (some ⟨d,0,none⟩)):=(HF0.out.nth 0 rfl).cell 0;have p5:W3.cell? ⟨S + 1,0,none⟩ = some (.bool false):=(HF0.out.nth 1 rfl).cell 0;have p6:=(HF0.out.nth 1 rfl).frozen 0;have p7:W3.cell? ⟨S + 1 + 1,0,none⟩ = some (.int .i64 (r n:Nat)):=(HF0.out.nth 2 rfl).cell 0;have l1:=(HF0.out.nth 0 rfl).lt;have l2:=(HF0.out.nth 1 rfl).lt;have l3:=(HF0.out.nth 2 rfl).lt
 have HST:Hid (∀ (W:World) (v:Value),Aft W3 W -> (W.setCell ⟨S + 1,0,none⟩ v).cell? ⟨S + 1,0,none⟩ = some v /\ Aft w (W.setCell ⟨S + 1,0,none⟩ v)):=Lib.hid fun W v h=>by
  have hf:=HF0.out.later h;refine ⟨?_,hf.aft.then_setCell (p:=⟨S + 1,0,none⟩) (by show w.heap.size <= S + 1;omega) _⟩;have:=((hf.nth 1 rfl).store 0 v).cell 0;simpa using this
 clear hD3 q1 q2 q3 hlt;refine wp_block ?_;have t1:(((f n:Nat):Int) == 0) = false:=by simp;omega
 have t2:(((f n:Nat):Int) == 1) = false:=by simp;omega
 have HXX:Hid (((strikers C.strikes sure n).any (fun x=>decide (f x = 1) && decide (r x < r n))) = X):=Lib.hid (by rw [<- HX.out];unfold heldB;rw [if_neg (by rw [h1];decide),if_neg h2,if_neg h3]);rw [h1] at p2;clear h1 h2 h3;go_upto_block 1 with (go_at_call 103;refine (striking_any d n _).mono ?_;rintro e w' ⟨rfl,rfl⟩)
 have F5:=(HF0.out.alloc hz 95 #[.pointer (some ⟨d,0,none⟩)]).alloc (by simp;omega) 3 #[.int .i64 n];simp only [List.nil_append,List.cons_append] at F5;have hz5:((W3.alloc (.cells #[.pointer (some ⟨d,0,none⟩)] 95)).alloc (.cells #[.int .i64 n] 3)).heap.size = S + 1 + 1 + 1 + 1 + 1:=by simp;omega
 have HF5:=Lib.hid F5;clear F5 p1 p2 p3 p4 p5 p6 p7;generalize (W3.alloc (.cells #[.pointer (some ⟨d,0,none⟩)] 95)).alloc (.cells #[.int .i64 n] 3) = W5 at *;have HL0:=Lib.hid (show ∀ (j:Nat) (x:Int),j < 0 -> (strikers C.strikes sure n)[j]? = some x -> (fun x=>decide (f x = 1) && decide (r x < r n)) x = false from fun j x h=>absurd h (Nat.not_lt_zero _));refine wp_block ?_;refine (wpIn_wide (n:=5)).1 ?_;refine wpIn_striking2 (w0:=w0) (bd:=S + 1 + 1 + 1) (bn:=S + 1 + 1 + 1 + 1) (d:=d) (C:=C) (a1:=a1) (a2:=a2) (c1:=c1) (c2:=c2) (ref:=ref) (sure:=sure) (m:=n) hn rfl
  (fun k W=>Fr w (S + 1 + 1 + 1 + 1 + 1) [(S,95,#[.pointer (some ⟨d,0,none⟩)]),(S + 1,4,#[.bool false]),(S + 1 + 1,3,#[.int .i64 (r n:Nat)]),(S + 1 + 1 + 1,95,#[.pointer (some ⟨d,0,none⟩)]),(S + 1 + 1 + 1 + 1,3,#[.int .i64 n])] W /\ ∀ (j:Nat) (x:Int),j < k -> (strikers C.strikes sure n)[j]? = some x -> (fun x=>decide (f x = 1) && decide (r x < r n)) x = false)
  (fun c W=>Fr w (S + 1 + 1 + 1 + 1 + 1) [(S + 1,4,#[.bool true])] W /\ c = .ret /\ ((strikers C.strikes sure n).any (fun x=>decide (f x = 1) && decide (r x < r n))) = true)
  (by rw [hz5];exact Fr.three) (fun k W W' h ha=>⟨h.1.later ha,h.2⟩) (fun c=>by rw [hz5];exact Fr.three)
  (fun k W h=>⟨(h.1.nth 3 rfl).cell 0,(h.1.nth 4 rfl).cell 0,(h.1.nth 3 rfl).lt,(h.1.nth 4 rfl).lt,f,r,HD.out.later h.1.aft⟩) ⟨HF5.out,HL0.out⟩
  rfl rfl rfl (by simp) ?body ?done ?stop
 case body =>
  intro l k x W hx hI hsz;obtain ⟨x0,x1⟩:=HL.out k x hx;obtain ⟨m,rfl⟩:∃ m:Nat,x = m:=⟨x.toNat,by omega⟩;have hm14:m < 14:=by omega
  have hDW:=HD.out.later hI.1.aft;have z2:=hDW.found hm14;have z3:=hDW.rank hm14;have z1:W.cell? ⟨S,0,none⟩ = some (.pointer (some ⟨d,0,none⟩)):=(hI.1.nth 0 rfl).cell 0;have z4:W.cell? ⟨S + 1 + 1,0,none⟩ = some (.int .i64 (r n:Nat)):=(hI.1.nth 2 rfl).cell 0;have b2:=hI.1.nth 1 rfl;have q5:=b2.frozen 0;have q4:=b2.cell 0;have q6:=b2.lt;have hm:(0:Int) <= (m:Int) /\ (m:Int) < 14:=by omega
  have HI:=Lib.hid hI;have hrm:=HR.out m;clear hI b2 hDW;simp only [List.setIfInBounds_toArray,List.set];refine wpIn_block ?_;refine wpIn_seq_k fun K1 H1=>?_
  have NO:Hid ((fun x=>decide (f x = 1) && decide (r x < r n)) (m:Int) = false -> ∀ W',Aft W W' -> post3 (S + 1 + 1 + 1 + 1 + 1) (fun k W=>Fr w (S + 1 + 1 + 1 + 1 + 1) [(S,95,#[.pointer (some ⟨d,0,none⟩)]),(S + 1,4,#[.bool false]),(S + 1 + 1,3,#[.int .i64 (r n:Nat)]),(S + 1 + 1 + 1,95,#[.pointer (some ⟨d,0,none⟩)]),(S + 1 + 1 + 1 + 1,3,#[.int .i64 n])] W /\ ∀ (j:Nat) (x:Int),j < k -> (strikers C.strikes sure n)[j]? = some x -> (fun x=>decide (f x = 1) && decide (r x < r n)) x = false) (fun c W=>Fr w (S + 1 + 1 + 1 + 1 + 1) [(S + 1,4,#[.bool true])] W /\ c = .ret /\ ((strikers C.strikes sure n).any (fun x=>decide (f x = 1) && decide (r x < r n))) = true) (k + 1) W .normal ⟨#[],[]⟩ W'):=Lib.hid fun hp W' ha=>by
   refine ⟨Kept3.of_aft ha (by omega),HI.out.1.later ha,fun j x hj hjx=>?_⟩;by_cases e:j < k
   ·exact HI.out.2 j x e hjx
   ·obtain rfl:j = k:=by omega
    rw [hx] at hjx;cases hjx;exact hp
  by_cases hf1:f m = 1
  ·have t3:(((f m:Nat):Int) == 1) = true:=by simp [hf1]
   have HF1:=Lib.hid hf1;clear hf1;refine wpIn_region_valsT (by kernel_rfl) (by kernel_rfl) 15 91 rfl (by kernel_rfl) (by kernel_rfl) (by kernel_rfl) [.pointer (some ⟨d,0,none⟩),.int .i64 m,.pointer (some ⟨d,0,none⟩),.pointer (some ⟨d,31,none⟩),.pointer (some ⟨d,31 + m,none⟩),.int .i64 (f m:Nat),.bool true,.bool true,.pointer (some ⟨d,0,none⟩),.int .i64 m,.pointer (some ⟨d,0,none⟩),.pointer (some ⟨d,45,none⟩),.pointer (some ⟨d,45 + m,none⟩),.int .i64 (r m:Nat),.int .i64 (r n:Nat)] rfl (fun _ W'=>W' = W.drew) (rfl) ?st3 ?fi3
   case st3 =>
    intro i o v ho hv
    match i,ho,hv with
    | 0,ho,hv =>
     cases ho;cases hv;refine .inl ⟨rfl,fun done a W hd hp hk hw K hK=>?_⟩;have e2:=hk.s 2;exact op_val (by simp [go_sem,ev' e2,hw,z1]) (hK _ hw)
    | 1,ho,hv =>
     cases ho;cases hv;refine .inl ⟨rfl,fun done a W hd hp hk hw K hK=>?_⟩;have e6:=hk.s 6;exact op_val (by simp [go_sem,ev' e6]) (hK _ hw)
    | 2,ho,hv =>
     cases ho;cases hv;refine .inl ⟨rfl,fun done a W hd hp hk hw K hK=>?_⟩;have e74:=hk.t 0;exact op_val (by simp [go_sem,ev' e74]) (hK _ hw)
    | 3,ho,hv =>
     cases ho;cases hv;refine .inl ⟨rfl,fun done a W hd hp hk hw K hK=>?_⟩;have e76:=hk.t 2;exact op_val (by simp [go_sem,ev' e76]) (hK _ hw)
    | 4,ho,hv =>
     cases ho;cases hv;refine .inl ⟨rfl,fun done a W hd hp hk hw K hK=>?_⟩;have e75:=hk.t 1;have e77:=hk.t 3;exact op_val (by simp [go_sem,ev' e75,ev' e77,hm]) (hK _ hw)
    | 5,ho,hv =>
     cases ho;cases hv;refine .inl ⟨rfl,fun done a W hd hp hk hw K hK=>?_⟩;have e78:=hk.t 4;exact op_val (by simp [go_sem,ev' e78,hw,z2]) (hK _ hw)
    | 6,ho,hv =>
     cases ho;cases hv;refine .inl ⟨rfl,fun done a W hd hp hk hw K hK=>?_⟩;have e79:=hk.t 5;exact op_val (by simp [go_sem,ev' e79,t3]) (hK _ hw)
    | 7,ho,hv =>
     cases ho;cases hv;refine .inl ⟨rfl,fun done a W hd hp hk hw K hK=>?_⟩;have e80:=hk.t 6;exact op_val (by simp [go_sem,ev' e80]) (hK _ hw)
    | 8,ho,hv =>
     cases ho;cases hv;refine .inl ⟨rfl,fun done a W hd hp hk hw K hK=>?_⟩;have e2:=hk.s 2;exact op_val (by simp [go_sem,ev' e2,hw,z1]) (hK _ hw)
    | 9,ho,hv =>
     cases ho;cases hv;refine .inl ⟨rfl,fun done a W hd hp hk hw K hK=>?_⟩;have e6:=hk.s 6;exact op_val (by simp [go_sem,ev' e6]) (hK _ hw)
    | 10,ho,hv =>
     cases ho;cases hv;refine .inl ⟨rfl,fun done a W hd hp hk hw K hK=>?_⟩;have e82:=hk.t 8;exact op_val (by simp [go_sem,ev' e82]) (hK _ hw)
    | 11,ho,hv =>
     cases ho;cases hv;refine .inl ⟨rfl,fun done a W hd hp hk hw K hK=>?_⟩;have e84:=hk.t 10;exact op_val (by simp [go_sem,ev' e84]) (hK _ hw)
    | 12,ho,hv =>
     cases ho;cases hv;refine .inl ⟨rfl,fun done a W hd hp hk hw K hK=>?_⟩;have e83:=hk.t 9;have e85:=hk.t 11;exact op_val (by simp [go_sem,ev' e83,ev' e85,hm]) (hK _ hw)
    | 13,ho,hv =>
     cases ho;cases hv;refine .inl ⟨rfl,fun done a W hd hp hk hw K hK=>?_⟩;have e86:=hk.t 12;exact op_val (by simp [go_sem,ev' e86,hw,z3]) (hK _ hw)
    | 14,ho,hv =>
     cases ho;cases hv;refine .inl ⟨rfl,fun done a W hd hp hk hw K hK=>?_⟩;have e5:=hk.s 5;exact op_val (by simp [go_sem,ev' e5,hw,z4]) (hK _ hw)
    | _ + 15,_,hv=>cases hv
   intro done W hd hw;simp only [List.drop_succ_cons,List.drop_zero,List.zip_cons_cons,List.zip_nil_right,putAll];simp only [Act.put,List.setIfInBounds_toArray,List.set];clear hd;subst hw;by_cases hrr:r m < r n
   ·have t4:decide (r m < r n) = true:=by simpa using hrr
    have HRR:=Lib.hid hrr;clear hrr;go_wp2_with fail
    change K1 _ _;refine H1 _ _ ?_;clear H1;refine wpIn_cond_true (by simp [Act.eval]) ?_;refine wpIn_seq_k fun K2 H2=>?_
    refine wpIn_region_of_list (by kernel_rfl) ?_;go_wp2_with fail
    change K2 _ _;refine H2 _ _ ?_;clear H2;refine wpIn_ret ?_;refine ⟨(Kept3.of_aft (Aft.drew W) (by omega)).setCell (p:=⟨S + 1,0,none⟩) (by left;show S + 1 < W5.heap.size;omega) _,((HI.out.1.later (Aft.drew W)).store (g:=S + 1) (t:=4) (cs:=#[.bool false]) (by simp) 0 (.bool true) (by simp)),rfl,List.any_eq_true.2 ⟨_,List.mem_of_getElem? hx,by rw [decide_eq_true HF1.out,decide_eq_true HRR.out];rfl⟩⟩
   ·have t4:decide (r m < r n) = false:=by simpa using hrr
    have HRR:=Lib.hid hrr;clear hrr;go_wp2_with fail
    change K1 _ _;refine H1 _ _ ?_;clear H1;refine wpIn_cond_false (by simp [Act.eval]) ?_;refine wpIn_skip ?_;rw [hz5];exact NO.out (by rw [decide_eq_false HRR.out,Bool.and_false]) _ (Aft.drew W)
  ·have t3:(((f m:Nat):Int) == 1) = false:=by simp;omega
   have HF1:=Lib.hid hf1;clear hf1;refine wpIn_region_valsT (by kernel_rfl) (by kernel_rfl) 15 91 rfl (by kernel_rfl) (by kernel_rfl) (by kernel_rfl) [.pointer (some ⟨d,0,none⟩),.int .i64 m,.pointer (some ⟨d,0,none⟩),.pointer (some ⟨d,31,none⟩),.pointer (some ⟨d,31 + m,none⟩),.int .i64 (f m:Nat),.bool false,.bool false,undef,undef,undef,undef,undef,undef,undef] rfl (fun _ W'=>W' = W.drew) (rfl) ?st4 ?fi4
   case st4 =>
    intro i o v ho hv
    match i,ho,hv with
    | 0,ho,hv =>
     cases ho;cases hv;refine .inl ⟨rfl,fun done a W hd hp hk hw K hK=>?_⟩;have e2:=hk.s 2;exact op_val (by simp [go_sem,ev' e2,hw,z1]) (hK _ hw)
    | 1,ho,hv =>
     cases ho;cases hv;refine .inl ⟨rfl,fun done a W hd hp hk hw K hK=>?_⟩;have e6:=hk.s 6;exact op_val (by simp [go_sem,ev' e6]) (hK _ hw)
    | 2,ho,hv =>
     cases ho;cases hv;refine .inl ⟨rfl,fun done a W hd hp hk hw K hK=>?_⟩;have e74:=hk.t 0;exact op_val (by simp [go_sem,ev' e74]) (hK _ hw)
    | 3,ho,hv =>
     cases ho;cases hv;refine .inl ⟨rfl,fun done a W hd hp hk hw K hK=>?_⟩;have e76:=hk.t 2;exact op_val (by simp [go_sem,ev' e76]) (hK _ hw)
    | 4,ho,hv =>
     cases ho;cases hv;refine .inl ⟨rfl,fun done a W hd hp hk hw K hK=>?_⟩;have e75:=hk.t 1;have e77:=hk.t 3;exact op_val (by simp [go_sem,ev' e75,ev' e77,hm]) (hK _ hw)
    | 5,ho,hv =>
     cases ho;cases hv;refine .inl ⟨rfl,fun done a W hd hp hk hw K hK=>?_⟩;have e78:=hk.t 4;exact op_val (by simp [go_sem,ev' e78,hw,z2]) (hK _ hw)
    | 6,ho,hv =>
     cases ho;cases hv;refine .inl ⟨rfl,fun done a W hd hp hk hw K hK=>?_⟩;have e79:=hk.t 5;exact op_val (by simp [go_sem,ev' e79,t3]) (hK _ hw)
    | 7,ho,hv =>
     cases ho;cases hv;refine .inl ⟨rfl,fun done a W hd hp hk hw K hK=>?_⟩;have e80:=hk.t 6;exact op_val (by simp [go_sem,ev' e80]) (hK _ hw)
    | 8,ho,hv=>cases ho;cases hv;exact .inr ⟨rfl,rfl,fun _ _ h=>h⟩
    | 9,ho,hv=>cases ho;cases hv;exact .inr ⟨rfl,rfl,fun _ _ h=>h⟩
    | 10,ho,hv=>cases ho;cases hv;exact .inr ⟨rfl,rfl,fun _ _ h=>h⟩
    | 11,ho,hv=>cases ho;cases hv;exact .inr ⟨rfl,rfl,fun _ _ h=>h⟩
    | 12,ho,hv=>cases ho;cases hv;exact .inr ⟨rfl,rfl,fun _ _ h=>h⟩
    | 13,ho,hv=>cases ho;cases hv;exact .inr ⟨rfl,rfl,fun _ _ h=>h⟩
    | 14,ho,hv=>cases ho;cases hv;exact .inr ⟨rfl,rfl,fun _ _ h=>h⟩
    | _ + 15,_,hv=>cases hv
   intro done W hd hw;simp only [List.drop_succ_cons,List.drop_zero,List.zip_cons_cons,List.zip_nil_right,putAll];simp only [Act.put,List.setIfInBounds_toArray,List.set];clear hd;subst hw;go_wp2_with fail
   change K1 _ _;refine H1 _ _ ?_;clear H1;refine wpIn_cond_false (by simp [Act.eval]) ?_;refine wpIn_skip ?_;rw [hz5];exact NO.out (by rw [decide_eq_false HF1.out,Bool.false_and]) _ (Aft.drew W)
 case done =>
  intro D W hDD hI hd;have b2:=hI.1.nth 1 rfl;have q4:=b2.cell 0;have q5:=b2.frozen 0;have q6:=b2.lt;have HI:=Lib.hid hI;have HN:Hid (((strikers C.strikes sure n).any (fun x=>decide (f x = 1) && decide (r x < r n))) = false):=Lib.hid (by
   rw [Bool.eq_false_iff];intro h;obtain ⟨x,hx,h2⟩:=List.any_eq_true.1 h;obtain ⟨j,hj,rfl⟩:=List.getElem_of_mem hx;have h3:=hI.2 j _ hj (List.getElem?_eq_getElem hj);dsimp only at h3;rw [h3] at h2;cases h2)
  have hd2:(W.setCell ⟨S + 1,0,none⟩ (.bool false)).heap[D]? = some (.deferred (some [])):=(Below.heap_setCell W ⟨S + 1,0,none⟩ (.bool false) D (by show D ≠ S + 1;omega)).trans hd;have HB2:=Lib.hid (b2.store 0 (.bool false));have HD2:=Lib.hid hd2;clear hI b2 hd2 hd;go_wp2_with fail
  refine ⟨by simp,.inl ⟨_,_,rfl,run_takeDeferred HD2.out,?_⟩⟩;have y1:=(HB2.out.grown (grownBy_putObj' _ D (.deferred none)) (fun e=>by cases e;omega)).cell 0;refine ⟨.bool false,?_,ret_bool (by rw [<- HXX.out,HN.out]),(HI.out.1.aft.then_setCell (p:=⟨S + 1,0,none⟩) (by show w.heap.size <= S + 1;omega) _).grown (grownBy_putObj' _ D (.deferred none)) (fun k e=>by cases e;omega)⟩;generalize ((W.setCell ⟨S + 1,0,none⟩ (.bool false)).putObj D (.deferred none)) = Y at *;have y1':Y.cell? ⟨S + 1,0,none⟩ = some (.bool false):=y1;simp [results,Tryz.results93,go_sem,y1']
 case stop =>
  intro D c W hDD hI hd;obtain ⟨hF,rfl,hany⟩:=hI;refine wpIn_ret ?_;refine ⟨by simp,.inl ⟨_,_,rfl,run_takeDeferred hd,?_⟩⟩;have y1:=((hF.nth 0 rfl).grown (grownBy_putObj' W D (.deferred none)) (fun e=>by cases e;omega)).cell 0;refine ⟨.bool true,?_,ret_bool (by rw [<- HXX.out,hany]),hF.aft.grown (grownBy_putObj' _ D (.deferred none)) (fun k e=>by cases e;omega)⟩;generalize (W.putObj D (.deferred none)) = Y at *;have y1':Y.cell? ⟨S + 1,0,none⟩ = some (.bool true):=y1;simp [results,Tryz.results93,go_sem,y1']
theorem held_any (w0 w:World) (d:Nat) (C:CaseL) (a1 a2:Option Addr) (c1 c2:Nat) (ref sure:Int -> Bool) (f r:Int -> Nat) (hD:DeskAt w0 w d C a1 a2 c1 c2 ref sure f r) (n:Nat) (hn:n < 14) (hS:∀ s ∈ C.strikes,0 <= s.1 /\ s.1 < 14) (hr:∀ x,r x <= 1000) :
  Calls Tryz.prog 93 #[.pointer (some ⟨d,0,none⟩),.int .i64 n] w fun e w'=>e = .returned (.bool (heldB C.strikes sure ref f r n)) /\ Aft w w':=by
 by_cases h:ref n = true \/ f n = 0 \/ f n = 1
 ·exact held_easy w0 w d C a1 a2 c1 c2 ref sure f r hD n hn hS hr h
 ·exact held_range w0 w d C a1 a2 c1 c2 ref sure f r hD n hn hS hr (by simpa using fun h'=>h (.inl h')) (fun h'=>h (.inr (.inl h'))) (fun h'=>h (.inr (.inr h')))
end Go.Proofs
end
section
/- Walks: Holds. -/
namespace Go.Proofs
open Go.RowKit
open Court (refL begF noS struckB nextR)
def overF (F:List Int) (f:Int -> Nat):Int -> Nat:=fun n=>if 0 <= n /\ n < F.length then (F.getD n.toNat 0).toNat else f n
theorem mnL_over (F:List Int) (f:Int -> Nat) (hF:F.length <= 14) (h0:∀ x ∈ F,0 <= x):mnL (overF F f) = F.map (Value.int .i64) ++ (mnL f).drop F.length:=by
 apply List.ext_getElem?;intro i;by_cases hi:i < 14
 ·rw [mnL_get _ hi];by_cases h:i < F.length
  ·rw [List.getElem?_append_left (by simpa using h),List.getElem?_map,List.getElem?_eq_getElem h];unfold overF;rw [if_pos (by omega)];have e:F.getD ((i:Int).toNat) 0 = F[i]:=by simp [List.getD,h]
   rw [e];have:=h0 _ (List.getElem_mem h);simp [Int.toNat_of_nonneg this]
  ·rw [List.getElem?_append_right (by simp;omega),List.length_map,List.getElem?_drop,show F.length + (i - F.length) = i by omega,mnL_get _ hi];unfold overF;rw [if_neg (by omega)]
 ·rw [List.getElem?_eq_none (by rw [mnL_len];omega),List.getElem?_eq_none (by rw [List.length_append,List.length_map,List.length_drop,mnL_len];omega)]
theorem desk_over_found (C:CaseL) (a1 a2:Option Addr) (c1 c2:Nat) (ref sure:Int -> Bool) (f r:Int -> Nat) (F:List Int) (hF:F.length <= 14) (h0:∀ x ∈ F,0 <= x) :
  (deskL C a1 a2 c1 c2 ref sure f r).take 31 ++ (F.map (Value.int .i64) ++ (deskL C a1 a2 c1 c2 ref sure f r).drop (31 + F.length)) = deskL C a1 a2 c1 c2 ref sure (overF F f) r:=by
 have e:∀ g:Int -> Nat,deskL C a1 a2 c1 c2 ref sure g r = ([Value.int .i64 C.claims,.slice a1 C.strikes.length c1,.slice a2 C.surveys.length c2] ++ (mkL ref ++ mkL sure)) ++ (mnL g ++ mnL r):=fun g=>by
  unfold deskL;simp only [List.append_assoc]
 have hl:([Value.int .i64 C.claims,.slice a1 C.strikes.length c1,.slice a2 C.surveys.length c2] ++ (mkL ref ++ mkL sure)).length = 31:=by simp only [List.length_append,mkL_len,List.length_cons,List.length_nil]
 rw [e f,e (overF F f),mnL_over F f hF h0,List.take_left' hl,show 31 + F.length = ([Value.int .i64 C.claims,.slice a1 C.strikes.length c1,.slice a2 C.surveys.length c2] ++ (mkL ref ++ mkL sure)).length + F.length by rw [hl],List.drop_length_add_append,List.drop_append_of_le_length (by rw [mnL_len];exact hF)];simp only [List.append_assoc]
theorem desk_over_rank (C:CaseL) (a1 a2:Option Addr) (c1 c2:Nat) (ref sure:Int -> Bool) (f r:Int -> Nat) (F:List Int) (hF:F.length <= 14) (h0:∀ x ∈ F,0 <= x) :
  (deskL C a1 a2 c1 c2 ref sure f r).take 45 ++ (F.map (Value.int .i64) ++ (deskL C a1 a2 c1 c2 ref sure f r).drop (45 + F.length)) = deskL C a1 a2 c1 c2 ref sure f (overF F r):=by
 have e:∀ g:Int -> Nat,deskL C a1 a2 c1 c2 ref sure f g = ([Value.int .i64 C.claims,.slice a1 C.strikes.length c1,.slice a2 C.surveys.length c2] ++ (mkL ref ++ (mkL sure ++ mnL f))) ++ mnL g:=fun g=>by
  unfold deskL;simp only [List.append_assoc]
 have hl:([Value.int .i64 C.claims,.slice a1 C.strikes.length c1,.slice a2 C.surveys.length c2] ++ (mkL ref ++ (mkL sure ++ mnL f))).length = 45:=by simp only [List.length_append,mkL_len,mnL_len,List.length_cons,List.length_nil]
 rw [e r,e (overF F r),mnL_over F r hF h0,List.take_left' hl,show 45 + F.length = ([Value.int .i64 C.claims,.slice a1 C.strikes.length c1,.slice a2 C.surveys.length c2] ++ (mkL ref ++ (mkL sure ++ mnL f))).length + F.length by rw [hl],List.drop_length_add_append]
theorem only_setRow (w:World) (g:Nat) (cs:Array Value):w.grownBy (w.setRow g cs) (some g) :=
 ⟨rfl,rfl,rfl,by simp [World.setRow],fun i _ hne=>setRow_other w g i cs (fun e=>hne (by rw [e]))⟩
theorem DeskAt.over {w0 w:World} {d:Nat} {C:CaseL} {a1 a2:Option Addr} {c1 c2:Nat} {ref sure:Int -> Bool} {f r f' r':Int -> Nat} (h:DeskAt w0 w d C a1 a2 c1 c2 ref sure f r) {cs:List Value} (he:cs = deskL C a1 a2 c1 c2 ref sure f' r'):DeskAt w0 (w.setRow d cs.toArray) d C a1 a2 c1 c2 ref sure f' r' :=
 ⟨by subst he;exact setRow_heap w d (deskL C a1 a2 c1 c2 ref sure f r).toArray _ 94 _ h.blk,h.rep,h.base,h.aft.grown (only_setRow w d _) (fun k e=>by cases e;exact h.base)⟩
def holdsE (C:CaseL) (R F K:List Int):Int :=
 if openE C R = 0 then (if (F.length:Int) ≠ C.claims \/ (K.length:Int) ≠ C.claims then 3 else if F.all (fun n=>fromB n 0 2) && K.all (fun n=>fromB n 0 14) then 0 else 4) else openE C R
theorem runs_91 (args:Array Value) (w:World):(callFunc 91 args).run Tryz.prog w = .ok (.enter 91 args) w:=by simp [go_sem]
theorem runs_92 (args:Array Value) (w:World):(callFunc 92 args).run Tryz.prog w = .ok (.enter 92 args) w:=by simp [go_sem]
theorem holds1_any (n:Int) (w:World):Calls Tryz.prog 91 #[.int .i64 n] w fun e w'=>e = .returned (.bool (!fromB n 0 2)) /\ Aft w w':=by
 go_enter Tryz.func91,Tryz.ntmps91;go_wp2_with (go_at_call 54;refine (from_any _ _ _ _).mono ?_;rintro e w' ⟨rfl,rfl⟩)
 go_ret;exact ⟨rfl,Aft.refl _⟩
theorem holds2_any (n:Int) (w:World):Calls Tryz.prog 92 #[.int .i64 n] w fun e w'=>e = .returned (.bool (!fromB n 0 14)) /\ Aft w w':=by
 go_enter Tryz.func92,Tryz.ntmps92;go_wp2_with (go_at_call 54;refine (from_any _ _ _ _).mono ?_;rintro e w' ⟨rfl,rfl⟩)
 go_ret;exact ⟨rfl,Aft.refl _⟩
theorem none_found (A:Option Addr) (l:List Int) (c:Nat) (w:World) (hA:Ints w A l) :
  Calls Tryz.prog 85 #[.slice A l.length c,.func (.func 91) #[] #[]] w fun e w'=>e = .returned (.bool (l.all fun n=>fromB n 0 2)) /\ Aft w w' :=
 (none_int IntR 91 [] (fun n=>!fromB n 0 2) A l c w hA runs_91 (fun x _ v0 hv=>by cases hv;exact fun u=>holds1_any x _)).mono fun _ _ ⟨h,ha⟩=>⟨by rw [h];exact ret_bool (by rw [List.all_eq_not_any_not]),ha⟩
theorem none_rank (A:Option Addr) (l:List Int) (c:Nat) (w:World) (hA:Ints w A l) :
  Calls Tryz.prog 85 #[.slice A l.length c,.func (.func 92) #[] #[]] w fun e w'=>e = .returned (.bool (l.all fun n=>fromB n 0 14)) /\ Aft w w' :=
 (none_int IntR 92 [] (fun n=>!fromB n 0 14) A l c w hA runs_92 (fun x _ v0 hv=>by cases hv;exact fun u=>holds2_any x _)).mono fun _ _ ⟨h,ha⟩=>⟨by rw [h];exact ret_bool (by rw [List.all_eq_not_any_not]),ha⟩
def HoldsR (b:Bool) (E:Int) (w:World) (e:Ending) (w':World):Prop:=e = .returned (.tuple #[.bool b,.int .i64 E]) /\ Aft w w'
set_option maxRecDepth 100000 in
set_option maxHeartbeats 2000000 in
theorem holds_bad (C:CaseL) (a1 a2:Option Addr) (c1 c2:Nat) (R F K:List Int) (A A' A'':Option Addr) (c c' c'':Nat) (w:World) (hC:CRep w C a1 a2) (hA:Ints w A R) (hF:Ints w A' F) (hK:Ints w A'' K) (he:holdsE C R F K ≠ 0) :
  Calls Tryz.prog 43 #[(.agg #[.int .i64 C.claims,.slice a1 C.strikes.length c1,.slice a2 C.surveys.length c2]),.slice A R.length c,.slice A' F.length c',.slice A'' K.length c''] w (HoldsR false (holdsE C R F K) w):=by
 have H0:=Lib.hid (Aft.alloc w (.cells #[.int .i64 C.claims,.slice a1 C.strikes.length c1,.slice a2 C.surveys.length c2] 25));have hlF:=hF.len;have hlK:=hK.len;unfold HoldsR;unfold holdsE at he ⊢;by_cases h1:openE C R = 0
 ·rw [if_pos h1] at he ⊢;have H1:Hid (∀ W,Aft w W -> Calls Tryz.prog 68 #[(.agg #[.int .i64 C.claims,.slice a1 C.strikes.length c1,.slice a2 C.surveys.length c2]),.slice A R.length c] W (Opened C a1 a2 c1 c2 R W)):=Lib.hid fun W h=>opened_good C a1 a2 c1 c2 R A c W (hC.aft h) (hA.aft h) h1
  have H2:Hid (∀ W,Aft w W -> Calls Tryz.prog 85 #[.slice A' F.length c',.func (.func 91) #[] #[]] W fun e w'=>e = .returned (.bool (F.all fun n=>fromB n 0 2)) /\ Aft W w'):=Lib.hid fun W h=>none_found A' F c' W (hF.aft h)
  have H3:Hid (∀ W,Aft w W -> Calls Tryz.prog 85 #[.slice A'' K.length c'',.func (.func 92) #[] #[]] W fun e w'=>e = .returned (.bool (K.all fun n=>fromB n 0 14)) /\ Aft W w'):=Lib.hid fun W h=>none_rank A'' K c'' W (hK.aft h)
  have HB:=Lib.hid (Blk.new w 25 #[.int .i64 C.claims,.slice a1 C.strikes.length c1,.slice a2 C.surveys.length c2]);clear hC hA hF hK;obtain ⟨N,hN⟩:∃ N,C.claims = N:=⟨_,rfl⟩;have HN:=Lib.hid hN;by_cases hf:(F.length:Int) ≠ C.claims
  ·rw [if_pos (.inl hf)];have t1:((F.length:Int) != C.claims) = true:=by simpa using hf
   clear he h1 hf hN;go_enter Tryz.func43,Tryz.ntmps43;go_wp2_with (go_at_call 68;refine (H1.out _ H0.out).mono ?_;rintro e w1 ⟨d,rfl,hd⟩;have HD:=Lib.hid hd;obtain ⟨k0,k1,k2⟩:=box25 (HB.out.aft hd.aft);have hlt:=(HB.out.aft hd.aft).lt;clear hd)
   go_ret2;exact ⟨rfl,H0.out.trans HD.out.aft⟩
  ·have t1:((F.length:Int) != C.claims) = false:=by simpa using hf
   by_cases hk:(K.length:Int) ≠ C.claims
   ·rw [if_pos (.inr hk)];have t2:((K.length:Int) != C.claims) = true:=by simpa using hk
    clear he h1 hf hN hk;go_enter Tryz.func43,Tryz.ntmps43;go_wp2_with (go_at_call 68;refine (H1.out _ H0.out).mono ?_;rintro e w1 ⟨d,rfl,hd⟩;have HD:=Lib.hid hd;obtain ⟨k0,k1,k2⟩:=box25 (HB.out.aft hd.aft);have hlt:=(HB.out.aft hd.aft).lt;clear hd)
    go_ret2;exact ⟨rfl,H0.out.trans HD.out.aft⟩
   ·have t2:((K.length:Int) != C.claims) = false:=by simpa using hk
    rw [if_neg (fun h=>h.elim hf hk)] at he ⊢
    have h3:(F.all (fun n=>fromB n 0 2) && K.all fun n=>fromB n 0 14) = false:=by
     cases h:(F.all (fun n=>fromB n 0 2) && K.all fun n=>fromB n 0 14)
     ·rfl
     ·rw [if_pos h] at he;exact absurd rfl he
    rw [if_neg (by rw [h3];decide)];clear he h1 hf hN hk;cases h4:F.all (fun n=>fromB n 0 2)
    ·rw [h4] at H2;clear h3 h4;go_enter Tryz.func43,Tryz.ntmps43;go_wp2_with (first | (go_at_call 68;refine (H1.out _ H0.out).mono ?_;rintro e w1 ⟨d,rfl,hd⟩;have HD:=Lib.hid hd;obtain ⟨k0,k1,k2⟩:=box25 (HB.out.aft hd.aft);have hlt:=(HB.out.aft hd.aft).lt;clear hd) | (go_at_call_of 85 (Value.slice A' F.length c');refine (H2.out _ (H0.out.trans HD.out.aft)).mono ?_;rintro e w' ⟨rfl,u,rfl⟩))
     go_ret2;exact ⟨rfl,(H0.out.trans HD.out.aft).then_lat _⟩
    ·rw [h4] at H2 h3;rw [Bool.true_and] at h3;rw [h3] at H3;clear h3 h4;go_enter Tryz.func43,Tryz.ntmps43;go_wp2_with (first | (go_at_call 68;refine (H1.out _ H0.out).mono ?_;rintro e w1 ⟨d,rfl,hd⟩;have HD:=Lib.hid hd;obtain ⟨k0,k1,k2⟩:=box25 (HB.out.aft hd.aft);have hlt:=(HB.out.aft hd.aft).lt;clear hd) | (go_at_call_of 85 (Value.slice A' F.length c');refine (H2.out _ (H0.out.trans HD.out.aft)).mono ?_;rintro e w' ⟨rfl,u,rfl⟩) | (go_at_call_of 85 (Value.slice A'' K.length c'');refine (H3.out _ ((H0.out.trans HD.out.aft).then_lat _)).mono ?_;rintro e w' ⟨rfl,u2,rfl⟩))
     go_ret2;exact ⟨rfl,((H0.out.trans HD.out.aft).then_lat _).then_lat _⟩
 ·rw [if_neg h1] at he ⊢;have H1:Hid (∀ W,Aft w W -> Calls Tryz.prog 68 #[(.agg #[.int .i64 C.claims,.slice a1 C.strikes.length c1,.slice a2 C.surveys.length c2]),.slice A R.length c] W fun e w'=>e = .returned (.tuple #[.pointer none,.int .i64 (openE C R)]) /\ Aft W w'):=Lib.hid fun W h=>opened_bad C a1 a2 c1 c2 R A c W (hC.aft h) (hA.aft h) he
  have t1:(openE C R != 0) = true:=by simpa using he
  clear hC hA he h1 hF hK;generalize openE C R = E at *;go_enter Tryz.func43,Tryz.ntmps43;go_wp2_with (go_at_call 68;refine (H1.out _ H0.out).mono ?_;rintro e w' ⟨rfl,u,rfl⟩)
  go_ret2;exact ⟨rfl,H0.out.then_lat _⟩
theorem ints_mem {w:World} {A:Option Addr} {l:List Int} (h:Ints w A l) (hl:0 < l.length):∃ b o,A = some ⟨b,o,none⟩ /\ ∀ j v,(l.map (Value.int .i64))[j]? = some v -> w.cell? ((⟨b,o,none⟩:Addr).add j) = some v:=by
 obtain ⟨b,o,e,_,_⟩:=h.at hl;exact ⟨b,o,e,ints_src h _ e⟩
set_option maxRecDepth 100000 in
set_option maxHeartbeats 2000000 in
theorem holds_good (C:CaseL) (a1 a2:Option Addr) (c1 c2:Nat) (R F K:List Int) (A A' A'':Option Addr) (c c' c'':Nat) (w:World) (hC:CRep w C a1 a2) (hA:Ints w A R) (hF:Ints w A' F) (hK:Ints w A'' K) (he:holdsE C R F K = 0) (N:Nat) (hN:C.claims = N) :
  Calls Tryz.prog 43 #[(.agg #[.int .i64 C.claims,.slice a1 C.strikes.length c1,.slice a2 C.surveys.length c2]),.slice A R.length c,.slice A' F.length c',.slice A'' K.length c''] w (HoldsR ((List.range N).all fun n=>heldB C.strikes noS (refL R) (overF F (begF (refL R))) (overF K fun _=>0) (n:Nat)) 0 w):=by
 have H0:=Lib.hid (Aft.alloc w (.cells #[.int .i64 C.claims,.slice a1 C.strikes.length c1,.slice a2 C.surveys.length c2] 25));unfold holdsE at he
 have h1:openE C R = 0:=by
  by_cases h1:openE C R = 0
  ·exact h1
  ·rw [if_neg h1] at he;exact he
 rw [if_pos h1] at he
 have hf:(F.length:Int) = C.claims:=by
  by_cases h:(F.length:Int) = C.claims
  ·exact h
  ·rw [if_pos (.inl h)] at he;cases he
 have hk:(K.length:Int) = C.claims:=by
  by_cases h:(K.length:Int) = C.claims
  ·exact h
  ·rw [if_pos (.inr h)] at he;cases he
 rw [if_neg (fun h=>h.elim (fun h=>h hf) (fun h=>h hk))] at he
 have h3:(F.all (fun n=>fromB n 0 2) && K.all fun n=>fromB n 0 14) = true:=by
  cases h:(F.all (fun n=>fromB n 0 2) && K.all fun n=>fromB n 0 14)
  ·rw [h] at he;cases he
  ·rfl
 rw [Bool.and_eq_true] at h3;obtain ⟨h3,h4⟩:=h3;have hok:=(openE_facts h1).1;have hfN:F.length = N:=by omega
 have hkN:K.length = N:=by omega
 have hN1:1 <= N:=by have:=hok.n1;omega
 have hN14:N <= 14:=by have:=hok.n2;omega
 have HF0:=Lib.hid (show ∀ x ∈ F,0 <= x from fun x hx=>(fromB_iff.1 (List.all_eq_true.1 h3 x hx)).1);have HK0:=Lib.hid (show ∀ x ∈ K,0 <= x /\ x <= 14 from fun x hx=>fromB_iff.1 (List.all_eq_true.1 h4 x hx))
 have HRK:Hid (∀ x,overF K (fun _=>0) x <= 1000):=Lib.hid fun x=>by
  unfold overF;split
  ·rename_i hx
   rw [List.getD_eq_getElem?_getD,List.getElem?_eq_getElem (by omega),Option.getD_some];have:=HK0.out _ (List.getElem_mem (h:=(by omega:x.toNat < K.length)));omega
  ·exact Nat.zero_le _
 have HS:=Lib.hid (show ∀ s ∈ C.strikes,0 <= s.1 /\ s.1 < 14 from fun s hs=>by have:=(hok.ins s hs).1;have:=hok.n2;omega);have H1:Hid (∀ W,Aft w W -> Calls Tryz.prog 68 #[(.agg #[.int .i64 C.claims,.slice a1 C.strikes.length c1,.slice a2 C.surveys.length c2]),.slice A R.length c] W (Opened C a1 a2 c1 c2 R W)):=Lib.hid fun W h=>opened_good C a1 a2 c1 c2 R A c W (hC.aft h) (hA.aft h) h1
 have H2:Hid (∀ W,Aft w W -> Calls Tryz.prog 85 #[.slice A' F.length c',.func (.func 91) #[] #[]] W fun e w'=>e = .returned (.bool (F.all fun n=>fromB n 0 2)) /\ Aft W w'):=Lib.hid fun W h=>none_found A' F c' W (hF.aft h)
 have H3:Hid (∀ W,Aft w W -> Calls Tryz.prog 85 #[.slice A'' K.length c'',.func (.func 92) #[] #[]] W fun e w'=>e = .returned (.bool (K.all fun n=>fromB n 0 14)) /\ Aft W w'):=Lib.hid fun W h=>none_rank A'' K c'' W (hK.aft h)
 rw [h3] at H2;rw [h4] at H3;have HB:=Lib.hid (Blk.new w 25 #[.int .i64 C.claims,.slice a1 C.strikes.length c1,.slice a2 C.surveys.length c2]);obtain ⟨bF,oF,rfl,-⟩:=ints_mem hF (by omega);obtain ⟨bK,oK,rfl,-⟩:=ints_mem hK (by omega);have HFI:=Lib.hid hF;have HKI:=Lib.hid hK;have HN:=Lib.hid hN;have t1:((N:Int) != (N:Int)) = false:=by simp
 have HFN:=Lib.hid hfN;have HKN:=Lib.hid hkN;rw [hfN] at H2 ⊢;rw [hkN] at H3 ⊢;clear hC hA hF hK he h1 hf hk h3 h4 hok hN hfN hkN;go_enter Tryz.func43,Tryz.ntmps43;go_upto_region 8 with (first | (go_at_call 68;refine (H1.out _ H0.out).mono ?_;rintro e w1 ⟨d,rfl,hd⟩;have HD:=Lib.hid hd;obtain ⟨k0,k1,k2⟩:=box25 (HB.out.aft hd.aft);rw [HN.out] at k0;have hlt:=(HB.out.aft hd.aft).lt;clear hd) | (go_at_call_of 85 (Value.slice (some { block:=bF,off:=oF }) N c');refine (H2.out _ (H0.out.trans HD.out.aft)).mono ?_;rintro e w2 ⟨rfl,ha2⟩;have HA2:=Lib.hid ha2;clear ha2) | (go_at_call_of 85 (Value.slice (some { block:=bK,off:=oK }) N c'');refine (H3.out _ ((H0.out.trans HD.out.aft).trans HA2.out)).mono ?_;rintro e w3 ⟨rfl,ha3⟩;have HA3:=Lib.hid (HA2.out.trans ha3);clear ha3))
 have HA0:Hid (Aft w w3):=Lib.hid ((H0.out.trans HD.out.aft).trans HA3.out);have hdw:w.heap.size < d:=by have:=HD.out.base;simp at this;omega
 have HB1:=Lib.hid ((HB.out.aft HD.out.aft).aft HA3.out);have HD3:=Lib.hid (HD.out.later HA3.out);generalize (w.alloc (.cells #[.int .i64 C.claims,.slice a1 C.strikes.length c1,.slice a2 C.surveys.length c2] 25)) = W0 at *;have i3:(Tryz.prog.info? 3).map (·.size) = some 1:=by kernel_rfl
 have I3:=Lib.hid i3;have HSF:=Lib.hid (ints_src (HFI.out.aft HA0.out) _ rfl);have HFML:Hid ((F.map (Value.int .i64)).length = N):=Lib.hid (by rw [List.length_map,HFN.out]);have HKML:Hid ((K.map (Value.int .i64)).length = N):=Lib.hid (by rw [List.length_map,HKN.out]);have HMN:Hid (N = Nat.min N 14):=Lib.hid (Nat.min_eq_left hN14).symm;clear k0 k1 k2 hlt i3
 obtain ⟨w4,hcp,hd4,hg4⟩:∃ w4,(Builtin.copy_ #[33,33] 3 #[.slice (some ⟨d,31,none⟩) 14 14,.slice (some ⟨bF,oF,none⟩) N c']).run Tryz.prog w3 = .ok (.int .i64 N) w4 /\ DeskAt W0 w4 d C a1 a2 c1 c2 (refL R) noS (overF F (begF (refL R))) (fun _=>0) /\ w3.grownBy w4 (some d):=by
  have h:=run_copy_row (P:=Tryz.prog) w3 33 33 3 3 d 31 14 14 ⟨bF,oF,none⟩ N c' _ 94 (F.map (Value.int .i64)) Tryz.underlying33 I3.out HD3.out.blk (HFML.out.trans HMN.out) HSF.out (by rw [HFML.out,List.size_toArray,deskL_len];omega) (ints_one F);rw [HFML.out] at h;refine ⟨_,h,HD3.out.over ?_,only_setRow _ _ _⟩;rw [List.toList_toArray,<- HFN.out,List.append_assoc];exact desk_over_found C a1 a2 c1 c2 _ _ _ _ F (by rw [HFN.out];exact hN14) HF0.out
 have HD4:=Lib.hid hd4;have HGw4:=Lib.hid hg4;clear hd4 hg4;go_upto_region 9 with (fail)
 clear hcp;have HA4:Hid (Aft w w4):=Lib.hid (HA0.out.grown HGw4.out (fun k e=>by cases e;omega));have HSK:=Lib.hid (ints_src (HKI.out.aft HA4.out) _ rfl)
 obtain ⟨w5,hcp,hd4,hg4⟩:∃ w5,(Builtin.copy_ #[33,33] 3 #[.slice (some ⟨d,45,none⟩) 14 14,.slice (some ⟨bK,oK,none⟩) N c'']).run Tryz.prog w4 = .ok (.int .i64 N) w5 /\ DeskAt W0 w5 d C a1 a2 c1 c2 (refL R) noS (overF F (begF (refL R))) (overF K fun _=>0) /\ w4.grownBy w5 (some d):=by
  have h:=run_copy_row (P:=Tryz.prog) w4 33 33 3 3 d 45 14 14 ⟨bK,oK,none⟩ N c'' _ 94 (K.map (Value.int .i64)) Tryz.underlying33 I3.out HD4.out.blk (HKML.out.trans HMN.out) HSK.out (by rw [HKML.out,List.size_toArray,deskL_len];omega) (ints_one K);rw [HKML.out] at h;refine ⟨_,h,HD4.out.over ?_,only_setRow _ _ _⟩;rw [List.toList_toArray,<- HKN.out,List.append_assoc];exact desk_over_rank C a1 a2 c1 c2 _ _ _ _ K (by rw [HKN.out];exact hN14) (fun x hx=>(HK0.out x hx).1)
 have HD5:=Lib.hid hd4;have HGw5:=Lib.hid hg4;clear hd4 hg4;go_upto_region 10 with (fail)
 clear hcp;have HA5:Hid (Aft w w5):=Lib.hid (HA4.out.grown HGw5.out (fun k e=>by cases e;omega))
 have z0:w5.cell? ⟨w.heap.size,0,none⟩ = some (.int .i64 N):=by
  rw [<- HN.out];exact ((HB1.out.grown HGw4.out (fun e=>by cases e;omega)).grown HGw5.out (fun e=>by cases e;omega)).cell 0
 have zl:w.heap.size < w5.heap.size:=by have:=HB1.out.lt;have:=HGw4.out.size;have:=HGw5.out.size;omega
 obtain ⟨X,hX⟩:∃ X:Nat -> Bool,X = fun n=>heldB C.strikes noS (refL R) (overF F (begF (refL R))) (overF K fun _=>0) (n:Nat):=⟨_,rfl⟩
 have HX:=Lib.hid hX;clear hX;go_upto_block 1 with (fail)
 refine wp_block ?_;go_loopw [59] (fun i wr=>∃ k:Nat,i = .int .i64 k /\ k <= N /\ (∀ j,j < k -> X j = true) /\ Aft w5 wr) (fun i _=>N - (intOf i).toNat)
 case atStart=>exact ⟨0,rfl,by omega,fun j hj=>absurd hj (Nat.not_lt_zero _),Aft.refl _⟩
 case round =>
  obtain ⟨k,rfl,hk,hall,har⟩:=hrel;have HAL:=Lib.hid hall;have HAR:=Lib.hid har;clear hall har;by_cases hkN:k < N
  ·have t2:decide (k < N) = true:=by simpa using hkN
   have HE:=Lib.hid (held_any W0 wr d C a1 a2 c1 c2 (refL R) noS (overF F (begF (refL R))) (overF K fun _=>0) (HD5.out.later HAR.out) k (by omega) HS.out HRK.out);cases hx:X k
   ·have HXK:=Lib.hid hx;have hx2:heldB C.strikes noS (refL R) (overF F (begF (refL R))) (overF K fun _=>0) (k:Nat) = false:=by rw [HX.out] at hx;exact hx
    rw [hx2] at HE;clear hx hx2;go_wp2_with (go_at_call 93;refine HE.out.mono ?_;rintro e w' ⟨rfl,u,rfl⟩)
    go_ret2;refine ⟨?_,(HA5.out.trans HAR.out).then_lat _⟩
    have:((List.range N).all fun n=>heldB C.strikes noS (refL R) (overF F (begF (refL R))) (overF K fun _=>0) (n:Nat)) = false:=by
     rw [<- HX.out,Bool.eq_false_iff];intro h;have:=List.all_eq_true.1 h k (List.mem_range.2 hkN);rw [HXK.out] at this;cases this
    rw [this];rfl
   ·have HXK:=Lib.hid hx;have hx2:heldB C.strikes noS (refL R) (overF F (begF (refL R))) (overF K fun _=>0) (k:Nat) = true:=by rw [HX.out] at hx;exact hx
    rw [hx2] at HE;clear hx hx2;go_wp2_with (go_at_call 93;refine HE.out.mono ?_;rintro e w' ⟨rfl,u,rfl⟩)
    refine ⟨⟨k + 1,by go_num,by omega,fun j hj=>?_,HAR.out.then_lat _⟩,by simp [intOf];omega⟩;by_cases e:j < k
    ·exact HAL.out j e
    ·obtain rfl:k = j:=by omega
     exact HXK.out
  ·have t2:decide (k < N) = false:=by simpa using hkN
   obtain rfl:N = k:=by omega
   clear hkN;go_wp2_with fail
   go_ret2;refine ⟨?_,HA5.out.trans HAR.out⟩
   have:((List.range N).all fun n=>heldB C.strikes noS (refL R) (overF F (begF (refL R))) (overF K fun _=>0) (n:Nat)) = true:=by
    rw [<- HX.out];exact List.all_eq_true.2 fun j hj=>HAL.out j (List.mem_range.1 hj)
   rw [this];rfl
end Go.Proofs
end
section
/- Walks: stands. -/
namespace Go
theorem wpList_load_midG {P:Program} {ops:Array Oper} {rest:List Oper} {op:Oper} {a:Act} {w:World} {Q:Exit -> Act -> World -> Prop} (hw:Region.wanted op (yielded ops a.tmps) = true) (ty:TypeId) (x:Operand) (ho:op.op = .load ty x)
  (b o:Nat) (hx:a.eval x = .pointer (some ⟨b,o,none⟩)) (cs:List Value) (d:TypeDesc) (hc:w.rangeAt b o cs)
  (hu:P.underlying ty = some d) (hd:d.isRow = true) (hi:(P.info? ty).map (·.size) = some cs.length)
  (h:wpList P ops Q rest (a.put op.dst (.agg cs.toArray)) w):wpList P ops Q (op :: rest) a w:=by
 unfold wpList;rw [if_pos hw];exact .inl (wp_load_mid ty x ho b o hx cs d hc hu hd hi h)
theorem leaves_marks {F:Fence} {n:Nat} {P:Program} {fn:Func} {tmps:Array Value} {R:Ending -> World -> Prop} (base:World):∀ (Ds:List Nat) (w:World),Aft base w -> (∀ D ∈ Ds,base.heap.size <= D /\ w.heap[D]? = some (.deferred (some []))) -> Ds.Nodup ->
  (∀ w',Aft base w' -> (∀ k,k ∉ Ds -> w'.heap[k]? = w.heap[k]?) -> ∃ v,(results fn tmps).run P w' = .ok v w' /\ R (.returned v) w') -> LeavesInM F n P fn tmps R (Ds.map fun D=>{ target:=.collected D,args:=#[] }) .returning w
 | [],w,ha,_,_,h=>h w ha (fun _ _=>rfl)
 | D :: Ds,w,ha,hD,hn,h=>by
  have hd:=hD D List.mem_cons_self;refine ⟨by simp,.inl ⟨D,_,rfl,run_takeDeferred hd.2,?_⟩⟩;refine leaves_marks base Ds (w.putObj D (.deferred none)) (ha.grown (grownBy_putObj' _ _ _) (fun k e=>by cases e;exact hd.1)) (fun D' hD'=>?_) (List.nodup_cons.1 hn).2 fun w' ha' hw'=>h w' ha' fun k hk=>?_
  ·have h1:=hD D' (List.mem_cons_of_mem _ hD');exact ⟨h1.1,(World.putObj_heap_other (fun e=>by subst e;exact (List.nodup_cons.1 hn).1 hD')).trans h1.2⟩
  ·rw [hw' k (fun h=>hk (List.mem_cons_of_mem _ h))];exact World.putObj_heap_other (fun e=>hk (by rw [e];exact List.mem_cons_self))
end Go
namespace Go.Proofs
open Go.RowKit
open Court (refL begF noS struckB nextR)
attribute [local go_sem] Oper.semAt_some
def defB (S:List (Int × Int)) (sure ref L:Int -> Bool) (n:Int):Bool:=!L n || (!ref n && (!(strikers S sure n).any L && (strikers S sure n).all fun x=>ref x || (strikers S sure x).any L))
def standsB (S:List (Int × Int)) (sure ref L:Int -> Bool) (N:Nat):Bool:=(List.range N).all fun (n:Nat)=>defB S sure ref L n
structure StI (S0:List (Int × Int)) (sure ref L:Int -> Bool) (w:World) (S d N:Nat) (k:Nat) (Ds:List Nat) (W:World):Prop where
 le:k <= N
 fr:Fr w (S + 1 + 1 + 1) [(S,95,#[.pointer (some ⟨d,0,none⟩)]),(S + 1,87,mk L),(S + 1 + 1,4,#[.bool false])] W
 marks:∀ D ∈ Ds,S + 1 + 1 + 1 <= D /\ W.heap[D]? = some (.deferred (some []))
 nodup:Ds.Nodup
 ok:∀ j:Nat,j < k -> defB S0 sure ref L j = true
theorem StI.later {S0:List (Int × Int)} {sure ref L:Int -> Bool} {w W W':World} {S d N k:Nat} {Ds:List Nat} (h:StI S0 sure ref L w S d N k Ds W) (ha:Aft W W'):StI S0 sure ref L w S d N k Ds W' :=
 ⟨h.le,h.fr.later ha,fun D hD=>⟨(h.marks D hD).1,(ha.below.block D (Array.getElem?_eq_some_iff.1 (h.marks D hD).2).1).trans (h.marks D hD).2⟩,h.nodup,h.ok⟩
theorem StI.next {S0:List (Int × Int)} {sure ref L:Int -> Bool} {w W:World} {S d N k:Nat} {Ds:List Nat} (h:StI S0 sure ref L w S d N k Ds W) (hk:k < N) (ho:defB S0 sure ref L k = true):StI S0 sure ref L w S d N (k + 1) Ds W :=
 ⟨by omega,h.fr,h.marks,h.nodup,fun j hj=>by
  by_cases e:j < k
  ·exact h.ok j e
  ·obtain rfl:j = k:=by omega
   exact ho⟩
theorem Fr.cut {w W:World} {B B':Nat} {bs bs':List (Nat × TypeId × Array Value)} (h:Fr w B bs W) (hB:B' <= B) (hw:w.heap.size <= B') (hs:∀ x ∈ bs',x ∈ bs /\ x.1 < B'):Fr w B' bs' W :=
 ⟨h.aft,fun x hx=>⟨(hs x hx).2,(h.blks x (hs x hx).1).2.1,(h.blks x (hs x hx).1).2.2⟩,Nat.le_trans hB h.size,hw⟩
theorem Fr.up {w W:World} {B B':Nat} {bs:List (Nat × TypeId × Array Value)} (h:Fr w B bs W) (hB:B <= B') (hs:B' <= W.heap.size):Fr w B' bs W :=
 ⟨h.aft,fun x hx=>⟨Nat.lt_of_lt_of_le (h.blks x hx).1 hB,(h.blks x hx).2⟩,hs,Nat.le_trans h.ge hB⟩
structure FrM (w:World) (S B:Nat) (bs:List (Nat × TypeId × Array Value)) (Ds:List Nat) (W:World):Prop where
 fr:Fr w B bs W
 marks:∀ D ∈ Ds,S <= D /\ D < B /\ W.heap[D]? = some (.deferred (some []))
theorem FrM.later {w W W':World} {S B:Nat} {bs:List (Nat × TypeId × Array Value)} {Ds:List Nat} (h:FrM w S B bs Ds W) (ha:Aft W W'):FrM w S B bs Ds W' :=
 ⟨h.fr.later ha,fun D hD=>let ⟨h1,h2,h3⟩:=h.marks D hD;⟨h1,h2,(ha.below.block D (Array.getElem?_eq_some_iff.1 h3).1).trans h3⟩⟩
theorem FrM.grown {w W W':World} {S B:Nat} {bs:List (Nat × TypeId × Array Value)} {Ds:List Nat} (h:FrM w S B bs Ds W) {r:Nat} (hg:W.grownBy W' (some r)) (hr:B <= r):FrM w S B bs Ds W' :=
 ⟨h.fr.grown hg hr,fun D hD=>let ⟨h1,h2,h3⟩:=h.marks D hD;⟨h1,h2,(hg.block D (Array.getElem?_eq_some_iff.1 h3).1 (fun e=>by cases e;omega)).trans h3⟩⟩
theorem FrM.three {β:Type} {w:World} {S B:Nat} {bs:β -> List (Nat × TypeId × Array Value)} {Ds:List Nat} {p:β -> Prop}:Three B (fun s W=>FrM w S B (bs s) Ds W /\ p s):=fun _ _ _ _ h hg h1 _=>⟨h.1.grown hg h1,h.2⟩
abbrev mark (D:Nat):Deferred:={ target:=.collected D,args:=#[] }
set_option maxRecDepth 100000 in
set_option maxHeartbeats 4000000 in
theorem stands_any (w0 w:World) (d:Nat) (C:CaseL) (a1 a2:Option Addr) (c1 c2:Nat) (ref sure:Int -> Bool) (f r:Int -> Nat) (hD:DeskAt w0 w d C a1 a2 c1 c2 ref sure f r) (L:Int -> Bool) (N:Nat) (hN:C.claims = N) (hN14:N <= 14) (hS:∀ s ∈ C.strikes,0 <= s.1 /\ s.1 < 14) :
  Calls Tryz.prog 70 #[.pointer (some ⟨d,0,none⟩),.agg (mk L)] w fun e w'=>e = .returned (.bool (standsB C.strikes sure ref L N)) /\ Aft w w':=by
 have HL:Hid (∀ (n:Nat) (k:Nat) (x:Int),(strikers C.strikes sure n)[k]? = some x -> 0 <= x /\ x < 14):=Lib.hid fun n k x h=>by
  obtain ⟨s,hs,rfl⟩:=strikers_mem (List.mem_of_getElem? h);exact hS s hs
 have HD:=Lib.hid hD;have HK:Hid (∀ W (n:Nat),n < 14 -> Aft w W -> Calls Tryz.prog 102 #[.pointer (some ⟨d,0,none⟩),.agg (mk L),.int .i64 n] W fun e w'=>e = .returned (.bool ((strikers C.strikes sure n).any L)) /\ Aft W w'):=Lib.hid fun W n hn h=>strikes_any w0 W d C a1 a2 c1 c2 ref sure f r (hD.later h) L n hn hS
 have HN:=Lib.hid hN;have F0:=(((Fr.start w).alloc rfl 95 #[.pointer (some ⟨d,0,none⟩)]).alloc (by simp) 87 (mk L)).alloc (by simp) 4 #[.bool false];simp only [List.nil_append,List.cons_append] at F0;have HF0:=Lib.hid F0;obtain ⟨X,hX⟩:∃ X,standsB C.strikes sure ref L N = X:=⟨_,rfl⟩;rw [hX];have HX:=Lib.hid hX;have hlt:=hD.lt;clear hD hS hN F0 hX;refine (callsIn_wide (n:=5)).1 ?_;refine callsIn_of_wp_marks Tryz.func70 rfl trivial ?_ rfl;simp only [Tryz.ntmps70,List.size_toArray,List.length_cons,List.length_nil,Nat.reduceAdd,Nat.reduceSub,Array.replicate_succ,Array.replicate_zero,List.push_toArray,List.append_toArray,List.nil_append,List.cons_append];refine wpIn_wide.2 ?_;go_upto_region 1 with (fail)
 have hz:(((w.alloc (.cells #[.pointer (some ⟨d,0,none⟩)] 95)).alloc (.cells (mk L) 87)).alloc (.cells #[.bool false] 4)).heap.size = w.heap.size + 1 + 1 + 1:=by simp
 generalize ((w.alloc (.cells #[.pointer (some ⟨d,0,none⟩)] 95)).alloc (.cells (mk L) 87)).alloc (.cells #[.bool false] 4) = W3 at *;have hww:=HF0.out.aft;obtain ⟨S,hSS⟩:∃ S,w.heap.size = S:=⟨_,rfl⟩;rw [hSS] at HF0 hz hlt ⊢;have HI0:Hid (StI C.strikes sure ref L w S d N 0 [] W3):=Lib.hid ⟨by omega,HF0.out,(fun D hD=>by cases hD),List.nodup_nil,fun j hj=>absurd hj (Nat.not_lt_zero _)⟩;have k0:=(HD.out.later HF0.out.aft).k0;have k1:=(HD.out.later HF0.out.aft).lt;have k2:W3.cell? ⟨S,0,none⟩ = some (.pointer (some ⟨d,0,none⟩)):=(HF0.out.nth 0 rfl).cell 0;have k3:=(HF0.out.nth 0 rfl).lt;rw [HN.out] at k0;go_upto_block 0 with (fail)
 clear k0 k1 k2 k3 hww;have HEND:Hid (∀ (W:World) (v:Bool) (Ds':List Nat) (tm:Array Value),X = v -> tm.getD 4 undef = .pointer (some ⟨S + 1 + 1,0,none⟩) -> Aft w W -> Blk W (S + 1 + 1) 4 #[.bool v] -> (∀ D ∈ Ds',S + 1 + 1 + 1 <= D /\ W.heap[D]? = some (.deferred (some []))) -> Ds'.Nodup ->
   LeavesInM Fence.wide 5 Tryz.prog Tryz.f70 tm (fun e w'=>e = .returned (.bool X) /\ Aft w w') (Ds'.map mark) .returning W):=Lib.hid fun W v Ds' tm hv htm ha hb hD hn=>by
  refine leaves_marks w Ds' W ha (fun D h=>⟨by have:=(hD D h).1;omega,(hD D h).2⟩) hn fun w' ha' hk'=>⟨.bool v,?_,by rw [hv],ha'⟩
  have hb':Blk w' (S + 1 + 1) 4 #[.bool v]:=(hk' _ (fun h=>by have:=(hD _ h).1;omega)).trans hb;have y1:w'.cell? ⟨S + 1 + 1,0,none⟩ = some (.bool v):=hb'.cell 0;have htm':tm[4]?.getD undef = .pointer (some ⟨S + 1 + 1,0,none⟩):=by rw [<- htm];simp
  simp [results,Tryz.results70,go_sem,htm',y1]
 refine wp_block ?_;obtain ⟨J,hJ⟩:∃ J:Act -> World -> Prop,J = fun a W=>∃ (u5 u6 u13 u14 u15 u16 u17 u18 u19 u20 u21 u22 u23 u24 u25 u26 u27 u28 u29 u30 u31 u32 u33 u34 u35 u36 u37 u38 u39 u40 u41 u42 u43 u44 u45 u46 u47 u48 u49 i:Value) (k:Nat) (Ds:List Nat),a = { tmps:=#[.pointer (some ⟨d,0,none⟩),.agg (mk L),.pointer (some ⟨S,0,none⟩),.pointer (some ⟨S + 1,0,none⟩),.pointer (some ⟨S + 1 + 1,0,none⟩),u5,u6,.pointer (some ⟨d,0,none⟩),.pointer (some ⟨d,0,none⟩),.pointer (some ⟨d,0,none⟩),.pointer (some ⟨d,0,none⟩),.int .i64 N,i,u13,u14,u15,u16,u17,u18,u19,u20,u21,u22,u23,u24,u25,u26,u27,u28,u29,u30,u31,u32,u33,u34,u35,u36,u37,u38,u39,u40,u41,u42,u43,u44,u45,u46,u47,u48,u49],defers:=Ds.map mark } /\ i = .int .i64 k /\ StI C.strikes sure ref L w S d N k Ds W:=⟨_,rfl⟩
 obtain ⟨mu,hmu⟩:∃ mu:Act -> World -> Nat,mu = fun a _=>N - (intOf (a.tmps.getD 12 undef)).toNat:=⟨_,rfl⟩
 refine wp_loop J mu (by rw [hJ];exact ⟨_,_,_,_,_,_,_,_,_,_,_,_,_,_,_,_,_,_,_,_,_,_,_,_,_,_,_,_,_,_,_,_,_,_,_,_,_,_,_,_,0,[],rfl,rfl,HI0.out⟩) ?_;intro a wr hrel;rw [hJ] at hrel;have HJ:=Lib.hid hJ;have HMU:=Lib.hid hmu;clear hJ hmu;obtain ⟨u5,u6,u13,u14,u15,u16,u17,u18,u19,u20,u21,u22,u23,u24,u25,u26,u27,u28,u29,u30,u31,u32,u33,u34,u35,u36,u37,u38,u39,u40,u41,u42,u43,u44,u45,u46,u47,u48,u49,i,k,Ds,rfl,rfl,hi⟩:=hrel;have hk:=hi.le;have HI:=Lib.hid hi;have p0:wr.cell? ⟨S,0,none⟩ = some (.pointer (some ⟨d,0,none⟩)):=(hi.fr.nth 0 rfl).cell 0;have l0:=(hi.fr.nth 0 rfl).lt;have l1:=(hi.fr.nth 1 rfl).lt;have l2:=(hi.fr.nth 2 rfl).lt;have f2:=(hi.fr.nth 2 rfl).frozen 0;have p2:wr.cell? ⟨S + 1 + 1,0,none⟩ = some (.bool false):=(hi.fr.nth 2 rfl).cell 0
 have HNO:Hid (defB C.strikes sure ref L k = false -> k < N -> X = false):=Lib.hid fun h hk=>by
  rw [<- HX.out,Bool.eq_false_iff];intro h2;have:=List.all_eq_true.1 h2 k (List.mem_range.2 hk);rw [h] at this;cases this
 clear hi;by_cases hkN:k < N
 ·have t1:decide (k < N) = true:=by simpa using hkN
  have hk14:k < 14:=by omega
  have hDW:=HD.out.later HI.out.fr.aft;have q1:=((HI.out.fr.nth 1 rfl).cell k).trans (mk_get L hk14);have q2:=hDW.rf hk14;have q3:=hDW.lt;have hm:(0:Int) <= (k:Int) /\ (k:Int) < 14:=by omega
  clear hDW;cases hl:L k
  ·rw [hl] at q1;have HOK:Hid (defB C.strikes sure ref L k = true):=Lib.hid (by unfold defB;rw [hl];rfl);clear hl;go_wp2_with fail
   refine And.intro ?_ ?_
   ·rw [HJ.out];exact ⟨_,_,_,_,_,_,_,_,_,_,_,_,_,_,_,_,_,_,_,_,_,_,_,_,_,_,_,_,_,_,_,_,_,_,_,_,_,_,_,_,k + 1,Ds,rfl,by go_num,HI.out.next hkN HOK.out⟩
   ·rw [HMU.out];simp [intOf];omega
  ·rw [hl] at q1;have HLL:=Lib.hid hl;clear hl;cases hr:ref k
   ·rw [hr] at q2;have HRR:=Lib.hid hr;clear hr;have HKK:=Lib.hid (fun W (h:Aft wr W)=>HK.out W k hk14 (HI.out.fr.aft.trans h));have HR87:=Lib.hid (blk_range (HI.out.fr.nth 1 rfl));cases hs:(strikers C.strikes sure k).any L
    ·rw [hs] at HKK;have HSS:=Lib.hid hs;clear hs;go_upto_block 2 with (first | (refine wpList_load_midG (by rfl) 87 (.tmp 3) rfl (S + 1) 0 rfl (mkL L) _ HR87.out Tryz.underlying87 rfl (by rw [info87,mkL_len]) ?_) | (go_at_call 102;refine (HKK.out _ (Aft.refl _)).mono ?_;rintro e w4 ⟨rfl,ha4⟩;have HI4:=Lib.hid (HI.out.later ha4);have p4:w4.cell? ⟨S,0,none⟩ = some (.pointer (some ⟨d,0,none⟩)):=(HI4.out.fr.nth 0 rfl).cell 0;have l4:=(HI4.out.fr.nth 0 rfl).lt;clear ha4) | (go_at_call 103;refine (striking_any d k _).mono ?_;rintro e w' ⟨rfl,rfl⟩))
     have hz5:((w4.alloc (.cells #[.pointer (some ⟨d,0,none⟩)] 95)).alloc (.cells #[.int .i64 k] 3)).heap.size = w4.heap.size + 1 + 1:=by simp
     have hzB:S + 1 + 1 + 1 <= w4.heap.size:=HI4.out.fr.size;have F5:=((HI4.out.fr.up hzB (Nat.le_refl _)).alloc rfl 95 #[.pointer (some ⟨d,0,none⟩)]).alloc (by simp) 3 #[.int .i64 k];simp only [List.nil_append,List.cons_append] at F5
     have hM5:∀ D ∈ Ds,S + 1 + 1 + 1 <= D /\ D < w4.heap.size /\ ((w4.alloc (.cells #[.pointer (some ⟨d,0,none⟩)] 95)).alloc (.cells #[.int .i64 k] 3)).heap[D]? = some (.deferred (some [])):=fun D hD=>by
      have h1:=HI4.out.marks D hD;have h2:=(Array.getElem?_eq_some_iff.1 h1.2).1;exact ⟨h1.1,h2,(Below.heap_alloc _ _ D (by simp;omega)).trans ((Below.heap_alloc _ _ D h2).trans h1.2)⟩
     have HF5:=Lib.hid F5;have HM5:=Lib.hid hM5;clear F5 hM5 p4 l4 q1 q2 q3 p0 l0 l1 l2 f2 p2;obtain ⟨B,hBB⟩:∃ B,w4.heap.size = B:=⟨_,rfl⟩;rw [hBB] at HF5 HM5 hz5 hzB ⊢;generalize (w4.alloc (.cells #[.pointer (some ⟨d,0,none⟩)] 95)).alloc (.cells #[.int .i64 k] 3) = W5 at *;have HL0:=Lib.hid (show ∀ (j:Nat) (x:Int),j < 0 -> (strikers C.strikes sure k)[j]? = some x -> (fun x=>ref x || (strikers C.strikes sure x).any L) x = true from fun j x h=>absurd h (Nat.not_lt_zero _));refine wp_block ?_;refine (wpIn_wide (n:=5)).1 ?_;refine wpIn_striking2 (w0:=w0) (bd:=B) (bn:=B + 1) (d:=d) (C:=C) (a1:=a1) (a2:=a2) (c1:=c1) (c2:=c2) (ref:=ref) (sure:=sure) (m:=k) hk14 rfl
      (fun k' W=>FrM w (S + 1 + 1 + 1) (B + 1 + 1) [(S,95,#[.pointer (some ⟨d,0,none⟩)]),(S + 1,87,mk L),(S + 1 + 1,4,#[.bool false]),(B,95,#[.pointer (some ⟨d,0,none⟩)]),(B + 1,3,#[.int .i64 k])] Ds W /\ ∀ (j:Nat) (x:Int),j < k' -> (strikers C.strikes sure k)[j]? = some x -> (fun x=>ref x || (strikers C.strikes sure x).any L) x = true)
      (fun c W=>FrM w (S + 1 + 1 + 1) (B + 1 + 1) [(S + 1 + 1,4,#[.bool false])] Ds W /\ c = .ret /\ X = false)
      (by rw [hz5];exact FrM.three) (fun k W W' h ha=>⟨h.1.later ha,h.2⟩) (fun c=>by rw [hz5];exact FrM.three)
      (fun k W h=>⟨(h.1.fr.nth 3 rfl).cell 0,(h.1.fr.nth 4 rfl).cell 0,(h.1.fr.nth 3 rfl).lt,(h.1.fr.nth 4 rfl).lt,f,r,HD.out.later h.1.fr.aft⟩) ⟨⟨HF5.out,fun D hD=>⟨(HM5.out D hD).1,by have:=(HM5.out D hD).2.1;omega,(HM5.out D hD).2.2⟩⟩,HL0.out⟩
      rfl rfl rfl (by simp) ?body ?done ?stop
     case body =>
      intro l k' x W hx hI hsz;obtain ⟨x0,x1⟩:=HL.out k k' x hx;obtain ⟨m,rfl⟩:∃ m:Nat,x = m:=⟨x.toNat,by omega⟩;have hm14:m < 14:=by omega
      have hDW:=HD.out.later hI.1.fr.aft;have z2:=hDW.rf hm14;have z3:=hDW.lt;have z1:W.cell? ⟨S,0,none⟩ = some (.pointer (some ⟨d,0,none⟩)):=(hI.1.fr.nth 0 rfl).cell 0;have z0:=(hI.1.fr.nth 0 rfl).lt;have hmm:(0:Int) <= (m:Int) /\ (m:Int) < 14:=by omega
      have HI5:=Lib.hid hI;have HRW:=Lib.hid (blk_range (hI.1.fr.nth 1 rfl));have HKW:=Lib.hid (HK.out W m hm14 hI.1.fr.aft);clear hI hDW HKK HR87;simp only [List.setIfInBounds_toArray,List.set];refine wpIn_block ?_;refine wpIn_seq_k fun K1 H1=>?_
      have NO:Hid ((fun x=>ref x || (strikers C.strikes sure x).any L) (m:Int) = true -> ∀ W',Aft W W' -> post3 (B + 1 + 1) (fun k' W=>FrM w (S + 1 + 1 + 1) (B + 1 + 1) [(S,95,#[.pointer (some ⟨d,0,none⟩)]),(S + 1,87,mk L),(S + 1 + 1,4,#[.bool false]),(B,95,#[.pointer (some ⟨d,0,none⟩)]),(B + 1,3,#[.int .i64 k])] Ds W /\ ∀ (j:Nat) (x:Int),j < k' -> (strikers C.strikes sure k)[j]? = some x -> (fun x=>ref x || (strikers C.strikes sure x).any L) x = true) (fun c W=>FrM w (S + 1 + 1 + 1) (B + 1 + 1) [(S + 1 + 1,4,#[.bool false])] Ds W /\ c = .ret /\ X = false) (k' + 1) W .normal ⟨#[],[]⟩ W'):=Lib.hid fun hp W' ha=>by
       refine ⟨Kept3.of_aft ha (by omega),HI5.out.1.later ha,fun j x hj hjx=>?_⟩;by_cases e:j < k'
       ·exact HI5.out.2 j x e hjx
       ·obtain rfl:j = k':=by omega
        rw [hx] at hjx;cases hjx;exact hp
      cases hrm:ref m
      ·rw [hrm] at z2;have HRM:=Lib.hid hrm;clear hrm;cases hsm:(strikers C.strikes sure m).any L
       ·rw [hsm] at HKW;have HX2:Hid (X = false):=Lib.hid (HNO.out (by
         unfold defB;rw [HLL.out,HRR.out,HSS.out];simp only [Bool.not_true,Bool.not_false,Bool.false_or,Bool.true_and];rw [Bool.eq_false_iff];intro h;have h2:=List.all_eq_true.1 h _ (List.mem_of_getElem? hx);rw [HRM.out,hsm] at h2;cases h2) hkN)
        clear hsm;refine wpIn_region_of_list (by kernel_rfl) ?_;go_wp2_with (first | (refine wpList_load_midG (by rfl) 87 (.tmp 3) rfl (S + 1) 0 rfl (mkL L) _ HRW.out Tryz.underlying87 rfl (by rw [info87,mkL_len]) ?_) | (go_at_call 102;refine HKW.out.mono ?_;rintro e w6 ⟨rfl,ha6⟩;have HI6:=Lib.hid (HI5.out.1.later ha6);have HA6:=Lib.hid ha6;clear ha6))
        change K1 _ _;refine H1 _ _ ?_;clear H1;refine wpIn_cond_true (by simp [Act.eval]) ?_;refine wpIn_seq_k fun K2 H2=>?_
        refine wpIn_region_of_list (by kernel_rfl) ?_;have y1:w6.cell? ⟨S + 1 + 1,0,none⟩ = some (.bool false):=(HI6.out.fr.nth 2 rfl).cell 0;have y2:=(HI6.out.fr.nth 2 rfl).lt;have y3:=(HI6.out.fr.nth 2 rfl).frozen 0;go_wp2_with fail
        change K2 _ _;refine H2 _ _ ?_;clear H2;refine wpIn_ret ?_;refine ⟨(Kept3.of_aft HA6.out (by omega)).setCell (p:=⟨S + 1 + 1,0,none⟩) (by left;show S + 1 + 1 < W5.heap.size;omega) _,⟨HI6.out.fr.store (g:=S + 1 + 1) (t:=4) (cs:=#[.bool false]) (by simp) 0 (.bool false) (by simp),fun D hD=>⟨(HI6.out.marks D hD).1,(HI6.out.marks D hD).2.1,(Below.heap_setCell w6 ⟨S + 1 + 1,0,none⟩ (.bool false) D (by have:=(HI6.out.marks D hD).1;show D ≠ S + 1 + 1;omega)).trans (HI6.out.marks D hD).2.2⟩⟩,rfl,HX2.out⟩
       ·rw [hsm] at HKW;have HSM:=Lib.hid hsm;clear hsm;refine wpIn_region_of_list (by kernel_rfl) ?_;go_wp2_with (first | (refine wpList_load_midG (by rfl) 87 (.tmp 3) rfl (S + 1) 0 rfl (mkL L) _ HRW.out Tryz.underlying87 rfl (by rw [info87,mkL_len]) ?_) | (go_at_call 102;refine HKW.out.mono ?_;rintro e w6 ⟨rfl,ha6⟩;have HA6:=Lib.hid ha6;clear ha6))
        change K1 _ _;refine H1 _ _ ?_;clear H1;refine wpIn_cond_false (by simp [Act.eval]) ?_;refine wpIn_skip ?_;rw [hz5];exact NO.out (by show (ref m || (strikers C.strikes sure m).any L) = true;rw [HSM.out,Bool.or_true]) _ HA6.out
      ·rw [hrm] at z2;have HRM:=Lib.hid hrm;clear hrm;refine wpIn_region_of_list (by kernel_rfl) ?_;go_wp2_with fail
       change K1 _ _;refine H1 _ _ ?_;clear H1;refine wpIn_cond_false (by simp [Act.eval]) ?_;refine wpIn_skip ?_;rw [hz5];exact NO.out (by show (ref m || (strikers C.strikes sure m).any L) = true;rw [HRM.out,Bool.true_or]) _ (Aft.refl _)
     case done =>
      intro D W hDD hI hd;have HI5:=Lib.hid hI;have HOK:Hid (defB C.strikes sure ref L k = true):=Lib.hid (by
       unfold defB;rw [HLL.out,HRR.out,HSS.out];simp only [Bool.not_true,Bool.not_false,Bool.false_or,Bool.true_and];refine List.all_eq_true.2 fun x hx=>?_
       obtain ⟨j,hj,rfl⟩:=List.getElem_of_mem hx;exact hI.2 j _ hj (List.getElem?_eq_getElem hj))
      have HD2:=Lib.hid hd;clear hI hd;go_wp2_with fail
      refine And.intro ?_ ?_
      ·rw [HJ.out];refine ⟨_,_,_,_,_,_,_,_,_,_,_,_,_,_,_,_,_,_,_,_,_,_,_,_,_,_,_,_,_,_,_,_,_,_,_,_,_,_,_,_,k + 1,D :: Ds,rfl,by go_num,by omega,(HI5.out.1.fr.sub (bs':=[(S,95,#[.pointer (some ⟨d,0,none⟩)]),(S + 1,87,mk L),(S + 1 + 1,4,#[.bool false])]) (by simp)).cut (by omega) (by omega) (by simp;omega),fun D' hD'=>?_,List.nodup_cons.2 ⟨fun h=>by have:=(HI5.out.1.marks D h).2.1;omega,HI4.out.nodup⟩,(HI4.out.next hkN HOK.out).ok⟩;rcases List.mem_cons.1 hD' with rfl | h
       ·exact ⟨by omega,HD2.out⟩
       ·exact ⟨(HI5.out.1.marks D' h).1,(HI5.out.1.marks D' h).2.2⟩
      ·rw [HMU.out];simp [intOf];omega
     case stop =>
      intro D c W hDD hI hd;obtain ⟨hF,rfl,hX2⟩:=hI;refine wpIn_ret ?_
      exact HEND.out _ false (D :: Ds) _ hX2 rfl hF.fr.aft (hF.fr.nth 0 rfl) (fun D' hD'=>by
       rcases List.mem_cons.1 hD' with rfl | h
       ·exact ⟨by omega,hd⟩
       ·exact ⟨(hF.marks D' h).1,(hF.marks D' h).2.2⟩) (List.nodup_cons.2 ⟨fun h=>by have:=(hF.marks D h).2.1;omega,HI4.out.nodup⟩)
    ·rw [hs] at HKK;have HX2:Hid (X = false):=Lib.hid (HNO.out (by unfold defB;rw [HLL.out,HRR.out,hs];rfl) hkN);clear hs;go_wp2_with (first | (refine wpList_load_midG (by rfl) 87 (.tmp 3) rfl (S + 1) 0 rfl (mkL L) _ HR87.out Tryz.underlying87 rfl (by rw [info87,mkL_len]) ?_) | (go_at_call 102;refine (HKK.out _ (Aft.refl _)).mono ?_;rintro e w4 ⟨rfl,ha4⟩;have HI4:=Lib.hid (HI.out.later ha4);have l4:=(HI4.out.fr.nth 2 rfl).lt;have f4:=(HI4.out.fr.nth 2 rfl).frozen 0;have p4:w4.cell? ⟨S + 1 + 1,0,none⟩ = some (.bool false):=(HI4.out.fr.nth 2 rfl).cell 0;clear ha4))
     exact HEND.out _ false Ds _ HX2.out rfl (HI4.out.fr.aft.then_setCell (p:=⟨S + 1 + 1,0,none⟩) (by show w.heap.size <= S + 1 + 1;omega) _) ((HI4.out.fr.nth 2 rfl).store 0 _) (fun D hD=>⟨(HI4.out.marks D hD).1,(Below.heap_setCell w4 ⟨S + 1 + 1,0,none⟩ (.bool false) D (by have:=(HI4.out.marks D hD).1;show D ≠ S + 1 + 1;omega)).trans (HI4.out.marks D hD).2⟩) HI4.out.nodup
   ·rw [hr] at q2;have HX2:Hid (X = false):=Lib.hid (HNO.out (by unfold defB;rw [HLL.out,hr];rfl) hkN);clear hr;go_wp2_with fail
    exact HEND.out _ false Ds _ HX2.out rfl (HI.out.fr.aft.then_setCell (p:=⟨S + 1 + 1,0,none⟩) (by show w.heap.size <= S + 1 + 1;omega) _) ((HI.out.fr.nth 2 rfl).store 0 _) (fun D hD=>⟨(HI.out.marks D hD).1,(Below.heap_setCell wr ⟨S + 1 + 1,0,none⟩ (.bool false) D (by have:=(HI.out.marks D hD).1;show D ≠ S + 1 + 1;omega)).trans (HI.out.marks D hD).2⟩) HI.out.nodup
 ·have t1:decide (k < N) = false:=by simpa using hkN
  obtain rfl:N = k:=by omega
  have HX2:Hid (X = true):=Lib.hid (by rw [<- HX.out];exact List.all_eq_true.2 fun j hj=>HI.out.ok j (List.mem_range.1 hj));clear hkN;go_wp2_with fail
  exact HEND.out _ true Ds _ HX2.out rfl (HI.out.fr.aft.then_setCell (p:=⟨S + 1 + 1,0,none⟩) (by show w.heap.size <= S + 1 + 1;omega) _) ((HI.out.fr.nth 2 rfl).store 0 _) (fun D hD=>⟨(HI.out.marks D hD).1,(Below.heap_setCell wr ⟨S + 1 + 1,0,none⟩ (.bool true) D (by have:=(HI.out.marks D hD).1;show D ≠ S + 1 + 1;omega)).trans (HI.out.marks D hD).2⟩) HI.out.nodup
end Go.Proofs
end
