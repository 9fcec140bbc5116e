/- Own texts, merged: CtR CtS0 CtS1 CtS CtT. -/
import Derived.Test.YtbchfakfdikkjaaGreatS09
set_option linter.unusedSimpArgs false
set_option linter.unusedVariables false
set_option linter.unnecessarySimpa false
section
/- Walks: Stands. -/
namespace Go.Proofs
open Go.RowKit
open Court (refL begF noS struckB nextR)
def standsE (C:CaseL) (R L:List Int):Int:=if openE C R = 0 then listedE C.claims L else openE C R
def StandsR (C:CaseL) (R L:List Int) (w:World) (e:Ending) (w':World):Prop:=e = .returned (.tuple #[.bool (decide (standsE C R L = 0) && standsB C.strikes noS (refL R) (refL L) C.claims.toNat),.int .i64 (standsE C R L)]) /\ Aft w w'
set_option maxRecDepth 100000 in
set_option maxHeartbeats 2000000 in
theorem stands25_any (C:CaseL) (a1 a2:Option Addr) (c1 c2:Nat) (R L:List Int) (A A':Option Addr) (c c':Nat) (w:World) (hC:CRep w C a1 a2) (hA:Ints w A R) (hL:Ints w A' L) :
  Calls Tryz.prog 25 #[(.agg #[.int .i64 C.claims,.slice a1 C.strikes.length c1,.slice a2 C.surveys.length c2]),.slice A R.length c,.slice A' L.length c'] w (StandsR C R L w):=by
 have H0:=Lib.hid (Aft.alloc w (.cells #[.int .i64 C.claims,.slice a1 C.strikes.length c1,.slice a2 C.surveys.length c2] 25));have HB:=Lib.hid (Blk.new w 25 #[.int .i64 C.claims,.slice a1 C.strikes.length c1,.slice a2 C.surveys.length c2]);unfold StandsR standsE;by_cases h1:openE C R = 0
 ·rw [if_pos h1];have hok:=(openE_facts h1).1;have H1:Hid (∀ W,Aft w W -> Calls Tryz.prog 68 #[(.agg #[.int .i64 C.claims,.slice a1 C.strikes.length c1,.slice a2 C.surveys.length c2]),.slice A R.length c] W (Opened C a1 a2 c1 c2 R W)):=Lib.hid fun W h=>opened_good C a1 a2 c1 c2 R A c W (hC.aft h) (hA.aft h) h1
  have H2:Hid (∀ W,Aft w W -> Calls Tryz.prog 69 #[(.agg #[.int .i64 C.claims,.slice a1 C.strikes.length c1,.slice a2 C.surveys.length c2]),.slice A' L.length c'] W fun e w'=>e = .returned (.int .i64 (listedE C.claims L)) /\ Aft W w'):=Lib.hid fun W h=>listed_any C.claims a1 a2 _ _ c1 c2 A' L c' W ⟨hok.n1,hok.n2⟩ (hL.aft h)
  by_cases h2:listedE C.claims L = 0
  ·have hr:=(listedE_ok h2).1;have H3:Hid (∀ W,Aft w W -> Calls Tryz.prog 71 #[.slice A' L.length c'] W (Marked L W)):=Lib.hid fun W h=>marked_any L A' c' W (hL.aft h) (fun n hn=>by have:=hr n hn;have:=hok.n2;omega)
   obtain ⟨N,hN⟩:∃ N:Nat,C.claims = N:=⟨C.claims.toNat,by have:=hok.n1;omega⟩;have hNt:C.claims.toNat = N:=by omega
   have H4:Hid (∀ W0 W d,DeskAt W0 W d C a1 a2 c1 c2 (refL R) noS (begF (refL R)) (fun _=>0) -> Calls Tryz.prog 70 #[.pointer (some ⟨d,0,none⟩),.agg (mk (refL L))] W fun e w'=>e = .returned (.bool (standsB C.strikes noS (refL R) (refL L) N)) /\ Aft W w'):=Lib.hid fun W0 W d hD=>stands_any W0 W d C a1 a2 c1 c2 (refL R) noS (begF (refL R)) (fun _=>0) hD (refL L) N hN (by have:=hok.n2;omega) (fun s hs=>by have:=(hok.ins s hs).1;have:=hok.n2;omega)
   rw [hNt,h2];rw [h2] at H2;simp only [decide_true,Bool.true_and];clear hC hA hL hok hr hN hNt h1 h2;generalize standsB C.strikes noS (refL R) (refL L) N = X at *;go_enter Tryz.func25,Tryz.ntmps25;go_wp2_with (first | (go_at_call 68;refine (H1.out _ H0.out).mono ?_;rintro e w1 ⟨d,rfl,hd⟩;have HD:=Lib.hid hd;obtain ⟨k0,k1,k2⟩:=box25 (HB.out.aft hd.aft);have hlt:=(HB.out.aft hd.aft).lt;clear hd) | (go_at_call 69;refine (H2.out _ (H0.out.trans HD.out.aft)).mono ?_;rintro e w2 ⟨rfl,ha2⟩;have HA2:=Lib.hid ha2;clear ha2) | (go_at_call 71;refine (H3.out _ ((H0.out.trans HD.out.aft).trans HA2.out)).mono ?_;rintro e w3 ⟨rfl,ha3⟩;have HA3:=Lib.hid ha3;clear ha3) | (go_at_call 70;refine (H4.out _ _ _ (HD.out.later (HA2.out.trans HA3.out))).mono ?_;rintro e w4 ⟨rfl,ha4⟩;have HA4:=Lib.hid ha4;clear ha4))
   go_ret2;exact ⟨rfl,(((H0.out.trans HD.out.aft).trans HA2.out).trans HA3.out).trans HA4.out⟩
  ·rw [decide_eq_false h2,Bool.false_and];have t1:(listedE C.claims L != 0) = true:=by simpa using h2
   clear hC hA hL hok h1 h2;generalize listedE C.claims L = E at *;go_enter Tryz.func25,Tryz.ntmps25;go_wp2_with (first | (go_at_call 68;refine (H1.out _ H0.out).mono ?_;rintro e w1 ⟨d,rfl,hd⟩;have HD:=Lib.hid hd;obtain ⟨k0,k1,k2⟩:=box25 (HB.out.aft hd.aft);have hlt:=(HB.out.aft hd.aft).lt;clear hd) | (go_at_call 69;refine (H2.out _ (H0.out.trans HD.out.aft)).mono ?_;rintro e w2 ⟨rfl,ha2⟩;have HA2:=Lib.hid ha2;clear ha2))
   go_ret2;exact ⟨rfl,(H0.out.trans HD.out.aft).trans HA2.out⟩
 ·rw [if_neg h1,decide_eq_false h1,Bool.false_and];have H1:Hid (∀ W,Aft w W -> Calls Tryz.prog 68 #[(.agg #[.int .i64 C.claims,.slice a1 C.strikes.length c1,.slice a2 C.surveys.length c2]),.slice A R.length c] W fun e w'=>e = .returned (.tuple #[.pointer none,.int .i64 (openE C R)]) /\ Aft W w'):=Lib.hid fun W h=>opened_bad C a1 a2 c1 c2 R A c W (hC.aft h) (hA.aft h) h1
  have t1:(openE C R != 0) = true:=by simpa using h1
  have t2:(openE C R == 0) = false:=by simpa using h1
  clear hC hA h1 hL;generalize openE C R = E at *;go_enter Tryz.func25,Tryz.ntmps25;go_wp2_with (go_at_call 68;refine (H1.out _ H0.out).mono ?_;rintro e w' ⟨rfl,u,rfl⟩)
  go_ret2;exact ⟨rfl,H0.out.then_lat _⟩
end Go.Proofs
end
section
/- Words: three operations of a region that draws its order lay a list and one number more: a clone,a slice of one,an append. -/
namespace Go.Proofs
open Go.RowKit
open Court (refL begF noS struckB nextR strikeL)
attribute [local go_sem] Oper.semAt_some
structure Tri (W0:World) (l:List Int) (n:Int) (iA iB iC sA sB sC:Nat) (done:Nat -> Bool) (a:Act) (W:World):Prop where
 aft:Aft W0 W
 rowA:done iA = true -> done iC = false -> W.ownsRow W0.heap.size 3 1 (a.eval (.tmp sA)) l.length (l.map (Value.int .i64))
 sliB:done iB = true -> done iC = false -> ∃ g,a.eval (.tmp sB) = .slice (some ⟨g,0,none⟩) 1 1 /\ g < W.heap.size /\ W.cell? ⟨g,0,none⟩ = some (.int .i64 n)
 rowC:done iC = true -> W.ownsRow W0.heap.size 3 1 (a.eval (.tmp sC)) (l ++ [n]).length ((l ++ [n]).map (Value.int .i64))
 abc:done iC = true -> done iA = true /\ done iB = true
section
variable {W0:World} {l:List Int} {n:Int} {iA iB iC sA sB sC:Nat} {done:Nat -> Bool} {a:Act} {W W':World}
theorem upd_ne {done:Nat -> Bool} {i j:Nat} (h:j ≠ i):Go.upd done i j = done j:=by simp [Go.upd,h]
theorem upd_same {done:Nat -> Bool} {i:Nat}:Go.upd done i i = true:=by simp [Go.upd]
theorem Tri.start:Tri W0 l n iA iB iC sA sB sC (fun _=>false) a W0.drew :=
 ⟨Aft.drew _,(fun h=>by cases h),(fun h=>by cases h),(fun h=>by cases h),(fun h=>by cases h)⟩
theorem eval_ne {a:Act} {dst:Option Tmp} {v:Value} {s:Nat} (h:dst ≠ some s):(a.put dst v).eval (.tmp s) = a.eval (.tmp s) :=
 Act.eval_put fun d hd e=>by cases e;exact h hd
theorem cell_aft {W W':World} {g i:Nat} {v:Value} (h:W.cell? ⟨g,i,none⟩ = some v) (hg:g < W.heap.size) (ha:Aft W W'):W'.cell? ⟨g,i,none⟩ = some v :=
 (World.cell?_of_block (a:=⟨g,i,none⟩) (ha.below.block g hg)).trans h
theorem Tri.keep (h:Tri W0 l n iA iB iC sA sB sC done a W) {i:Nat} {dst:Option Tmp} {v:Value} (ha:Aft W W') (hi:i ≠ iA /\ i ≠ iB /\ i ≠ iC) (hd:dst ≠ some sA /\ dst ≠ some sB /\ dst ≠ some sC):Tri W0 l n iA iB iC sA sB sC (Go.upd done i) (a.put dst v) W':=by
 obtain ⟨h1,h2,h3⟩:=hi;refine ⟨h.aft.trans ha,fun p q=>?_,fun p q=>?_,fun p=>?_,fun p=>?_⟩
 ·rw [upd_ne (Ne.symm h1)] at p;rw [upd_ne (Ne.symm h3)] at q;rw [eval_ne hd.1];exact own_aft (h.rowA p q) ha
 ·rw [upd_ne (Ne.symm h2)] at p;rw [upd_ne (Ne.symm h3)] at q;rw [eval_ne hd.2.1];obtain ⟨g,e1,e2,e3⟩:=h.sliB p q;exact ⟨g,e1,Nat.lt_of_lt_of_le e2 ha.size,cell_aft e3 e2 ha⟩
 ·rw [upd_ne (Ne.symm h3)] at p;rw [eval_ne hd.2.2];exact own_aft (h.rowC p) ha
 ·rw [upd_ne (Ne.symm h3)] at p;rw [upd_ne (Ne.symm h1),upd_ne (Ne.symm h2)];exact h.abc p
theorem Tri.stepA (h:Tri W0 l n iA iB iC sA sB sC done a W) (hA:done iA = false) {v:Value} (ha:Aft W W') (hr:W'.ownsRow W.heap.size 3 1 v l.length (l.map (Value.int .i64))) (hz:sA < a.tmps.size) (hi:iA ≠ iB /\ iA ≠ iC) (hs:sA ≠ sB):Tri W0 l n iA iB iC sA sB sC (Go.upd done iA) (a.put (some sA) v) W':=by
 have hC:done iC = false:=by
  cases e:done iC
  ·rfl
  ·rw [(h.abc e).1] at hA;cases hA
 refine ⟨h.aft.trans ha,fun p q=>?_,fun p q=>?_,fun p=>?_,fun p=>?_⟩
 ·rw [Act.eval_put_same _ _ _ hz];exact World.ownsRow.mono hr h.aft.size
 ·rw [upd_ne (Ne.symm hi.1)] at p;rw [eval_ne (fun e=>hs (by cases e;rfl))];obtain ⟨g,e1,e2,e3⟩:=h.sliB p hC;exact ⟨g,e1,Nat.lt_of_lt_of_le e2 ha.size,cell_aft e3 e2 ha⟩
 ·rw [upd_ne (Ne.symm hi.2),hC] at p;cases p
 ·rw [upd_ne (Ne.symm hi.2),hC] at p;cases p
theorem Tri.stepB (h:Tri W0 l n iA iB iC sA sB sC done a W) (hB:done iB = false) (hz:sB < a.tmps.size) (hi:iB ≠ iA /\ iB ≠ iC) (hs:sB ≠ sA):Tri W0 l n iA iB iC sA sB sC (Go.upd done iB) (a.put (some sB) (.slice (some ⟨W.heap.size,0,none⟩) 1 1)) (W.alloc (.cells #[.int .i64 n] 3)):=by
 have hC:done iC = false:=by
  cases e:done iC
  ·rfl
  ·rw [(h.abc e).2] at hB;cases hB
 refine ⟨h.aft.then_alloc _,fun p q=>?_,fun p q=>?_,fun p=>?_,fun p=>?_⟩
 ·rw [upd_ne (Ne.symm hi.1)] at p;rw [eval_ne (fun e=>hs (by cases e;rfl))];exact own_aft (h.rowA p hC) (Aft.alloc _ _)
 ·exact ⟨W.heap.size,Act.eval_put_same _ _ _ hz,by simp,cell_new1 _ _ _⟩
 ·rw [upd_ne (Ne.symm hi.2),hC] at p;cases p
 ·rw [upd_ne (Ne.symm hi.2),hC] at p;cases p
theorem Tri.stepC {o:Oper} {K:Act -> World -> Prop} {Q:Exit -> Act -> World -> Prop} (h:Tri W0 l n iA iB iC sA sB sC done a W) (hA:done iA = true) (hB:done iB = true) (hC:done iC = false) (hi:iA ≠ iC /\ iB ≠ iC) (ho:o.op = .call { callee:=.builtin .append,args:=#[.tmp sA,.tmp sB],argTypes:=#[33,33] }) (hd:o.dst = some sC) (hz:sC < a.tmps.size) (hl:l.length <= 1000000)
  (hn:∀ y w',Tri W0 l n iA iB iC sA sB sC (Go.upd done iC) (a.put o.dst y) w' -> K (a.put o.dst y) w'):Oper.wp Tryz.prog o a W K Q:=by
 obtain ⟨ht,⟨i,z,hi',hz',hsize,hby,hzs⟩,hsz⟩:=ty24;obtain ⟨g,e1,e2,e3⟩:=h.sliB hB hC
 obtain ⟨v',w',hr',h2,h3,_,h5⟩:=run_append_own_at (P:=Tryz.prog) W W0.heap.size 33 o.type 3 i z 1 8 ht hi' hz' hsize hby hzs hsz (a.eval (.tmp sA)) l.length (l.map (Value.int .i64)) (h.rowA hA hC) ⟨g,0,none⟩ 1 1 [.int .i64 n] rfl (fun j u hj=>by
   match j,hj with
   | 0,hj=>simp at hj;subst hj;rw [Addr.add_lit];simpa using e3) (one_int n) (by unfold maxLen;omega) (by omega) h.aft.size
 unfold Oper.wp execOp;simp only [ho,resolve,invoke,builtin,Sem.run_bind,Sem.run_pure,Result.andThen_ok,List.map_toArray,List.map_cons,List.map_nil,e1,hr',Oper.upon];refine hn v' w' ⟨h.aft.grown h3 (own_ge (h.rowA hA hC)),fun p q=>?_,fun p q=>?_,fun p=>?_,fun p=>?_⟩
 ·rw [upd_same] at q;cases q
 ·rw [upd_same] at q;cases q
 ·rw [hd,Act.eval_put_same _ _ _ hz];simpa using h2
 ·rw [upd_ne hi.1,upd_ne hi.2];exact ⟨hA,hB⟩
end
theorem list3 {α:Type} {us:List α} (h:us.length = 3):∃ x y z,us = [x,y,z]:=by
 match us,h with
 | [x,y,z],_=>exact ⟨x,y,z,rfl⟩
theorem strikers_any (S:List (Int × Int)) (L:Int -> Bool) (n:Int):(strikers S noS n).any L = strikeL S L n:=by
 unfold strikers strikeL;rw [List.any_map,List.any_filter]
 congr 1
 funext s
 simp [noS]
theorem refL_one (n:Int):refL [n] = fun x=>decide (x = n):=by
 funext x
 unfold refL;by_cases h:x = n <;> simp [h]
set_option maxRecDepth 100000 in
set_option maxHeartbeats 1000000 in
theorem full11_any (w0 w:World) (d:Nat) (C:CaseL) (a1 a2:Option Addr) (c1 c2:Nat) (ref:Int -> Bool) (f r:Int -> Nat) (hD:DeskAt w0 w d C a1 a2 c1 c2 ref noS f r) (b g n o:Nat) (hb:Blk w b 95 #[.pointer (some ⟨d,0,none⟩)]) (hg:Blk w g 3 #[.int .i64 n]) (hn:n < 14) (ho:o < 14) (hS:∀ s ∈ C.strikes,0 <= s.1 /\ s.1 < 14) :
  Calls Tryz.prog 106 #[.int .i64 o,.pointer (some ⟨b,0,none⟩),.pointer (some ⟨g,0,none⟩)] w fun e w'=>e = .returned (.bool (strikeL C.strikes (fun x=>decide (x = (n:Int))) o)) /\ Aft w w':=by
 have H1:Hid (∀ W,Aft w W -> Calls Tryz.prog 102 #[.pointer (some ⟨d,0,none⟩),.agg (mk (refL [(n:Int)])),.int .i64 o] W fun e w'=>e = .returned (.bool (strikeL C.strikes (fun x=>decide (x = (n:Int))) o)) /\ Aft W w'):=Lib.hid fun W h=>by
  rw [<- strikers_any,<- refL_one];exact strikes_any w0 W d C a1 a2 c1 c2 ref noS f r (hD.later h) (refL [(n:Int)]) o ho hS
 have H2:Hid (∀ W,Aft (w.drew.alloc (.cells #[.int .i64 n] 3)) W -> Calls Tryz.prog 71 #[.slice (some ⟨w.heap.size,0,none⟩) 1 1] W (Marked [(n:Int)] W)):=Lib.hid fun W h=>by
  have hi:Ints (w.drew.alloc (.cells #[.int .i64 n] 3)) (some ⟨w.heap.size,0,none⟩) [(n:Int)]:=⟨by simp,.inr ⟨w.heap.size,0,rfl,by simp,fun i hi=>by
   have:i = 0:=by simp at hi;omega
   subst this
   exact ⟨_,rfl,rfl,fun j hj=>by
    have:j = 0:=by simp at hj;omega
    subst this;exact cell_new1 w.drew _ _⟩⟩⟩
  exact marked_any [(n:Int)] _ 1 W (hi.aft h) (fun x hx=>by rw [List.mem_singleton] at hx;omega)
 have k0:∀ W,Aft w W -> W.cell? ⟨b,0,none⟩ = some (.pointer (some ⟨d,0,none⟩)):=fun W h=>(hb.aft h).cell 0
 have k1:∀ W,Aft w W -> W.cell? ⟨g,0,none⟩ = some (.int .i64 n):=fun W h=>(hg.aft h).cell 0
 have HK0:=Lib.hid k0;have HK1:=Lib.hid k1;clear hD hS hb hg k0 k1;go_enter Tryz.func106,Tryz.ntmps106;go_upto_region 1 with (fail)
 refine wp_region_valsT (by kernel_rfl) 5 11 rfl (by kernel_rfl) (by kernel_rfl) (by kernel_rfl) [.pointer (some ⟨d,0,none⟩),.int .i64 n,.slice (some ⟨w.heap.size,0,none⟩) 1 1,.agg (mk (refL [(n:Int)])),.int .i64 o] rfl (fun done W=>if done 2 = true then Aft (w.drew.alloc (.cells #[.int .i64 n] 3)) W else W = w.drew) (by simp) ?st1 ?fi1
 case st1 =>
  intro i o v ho hv
  match i,ho,hv with
  | 0,ho,hv =>
   cases ho;cases hv;refine .inl ⟨rfl,fun done a W hd hp hk hw K hK=>?_⟩;have e1:=hk.s 1;have hA:Aft w W:=by (split at hw;exact ((Aft.drew w).then_alloc _).trans hw;subst hw;exact Aft.drew w)
   have y0:=HK0.out W hA;exact op_val (by simp [go_sem,ev' e1,y0]) (hK _ (by rw [upd_ne (by decide)];exact hw))
  | 1,ho,hv =>
   cases ho;cases hv;refine .inl ⟨rfl,fun done a W hd hp hk hw K hK=>?_⟩;have e2:=hk.s 2;have hA:Aft w W:=by (split at hw;exact ((Aft.drew w).then_alloc _).trans hw;subst hw;exact Aft.drew w)
   have y0:=HK1.out W hA;exact op_val (by simp [go_sem,ev' e2,y0]) (hK _ (by rw [upd_ne (by decide)];exact hw))
  | 2,ho,hv =>
   cases ho;cases hv;refine .inl ⟨rfl,fun done a W hd hp hk hw K hK=>?_⟩;have e6:=hk.t 1;rw [hd] at hw;simp only [Bool.false_eq_true,if_false] at hw;subst hw;exact op_valW (w':=w.drew.alloc (.cells #[.int .i64 n] 3)) (by simp [go_sem,ev' e6]) (hK _ (by rw [upd_same];exact Aft.refl _))
  | 3,ho,hv =>
   cases ho;cases hv;refine .inl ⟨rfl,fun done a W hd hp hk hw K hK=>?_⟩;have e7:=hk.t 2;have h2:=hp 2 (by decide);rw [if_pos h2] at hw;refine op_callN rfl rfl rfl _ rfl (vs:=#[.slice (some ⟨w.heap.size,0,none⟩) 1 1]) (by simp [e7]) (H2.out W hw) fun e w' h=>?_
   obtain ⟨rfl,ha⟩:=h;exact ⟨_,rfl,hK _ (by rw [upd_ne (by decide),if_pos h2];exact hw.trans ha)⟩
  | 4,ho,hv =>
   cases ho;cases hv;refine .inl ⟨rfl,fun done a W hd hp hk hw K hK=>?_⟩;have e0:=hk.s 0;exact op_val (by simp [go_sem,ev' e0]) (hK _ (by rw [upd_ne (by decide)];exact hw))
  | _ + 5,_,hv=>cases hv
 intro done W hd hw;simp only [List.drop_succ_cons,List.drop_zero,List.zip_cons_cons,List.zip_nil_right,putAll];simp only [Act.put,List.setIfInBounds_toArray,List.set]
 have hA:Aft w W:=by
  rw [if_pos (hd 2 (by decide))] at hw;exact ((Aft.drew w).then_alloc _).trans hw
 clear hw hd;have HA:=Lib.hid hA;clear hA;go_wp2_with (go_at_call 102;refine (H1.out _ HA.out).mono ?_;rintro e w' ⟨rfl,u,rfl⟩)
 go_ret;exact ⟨rfl,HA.out.then_lat _⟩
end Go.Proofs
end
section
/- Words: what growing lists leaves as it is. -/
namespace Go.Proofs
open Go.RowKit
open Court (refL begF noS struckB nextR strikeL canB coverB grow)
structure Kp (W W':World):Prop where
 size:W.heap.size <= W'.heap.size
 same:∀ (k:Nat) (cs:Array Value) (t:TypeId) (fz:Nat × Nat),W.heap[k]? = some (.cells cs t fz) -> t ≠ 33 -> t ≠ 23 -> W'.heap[k]? = some (.cells cs t fz)
theorem Kp.trans {W W' W'':World} (h:Kp W W') (k:Kp W' W''):Kp W W'':=⟨Nat.le_trans h.size k.size,fun i cs t fz h1 h2 h3=>k.same i cs t fz (h.same i cs t fz h1 h2 h3) h2 h3⟩
theorem Kp.of_aft {W W':World} (h:Aft W W'):Kp W W':=⟨h.size,fun k cs t fz h1 _ _=>(h.below.block k (Array.getElem?_eq_some_iff.1 h1).1).trans h1⟩
theorem Kp.of_grown {W W':World} {row:Option Nat} (h:W.grownBy W' row) (hr:∀ g,row = some g -> g < W.heap.size -> ∃ cs t fz,W.heap[g]? = some (.cells cs t fz) /\ (t = 33 \/ t = 23)):Kp W W' :=
 ⟨h.size,fun k cs t fz h1 h2 h3=>by
  have hk:=(Array.getElem?_eq_some_iff.1 h1).1;by_cases e:row = some k
  ·obtain ⟨cs',t',fz',h4,h5⟩:=hr k e hk;rw [h1] at h4;cases h4;rcases h5 with h5 | h5
   ·exact absurd h5 h2
   ·exact absurd h5 h3
  ·exact (h.block k hk (fun e2=>e e2.symm)).trans h1⟩
theorem Blk.kp {W W':World} {g:Nat} {t:TypeId} {cs:Array Value} (h:Blk W g t cs) (hk:Kp W W') (h1:t ≠ 33) (h2:t ≠ 23):Blk W' g t cs:=hk.same _ _ _ _ h h1 h2
theorem own_kp {W W':World} {base:Nat} {v:Value} {n:Nat} {xs:List Value} (h:W.ownsRow base 3 1 v n xs) (hk:Kp W W'):W'.ownsRow base 3 1 v n xs:=by
 refine ⟨h.1,?_⟩;rcases h.2 with ⟨h1,h2⟩ | ⟨g,cap,cur,h1,h2,h3,h4⟩
 ·exact .inl ⟨h1,h2⟩
 ·exact .inr ⟨g,cap,cur,h1,h2,hk.same _ _ _ _ h3 (by decide) (by decide),h4⟩
def OutsV (W:World) (b:Nat) (v:Value) (vs:List Value) (ls:List (List Int)):Prop:=W.ownsRow b 33 1 v ls.length vs /\ ∀ i,(h:i < ls.length) -> (h':i < vs.length) -> W.ownsRow b 3 1 vs[i] ls[i].length (ls[i].map (Value.int .i64))
def Outs (W:World) (b:Nat) (v:Value) (ls:List (List Int)):Prop:=∃ vs,OutsV W b v vs ls
theorem OutsV.len {W:World} {b:Nat} {v:Value} {vs:List Value} {ls:List (List Int)} (h:OutsV W b v vs ls):vs.length = ls.length:=by simpa using h.1.1
theorem Outs.nil (W:World) (b:Nat):Outs W b (.slice none 0 0) []:=⟨[],World.ownsRow_nil _ _ 33 1,fun i h=>by simp at h⟩
theorem Outs.aft {W W':World} {b:Nat} {v:Value} {ls:List (List Int)} (h:Outs W b v ls) (ha:Aft W W'):Outs W' b v ls :=
 let ⟨vs,h1,h2⟩:=h
 ⟨vs,own_aft h1 ha,fun i hi hi'=>own_aft (h2 i hi hi') ha⟩
theorem Outs.form {W:World} {b:Nat} {v:Value} {ls:List (List Int)} (h:Outs W b v ls):∃ A c,v = .slice A ls.length c:=by
 obtain ⟨vs,h1,_⟩:=h;rcases h1.2 with ⟨rfl,h0⟩ | ⟨g,cap,cur,rfl,_⟩
 ·exact ⟨none,0,by rw [h0]⟩
 ·exact ⟨_,_,rfl⟩
theorem Outs.lists {W:World} {b:Nat} {v:Value} {ls:List (List Int)} (h:Outs W b v ls) (hl:ls.length <= 17592186043904) (hr:∀ l ∈ ls,l.length <= 17592186043904):∃ A c,v = .slice A ls.length c /\ ls.length <= c /\ Lists W A ls:=by
 obtain ⟨vs,h1,h2⟩:=h;have hlen:vs.length = ls.length:=by simpa using h1.1
 rcases h1.2 with ⟨rfl,h0⟩ | ⟨g,cap,cur,rfl,hg,hh,hc,hm,hs,ht⟩
 ·have:ls = []:=List.eq_nil_of_length_eq_zero h0;subst this;exact ⟨none,0,rfl,Nat.le_refl _,by simp,.inl rfl⟩
 ·refine ⟨_,cap,rfl,hc,by omega,.inr ⟨g,0,rfl,(Array.getElem?_eq_some_iff.1 hh).1,fun i hi=>?_⟩⟩;have hiv:i < vs.length:=by rw [hlen];exact hi
  obtain ⟨A,c,e,_,hi2⟩:=own_ints (h2 i hi hiv) (hr _ (List.getElem_mem hi));refine ⟨[vs[i]],rfl,⟨A,c,by rw [e],hi2⟩,fun j hj=>?_⟩;have:=h1.cells (g:=g) rfl i vs[i] (by simp [hiv]);rw [Addr.add_lit] at this;simp at hj;subst hj;simpa using this
theorem own33_block {W:World} {b:Nat} {v:Value} {n:Nat} {vs:List Value} (h:W.ownsRow b 33 1 v n vs) {g:Nat} (hg:v.ownBlock = some g):∃ cs,W.heap[g]? = some (.cells cs 33 (0,0)):=by
 rcases h.2 with ⟨rfl,_⟩ | ⟨g',cap,cur,rfl,_,hh,_⟩
 ·cases hg
 ·cases hg;exact ⟨cur,hh⟩
theorem Outs.push {W W':World} {b:Nat} {v v' r:Value} {vs:List Value} {ls:List (List Int)} {l:List Int} (h:OutsV W b v vs ls) (hr:W.ownsRow b 3 1 r l.length (l.map (Value.int .i64))) (hk:Kp W W') (hown:W'.ownsRow b 33 1 v' (ls.length + 1) (vs ++ [r])):OutsV W' b v' (vs ++ [r]) (ls ++ [l]):=by
 refine ⟨by simpa using hown,fun i hi hi'=>?_⟩;have hlen:=h.len;by_cases e:i < vs.length
 ·have e':i < ls.length:=by omega
  rw [List.getElem_append_left e];simp only [List.getElem_append_left e'];exact own_kp (h.2 i e' e) hk
 ·have e2:i = ls.length:=by simp at hi;omega
  subst e2;rw [List.getElem_append_right (by omega)];have:(ls ++ [l])[ls.length]'hi = l:=by simp
  rw [this];simp only [hlen,Nat.sub_self,List.getElem_cons_zero];exact own_kp hr hk
theorem wpList_app_out {w:World} {ops:Array Oper} {rest:List Oper} {o:Oper} {a:Act} {Q:Exit -> Act -> World -> Prop}
  (hgd:o.guard = none) (s x:Operand) (ho:o.op = .call { callee:=.builtin .append,args:=#[s,x],argTypes:=#[23,23] })
  {b:Nat} {v:Value} {ls:List (List Int)} (h:Outs w b v ls) (hbase:b <= w.heap.size) (hs:a.eval s = v)
  {r:Value} {l:List Int} {c g:Nat} (hx:a.eval x = .slice (some ⟨g,0,none⟩) 1 c) (hb:w.cell? ⟨g,0,none⟩ = some r)
  (hr:w.ownsRow b 3 1 r l.length (l.map (Value.int .i64))) (hl:ls.length <= 1000000)
  (hn:∀ v' w',Outs w' b v' (ls ++ [l]) -> Kp w w' -> w.grownBy w' v.ownBlock -> wpList Tryz.prog ops Q rest (a.put o.dst v') w'):wpList Tryz.prog ops Q (o :: rest) a w:=by
 obtain ⟨ht,⟨i,z,hi,hz,hsize,hby,hzs⟩,hsz⟩:=ty41;obtain ⟨vs,hv⟩:=h;refine wpList_append_own_at (w:=w) hgd s x 23 ho b 33 i z 1 24 ht hi hz hsize hby hzs hsz v ls.length vs hs hv.1 ⟨g,0,none⟩ 1 c [r] hx rfl (fun j u hj=>?_) (fun u hu=>by rw [List.mem_singleton] at hu;subst hu;exact own_cell1 hr)
  (by unfold maxLen;omega) (by omega) hbase fun v' w' h2 h3 _ h5=>?_
 ·match j,hj with
  | 0,hj=>simp at hj;subst hj;rw [Addr.add_lit];simpa using hb
 ·have hk:Kp w w':=Kp.of_grown h3 fun g' hg' _=>by
   obtain ⟨cs,hcs⟩:=own33_block hv.1 hg';exact ⟨cs,33,_,hcs,.inl rfl⟩
  exact hn v' w' ⟨_,Outs.push hv hr hk h2⟩ hk h3
structure GI (w:World) (b d M:Nat) (acc:List (List Int)) (W:World):Prop where
 aft:Aft w W
 ge:w.heap.size = b
 b0:Blk W b 95 #[.pointer (some ⟨d,0,none⟩)]
 b1:Blk W (b + 1) 3 #[.int .i64 M]
 b2:∃ v,Blk W (b + 1 + 1) 23 #[v] /\ Outs W b v acc
 b3:Blk W (b + 1 + 1 + 1) 132 #[.func (.func 105) #[] #[.pointer (some ⟨b + 1 + 1,0,none⟩),.pointer (some ⟨b + 1,0,none⟩),.pointer (some ⟨b,0,none⟩),.pointer (some ⟨b + 1 + 1 + 1,0,none⟩)]]
theorem GI.later {w:World} {b d M:Nat} {acc:List (List Int)} {W W':World} (h:GI w b d M acc W) (ha:Aft W W'):GI w b d M acc W' :=
 ⟨h.aft.trans ha,h.ge,h.b0.aft ha,h.b1.aft ha,let ⟨v,h1,h2⟩:=h.b2;⟨v,h1.aft ha,h2.aft ha⟩,h.b3.aft ha⟩
def GrowR (w:World) (b d M:Nat) (acc:List (List Int)) (W:World) (e:Ending) (W':World):Prop:=(∃ v,e = .returned v) /\ GI w b d M acc W' /\ Kp W W'
theorem take_full {α:Type} {M:Nat} {acc t:List α} (h:acc.length = M):(acc ++ t).take M = acc:=by subst h;exact List.take_left
end Go.Proofs
end
section
/- Walks: the closure of full. -/
namespace Go.Proofs
open Go.RowKit
open Court (refL begF noS struckB nextR strikeL canB coverB grow)
attribute [local go_sem] Oper.semAt_some
theorem runs_106 (args:Array Value) (w:World):(callFunc 106 args).run Tryz.prog w = .ok (.enter 106 args) w:=by simp [go_sem]
theorem take_take_app {α:Type} (M:Nat) (x g:List α):((x.take M) ++ g).take M = (x ++ g).take M:=by
 by_cases h:M <= x.length
 ·rw [List.take_append_of_le_length (by rw [List.length_take];omega),List.take_take,Nat.min_self,List.take_append_of_le_length h]
 ·rw [List.take_of_length_le (by omega:x.length <= M)]
theorem GI.put {w:World} {b d M:Nat} {acc acc':List (List Int)} {W W':World} {v v':Value} (h:GI w b d M acc W) (hk:Kp W W') (ha:Aft w W') (hv:Blk W' (b + 1 + 1) 23 #[v]) (ho:Outs W' b v' acc') :
  GI w b d M acc' (W'.setCell ⟨b + 1 + 1,0,none⟩ v') /\ Kp W' (W'.setCell ⟨b + 1 + 1,0,none⟩ v'):=by
 have hk2:Kp W' (W'.setCell ⟨b + 1 + 1,0,none⟩ v'):=Kp.of_grown (grownBy_setCell' W' (b + 1 + 1) v') fun g hg _=>by
  cases hg;exact ⟨_,23,_,hv,.inr rfl⟩
 refine ⟨⟨ha.then_setCell (by have:=h.ge;show w.heap.size <= b + 1 + 1;omega) _,h.ge,Blk.kp (Blk.kp h.b0 hk (by decide) (by decide)) hk2 (by decide) (by decide),Blk.kp (Blk.kp h.b1 hk (by decide) (by decide)) hk2 (by decide) (by decide),⟨v',by have:=hv.store 0 v';simpa using this,?_⟩,Blk.kp (Blk.kp h.b3 hk (by decide) (by decide)) hk2 (by decide) (by decide)⟩,hk2⟩;obtain ⟨vs,h1,h2⟩:=ho;refine ⟨vs,h1.kept (grownBy_setCell' W' (b + 1 + 1) v') ?_,fun i hi hi'=>own_kp (h2 i hi hi') hk2⟩
 cases e:v'.ownBlock with
 | none=>left;rfl
 | some g =>
  right;intro e2;cases e2;obtain ⟨cs,hcs⟩:=own33_block h1 e;unfold Blk at hv;rw [hv] at hcs;cases hcs
set_option maxRecDepth 100000 in
set_option maxHeartbeats 2000000 in
theorem grow_cap (w0 w:World) (b d M N:Nat) (C:CaseL) (a1 a2:Option Addr) (c1 c2:Nat) (ref:Int -> Bool) (f r:Int -> Nat) (HD0:∀ W,Aft w W -> DeskAt w0 W d C a1 a2 c1 c2 ref noS f r) (hN:C.claims = N) (hN14:N <= 14) (hS:∀ s ∈ C.strikes,0 <= s.1 /\ s.1 < 14) (hM:M <= 1000000) (n:Nat) (l:List Int) (lv:Value) (acc:List (List Int)) (W:World) (hl:∀ x ∈ l,0 <= x /\ x < 14) (hll:l.length <= n) (hrow:W.ownsRow b 3 1 lv l.length (l.map (Value.int .i64))) (hG:GI w b d M acc W) (hacc:M = acc.length) (hn:n <= 14) :
  Calls Tryz.prog 105 #[.int .i64 n,lv,.pointer (some ⟨b + 1 + 1,0,none⟩),.pointer (some ⟨b + 1,0,none⟩),.pointer (some ⟨b,0,none⟩),.pointer (some ⟨b + 1 + 1 + 1,0,none⟩)] W (GrowR w b d M (acc) W):=by
 have t1:decide (M <= acc.length) = true:=by simp;omega
 clear hacc;obtain ⟨A,c,rfl,_,hA⟩:=own_ints hrow (by omega);have H1:Hid (∀ W',Aft W W' -> Calls Tryz.prog 71 #[.slice A l.length c] W' (Marked l W')):=Lib.hid fun W' h=>marked_any l A c W' (hA.aft h) hl
 have HG0:=Lib.hid hG;have HROW0:=Lib.hid hrow;have HA0:=Lib.hid hA;have HLL:=Lib.hid hl;clear hG hrow hA hl;go_enter Tryz.func105,Tryz.ntmps105;go_upto_region 2 with (first | (go_at_call 71;refine (H1.out _ (Aft.alloc _ _)).mono ?_;rintro e w1 ⟨rfl,ha1⟩;have HA1:=Lib.hid ha1;clear ha1) | (refine wpList_store_new rfl 87 (.tmp 8) (.tmp 11) rfl rfl rfl (by rw [info87,mk_size]) (by rw [mk_size];rfl) (all_oneCell_toArray (mkL_one _)) ?_))
 have HA:Hid (Aft W (w1.alloc (.cells (mk (refL l)) 87))):=Lib.hid (((Aft.alloc W _).trans HA1.out).then_alloc _);have HB6:Hid (Blk (w1.alloc (.cells (mk (refL l)) 87)) W.heap.size 3 #[.int .i64 n]):=Lib.hid (((Blk.new W 3 #[.int .i64 n]).aft HA1.out).alloc _);have HB8:Hid (Blk (w1.alloc (.cells (mk (refL l)) 87)) w1.heap.size 87 (mk (refL l))):=Lib.hid (Blk.new w1 87 _);clear HA1 H1;generalize w1.alloc (.cells (mk (refL l)) 87) = Wx at *;generalize w1.heap.size = B8 at *;generalize W.heap.size = B6 at *;have HG:=Lib.hid (HG0.out.later HA.out);have HROW:=Lib.hid (own_aft HROW0.out HA.out);have HAI:=Lib.hid (HA0.out.aft HA.out);clear HG0 HROW0 HA0;obtain ⟨v,hbv,hov⟩:=HG.out.b2;obtain ⟨Ao,co,rfl⟩:=hov.form;have k2:Wx.cell? ⟨b + 1 + 1,0,none⟩ = some (.slice Ao acc.length co):=hbv.cell 0;have k1:Wx.cell? ⟨b + 1,0,none⟩ = some (.int .i64 M):=HG.out.b1.cell 0;have l2:=hbv.lt;have l1:=HG.out.b1.lt;have HOV:=Lib.hid hov;have HBV:=Lib.hid hbv;clear hbv hov;go_wp2_with fail
 refine bodyPost_ret (v:=.tuple #[]) (by simp [results,Tryz.results105,go_sem]) rfl ?_;exact ⟨⟨_,rfl⟩,HG.out,Kp.of_aft HA.out⟩
set_option maxRecDepth 100000 in
set_option maxHeartbeats 4000000 in
theorem grow_leaf (w0 w:World) (b d M N:Nat) (C:CaseL) (a1 a2:Option Addr) (c1 c2:Nat) (ref:Int -> Bool) (f r:Int -> Nat) (HD0:∀ W,Aft w W -> DeskAt w0 W d C a1 a2 c1 c2 ref noS f r) (hN:C.claims = N) (hN14:N <= 14) (hS:∀ s ∈ C.strikes,0 <= s.1 /\ s.1 < 14) (hM:M <= 1000000) (n:Nat) (l:List Int) (lv:Value) (acc:List (List Int)) (W:World) (hl:∀ x ∈ l,0 <= x /\ x < 14) (hll:l.length <= n) (hrow:W.ownsRow b 3 1 lv l.length (l.map (Value.int .i64))) (hG:GI w b d M acc W) (hacc:acc.length < M) (hn:n = N) :
  Calls Tryz.prog 105 #[.int .i64 n,lv,.pointer (some ⟨b + 1 + 1,0,none⟩),.pointer (some ⟨b + 1,0,none⟩),.pointer (some ⟨b,0,none⟩),.pointer (some ⟨b + 1 + 1 + 1,0,none⟩)] W (GrowR w b d M (acc ++ if coverB C.strikes ref N l then [l] else []) W):=by
 have t1:decide (M <= acc.length) = false:=by simp;omega
 have t2:decide (n < N) = false:=by simp;omega
 have hn':n <= 14:=by omega
 have ha':acc.length <= 1000000:=by omega
 clear hn hacc;obtain ⟨T,hT⟩:∃ T,(acc ++ if coverB C.strikes ref N l then [l] else []) = T:=⟨_,rfl⟩;rw [hT];have HT:=Lib.hid hT;clear hT;obtain ⟨A,c,rfl,_,hA⟩:=own_ints hrow (by omega);have H1:Hid (∀ W',Aft W W' -> Calls Tryz.prog 71 #[.slice A l.length c] W' (Marked l W')):=Lib.hid fun W' h=>marked_any l A c W' (hA.aft h) hl
 have HG0:=Lib.hid hG;have HROW0:=Lib.hid hrow;have HA0:=Lib.hid hA;have HLL:=Lib.hid hl;clear hG hrow hA hl;go_enter Tryz.func105,Tryz.ntmps105;go_upto_region 2 with (first | (go_at_call 71;refine (H1.out _ (Aft.alloc _ _)).mono ?_;rintro e w1 ⟨rfl,ha1⟩;have HA1:=Lib.hid ha1;clear ha1) | (refine wpList_store_new rfl 87 (.tmp 8) (.tmp 11) rfl rfl rfl (by rw [info87,mk_size]) (by rw [mk_size];rfl) (all_oneCell_toArray (mkL_one _)) ?_))
 have HA:Hid (Aft W (w1.alloc (.cells (mk (refL l)) 87))):=Lib.hid (((Aft.alloc W _).trans HA1.out).then_alloc _);have HB6:Hid (Blk (w1.alloc (.cells (mk (refL l)) 87)) W.heap.size 3 #[.int .i64 n]):=Lib.hid (((Blk.new W 3 #[.int .i64 n]).aft HA1.out).alloc _);have HB8:Hid (Blk (w1.alloc (.cells (mk (refL l)) 87)) w1.heap.size 87 (mk (refL l))):=Lib.hid (Blk.new w1 87 _);clear HA1 H1;generalize w1.alloc (.cells (mk (refL l)) 87) = Wx at *;generalize w1.heap.size = B8 at *;generalize W.heap.size = B6 at *;have HG:=Lib.hid (HG0.out.later HA.out);have HROW:=Lib.hid (own_aft HROW0.out HA.out);have HAI:=Lib.hid (HA0.out.aft HA.out);clear HG0 HROW0 HA0;obtain ⟨v,hbv,hov⟩:=HG.out.b2;obtain ⟨Ao,co,rfl⟩:=hov.form;have k2:Wx.cell? ⟨b + 1 + 1,0,none⟩ = some (.slice Ao acc.length co):=hbv.cell 0;have k1:Wx.cell? ⟨b + 1,0,none⟩ = some (.int .i64 M):=HG.out.b1.cell 0;have l2:=hbv.lt;have l1:=HG.out.b1.lt;have HOV:=Lib.hid hov;have HBV:=Lib.hid hbv;clear hbv hov;have HDX:Hid (∀ W',Aft Wx W' -> DeskAt w0 W' d C a1 a2 c1 c2 ref noS f r):=Lib.hid fun W' h=>HD0 W' (HG.out.aft.trans h)
 have HN:=Lib.hid hN
 have HK:Hid (∀ W' (k:Nat),Aft Wx W' -> k < 14 -> Calls Tryz.prog 102 #[.pointer (some ⟨d,0,none⟩),.agg (mk (refL l)),.int .i64 k] W' fun e w'=>e = .returned (.bool (strikeL C.strikes (refL l) k)) /\ Aft W' w'):=Lib.hid fun W' k h hk=>by
  rw [<- strikers_any];exact strikes_any w0 W' d C a1 a2 c1 c2 ref noS f r (HDX.out W' h) (refL l) k hk hS
 clear hN HD0 hS;have HC0:Hid (∀ W',Aft Wx W' -> W'.cell? ⟨b,0,none⟩ = some (.pointer (some ⟨d,0,none⟩))):=Lib.hid fun W' h=>(HG.out.b0.aft h).cell 0
 have HC6:Hid (∀ W',Aft Wx W' -> W'.cell? ⟨B6,0,none⟩ = some (.int .i64 n)):=Lib.hid fun W' h=>(HB6.out.aft h).cell 0
 have HCN:Hid (∀ W',Aft Wx W' -> W'.cell? ⟨d,0,none⟩ = some (.int .i64 N)):=Lib.hid fun W' h=>by rw [<- HN.out];exact (HDX.out W' h).k0
 go_upto_region 3 with (fail)
 clear k1 k2;refine wp_region_valsT (by kernel_rfl) 6 94 rfl (by kernel_rfl) (by kernel_rfl) (by kernel_rfl) [.int .i64 n,.pointer (some ⟨d,0,none⟩),.pointer (some ⟨d,0,none⟩),.pointer (some ⟨d,0,none⟩),.pointer (some ⟨d,0,none⟩),.int .i64 N] rfl (fun _ W'=>W' = Wx.drew) (rfl) ?st1 ?fi1
 case st1 =>
  intro i o v ho hv
  match i,ho,hv with
  | 0,ho,hv =>
   cases ho;cases hv;refine .inl ⟨rfl,fun done a W hd hp hk hw K hK=>?_⟩;have e6:=hk.s 6;exact op_val (by simp [go_sem,ev' e6,HC6.out W (hw ▸ Aft.drew Wx)]) (hK _ hw)
  | 1,ho,hv =>
   cases ho;cases hv;refine .inl ⟨rfl,fun done a W hd hp hk hw K hK=>?_⟩;have e4:=hk.s 4;exact op_val (by simp [go_sem,ev' e4,HC0.out W (hw ▸ Aft.drew Wx)]) (hK _ hw)
  | 2,ho,hv =>
   cases ho;cases hv;refine .inl ⟨rfl,fun done a W hd hp hk hw K hK=>?_⟩;have e17:=hk.t 1;exact op_val (by simp [go_sem,ev' e17]) (hK _ hw)
  | 3,ho,hv =>
   cases ho;cases hv;refine .inl ⟨rfl,fun done a W hd hp hk hw K hK=>?_⟩;have e18:=hk.t 2;exact op_val (by simp [go_sem,ev' e18]) (hK _ hw)
  | 4,ho,hv =>
   cases ho;cases hv;refine .inl ⟨rfl,fun done a W hd hp hk hw K hK=>?_⟩;have e19:=hk.t 3;exact op_val (by simp [go_sem,ev' e19]) (hK _ hw)
  | 5,ho,hv =>
   cases ho;cases hv;refine .inl ⟨rfl,fun done a W hd hp hk hw K hK=>?_⟩;have e20:=hk.t 4;exact op_val (by simp [go_sem,ev' e20,HCN.out W (hw ▸ Aft.drew Wx)]) (hK _ hw)
  | _ + 6,_,hv=>cases hv
 intro done W hd hw;simp only [List.drop_succ_cons,List.drop_zero,List.zip_cons_cons,List.zip_nil_right,putAll];simp only [Act.put,List.setIfInBounds_toArray,List.set];clear hd;subst hw;have q0:=HC0.out _ (Aft.drew Wx);have q1:=HCN.out _ (Aft.drew Wx);have q2:=(HDX.out _ (Aft.drew Wx)).lt;have q3:=(HG.out.b0.aft (Aft.drew Wx)).lt;go_upto_block 0 with (fail)
 clear q0 q1 q2 q3;have HDR:=Lib.hid (Aft.drew Wx);generalize Wx.drew = Wy at *;refine wp_block ?_;go_loopw [66] (fun i wr=>∃ k:Nat,i = .int .i64 k /\ k <= N /\ (∀ j:Nat,j < k -> (l.contains (j:Int) || ref j || strikeL C.strikes (refL l) j) = true) /\ Aft Wy wr) (fun i _=>N - (intOf i).toNat)
 case atStart=>exact ⟨0,rfl,by omega,fun j hj=>absurd hj (Nat.not_lt_zero _),Aft.refl _⟩
 case round =>
  obtain ⟨k,rfl,hk,hall,har⟩:=hrel;have HAL:=Lib.hid hall;have HAR:=Lib.hid (HDR.out.trans har);have HAY:=Lib.hid har;clear hall har;by_cases hkN:k < N
  ·have t3:decide (k < N) = true:=by simpa using hkN
   have hk14:k < 14:=by omega
   have i1:(0:Int) <= (k:Int) /\ (k:Int) < 14:=by omega
   have q0:wr.cell? ⟨B8,k,none⟩ = some (.bool (l.contains (k:Int))):=((HB8.out.aft HAR.out).cell k).trans (mk_get _ hk14);have q1:=HC0.out _ HAR.out;have q2:=(HDX.out _ HAR.out).rf hk14;have q3:=(HDX.out _ HAR.out).lt;have q4:=(HG.out.b0.aft HAR.out).lt;have q5:=(HB8.out.aft HAR.out).lt
   have NX:Hid ((l.contains (k:Int) || ref k || strikeL C.strikes (refL l) k) = true -> ∀ j:Nat,j < k + 1 -> (l.contains (j:Int) || ref j || strikeL C.strikes (refL l) j) = true):=Lib.hid fun h j hj=>by
    by_cases e:j < k
    ·exact HAL.out j e
    ·obtain rfl:j = k:=by omega
     exact h
   have HR8:=Lib.hid (blk_range (HB8.out.aft HAR.out));cases hc:l.contains (k:Int)
   ·rw [hc] at q0;have HC:=Lib.hid hc;clear hc;cases hr:ref k
    ·rw [hr] at q2;have HR:=Lib.hid hr;clear hr;have HKK:=Lib.hid (HK.out wr k HAR.out hk14);cases hs:strikeL C.strikes (refL l) k
     all_goals
      rw [hs] at HKK;have HSK:=Lib.hid hs;clear hs;go_wp2_with (first | (refine wpList_load_midG (by rfl) 87 (.tmp 8) rfl B8 0 rfl (mkL (refL l)) _ HR8.out Tryz.underlying87 rfl (by rw [info87,mkL_len]) ?_) | (go_at_call 102;refine HKK.out.mono ?_;rintro e w6 ⟨rfl,ha6⟩;have HA6:=Lib.hid ha6;clear ha6))
     ·refine bodyPost_ret (v:=.tuple #[]) (by simp [results,Tryz.results105,go_sem]) rfl ?_
      have hcv:coverB C.strikes ref N l = false:=by
       rw [Bool.eq_false_iff];intro h;have:=List.all_eq_true.1 h k (List.mem_range.2 hkN);rw [HC.out,HR.out] at this;have e:strikeL C.strikes (fun x=>l.contains x) k = false:=HSK.out;rw [e] at this;cases this
      rw [<- HT.out,hcv,if_neg (by decide),List.append_nil];exact ⟨⟨_,rfl⟩,(HG.out.later HAR.out).later HA6.out,Kp.of_aft ((HA.out.trans HAR.out).trans HA6.out)⟩
     ·refine ⟨⟨k + 1,by go_num,by omega,NX.out (by rw [HSK.out,Bool.or_true]),HAY.out.trans HA6.out⟩,by simp [intOf];omega⟩
    ·rw [hr] at q2;have HR:=Lib.hid hr;clear hr;go_wp2_with fail
     refine ⟨⟨k + 1,by go_num,by omega,NX.out (by rw [HR.out,Bool.or_true,Bool.true_or]),HAY.out⟩,by simp [intOf];omega⟩
   ·rw [hc] at q0;have HC:=Lib.hid hc;clear hc;go_wp2_with fail
    refine ⟨⟨k + 1,by go_num,by omega,NX.out (by rw [HC.out,Bool.true_or,Bool.true_or]),HAY.out⟩,by simp [intOf];omega⟩
  ·have t3:decide (k < N) = false:=by simpa using hkN
   obtain rfl:N = k:=by omega
   have hcv:coverB C.strikes ref N l = true:=List.all_eq_true.2 fun j hj=>HAL.out j (List.mem_range.1 hj)
   have HT2:Hid (acc ++ [l] = T):=Lib.hid (by rw [<- HT.out,hcv,if_pos rfl]);clear hkN hcv HT;have q0:wr.cell? ⟨b + 1 + 1,0,none⟩ = some (.slice Ao acc.length co):=(HBV.out.aft HAR.out).cell 0;have q1:=(HBV.out.aft HAR.out).lt;have HBW:=Lib.hid ((HBV.out.aft HAR.out).alloc (.cells #[.slice A l.length c] 33));have HOW:=Lib.hid ((HOV.out.aft HAR.out).aft (Aft.alloc wr (.cells #[.slice A l.length c] 33)));have HRW:=Lib.hid (own_aft (HROW.out) (HAR.out.then_alloc (.cells #[.slice A l.length c] 33)));have hbase:b <= (wr.alloc (.cells #[.slice A l.length c] 33)).heap.size:=by simp;omega
   have HNE:Hid (some (b + 1 + 1) ≠ (Value.slice Ao acc.length co).ownBlock):=Lib.hid fun e=>by
    obtain ⟨vs,hv,_⟩:=HOW.out;obtain ⟨cs,hcs⟩:=own33_block hv e.symm;have h8:=HBW.out;unfold Blk at h8;rw [h8] at hcs;cases hcs
   go_wp2_with (at_builtin;refine wpList_app_out rfl _ _ rfl HOW.out hbase rfl rfl (cell_new1 _ _ _) HRW.out (by omega) ?_;intro v' w7 ho7 hk7 hg7;obtain ⟨A7,c7,rfl⟩:=ho7.form;have HO7:=Lib.hid ho7;have HK7:=Lib.hid hk7;have HG7:=Lib.hid hg7;have y0:=HBW.out.grown hg7 HNE.out;have HB7:=Lib.hid y0;have z1:=y0.cell 0;have z2:=y0.frozen 0;have z3:=y0.lt)
   have hge:=HG.out.ge;have HW7:Aft w w7:=((HG.out.aft.trans HAR.out).then_alloc _).grown HG7.out (fun g hg=>by obtain ⟨vs,hv,_⟩:=HOW.out;have:=own_ge hv g hg;omega);obtain ⟨p1,p2⟩:=GI.put (HG.out.later (HAR.out.then_alloc (.cells #[.slice A l.length c] 33))) HK7.out HW7 HB7.out HO7.out;rw [show (acc ++ [l]).length = acc.length + 1 by simp] at p1 p2;go_end0;rw [<- HT2.out];exact ⟨⟨_,rfl⟩,p1,((Kp.of_aft (HA.out.trans (HAR.out.then_alloc _))).trans HK7.out).trans p2⟩
end Go.Proofs
end
section
/- Walks: the closure of full: a step,and the induction. -/
namespace Go.Proofs
open Go.RowKit
open Court (refL begF noS struckB nextR strikeL canB coverB grow)
attribute [local go_sem] Oper.semAt_some
theorem grow_no {S:List (Int × Int)} {ref:Int -> Bool} {N k n:Nat} {l:List Int} (h:canB S ref l n = false):grow S ref N (k + 1) n l = grow S ref N k (n + 1) l:=by
 show (if canB S ref l n then grow S ref N k (n + 1) (l ++ [(n:Int)]) else []) ++ grow S ref N k (n + 1) l = _;rw [h,if_neg (by decide),List.nil_append]
theorem grow_yes {S:List (Int × Int)} {ref:Int -> Bool} {N k n:Nat} {l:List Int} (h:canB S ref l n = true):grow S ref N (k + 1) n l = grow S ref N k (n + 1) (l ++ [(n:Int)]) ++ grow S ref N k (n + 1) l:=by
 show (if canB S ref l n then grow S ref N k (n + 1) (l ++ [(n:Int)]) else []) ++ grow S ref N k (n + 1) l = _;rw [h,if_pos rfl]
set_option maxRecDepth 100000 in
set_option maxHeartbeats 8000000 in
theorem grow_step (w0 w:World) (b d M N:Nat) (C:CaseL) (a1 a2:Option Addr) (c1 c2:Nat) (ref:Int -> Bool) (f r:Int -> Nat) (HD0:∀ W,Aft w W -> DeskAt w0 W d C a1 a2 c1 c2 ref noS f r) (hN:C.claims = N) (hN14:N <= 14) (hS:∀ s ∈ C.strikes,0 <= s.1 /\ s.1 < 14) (hM:M <= 1000000) (n:Nat) (l:List Int) (lv:Value) (acc:List (List Int)) (W:World) (hl:∀ x ∈ l,0 <= x /\ x < 14) (hll:l.length <= n) (hrow:W.ownsRow b 3 1 lv l.length (l.map (Value.int .i64))) (hG:GI w b d M acc W) (hacc:acc.length < M) (k:Nat) (hn:n + (k + 1) = N) (G:Nat -> List Int -> List (List Int)) (hG2:G = fun n l=>grow C.strikes ref N k n l) (IH:∀ (l':List Int) (lv':Value) (acc':List (List Int)) (W':World),(∀ x ∈ l',0 <= x /\ x < 14) -> l'.length <= n + 1 -> W'.ownsRow b 3 1 lv' l'.length (l'.map (Value.int .i64)) -> GI w b d M acc' W' -> acc'.length <= M -> Calls Tryz.prog 105 #[.int .i64 ((n:Int) + 1),lv',.pointer (some ⟨b + 1 + 1,0,none⟩),.pointer (some ⟨b + 1,0,none⟩),.pointer (some ⟨b,0,none⟩),.pointer (some ⟨b + 1 + 1 + 1,0,none⟩)] W' (GrowR w b d M ((acc' ++ G (n + 1) l').take M) W')) :
  Calls Tryz.prog 105 #[.int .i64 n,lv,.pointer (some ⟨b + 1 + 1,0,none⟩),.pointer (some ⟨b + 1,0,none⟩),.pointer (some ⟨b,0,none⟩),.pointer (some ⟨b + 1 + 1 + 1,0,none⟩)] W (GrowR w b d M ((acc ++ grow C.strikes ref N (k + 1) n l).take M) W):=by
 have t1:decide (M <= acc.length) = false:=by simp;omega
 have t2:decide (n < N) = true:=by simp;omega
 have hn':n <= 14:=by omega
 have hn13:n < 14:=by omega
 have ha':acc.length <= 1000000:=by omega
 have haM:acc.length <= M:=by omega
 have hn14:(0:Int) <= (n:Int) /\ (n:Int) < 14:=by omega
 clear hn hacc;obtain ⟨T,hT⟩:∃ T,(acc ++ grow C.strikes ref N (k + 1) n l).take M = T:=⟨_,rfl⟩;rw [hT];have HT:=Lib.hid hT;have IH:=Lib.hid IH;have HG2:=Lib.hid hG2
 have HLN:Hid (∀ x ∈ l ++ [(n:Int)],0 <= x /\ x < 14):=Lib.hid fun x hx=>by
  rcases List.mem_append.1 hx with h | h
  ·exact hl x h
  ·rw [List.mem_singleton] at h;omega
 clear hT hG2;obtain ⟨A,c,rfl,_,hA⟩:=own_ints hrow (by omega);have H1:Hid (∀ W',Aft W W' -> Calls Tryz.prog 71 #[.slice A l.length c] W' (Marked l W')):=Lib.hid fun W' h=>marked_any l A c W' (hA.aft h) hl
 have HG0:=Lib.hid hG;have HROW0:=Lib.hid hrow;have HA0:=Lib.hid hA;have HLL:=Lib.hid hl;clear hG hrow hA hl;go_enter Tryz.func105,Tryz.ntmps105;go_upto_region 2 with (first | (go_at_call 71;refine (H1.out _ (Aft.alloc _ _)).mono ?_;rintro e w1 ⟨rfl,ha1⟩;have HA1:=Lib.hid ha1;clear ha1) | (refine wpList_store_new rfl 87 (.tmp 8) (.tmp 11) rfl rfl rfl (by rw [info87,mk_size]) (by rw [mk_size];rfl) (all_oneCell_toArray (mkL_one _)) ?_))
 have HA:Hid (Aft W (w1.alloc (.cells (mk (refL l)) 87))):=Lib.hid (((Aft.alloc W _).trans HA1.out).then_alloc _);have HB6:Hid (Blk (w1.alloc (.cells (mk (refL l)) 87)) W.heap.size 3 #[.int .i64 n]):=Lib.hid (((Blk.new W 3 #[.int .i64 n]).aft HA1.out).alloc _);have HB8:Hid (Blk (w1.alloc (.cells (mk (refL l)) 87)) w1.heap.size 87 (mk (refL l))):=Lib.hid (Blk.new w1 87 _);clear HA1 H1;generalize w1.alloc (.cells (mk (refL l)) 87) = Wx at *;generalize w1.heap.size = B8 at *;generalize W.heap.size = B6 at *;have HG:=Lib.hid (HG0.out.later HA.out);have HROW:=Lib.hid (own_aft HROW0.out HA.out);have HAI:=Lib.hid (HA0.out.aft HA.out);clear HG0 HROW0 HA0;obtain ⟨v,hbv,hov⟩:=HG.out.b2;obtain ⟨Ao,co,rfl⟩:=hov.form;have k2:Wx.cell? ⟨b + 1 + 1,0,none⟩ = some (.slice Ao acc.length co):=hbv.cell 0;have k1:Wx.cell? ⟨b + 1,0,none⟩ = some (.int .i64 M):=HG.out.b1.cell 0;have l2:=hbv.lt;have l1:=HG.out.b1.lt;have HOV:=Lib.hid hov;have HBV:=Lib.hid hbv;clear hbv hov;have HDX:Hid (∀ W',Aft Wx W' -> DeskAt w0 W' d C a1 a2 c1 c2 ref noS f r):=Lib.hid fun W' h=>HD0 W' (HG.out.aft.trans h)
 have HN:=Lib.hid hN;have HSS:=Lib.hid hS;clear hN HD0 hS;have HC0:Hid (∀ W',Aft Wx W' -> W'.cell? ⟨b,0,none⟩ = some (.pointer (some ⟨d,0,none⟩))):=Lib.hid fun W' h=>(HG.out.b0.aft h).cell 0
 have HC6:Hid (∀ W',Aft Wx W' -> W'.cell? ⟨B6,0,none⟩ = some (.int .i64 n)):=Lib.hid fun W' h=>(HB6.out.aft h).cell 0
 have HCN:Hid (∀ W',Aft Wx W' -> W'.cell? ⟨d,0,none⟩ = some (.int .i64 N)):=Lib.hid fun W' h=>by rw [<- HN.out];exact (HDX.out W' h).k0
 go_upto_region 3 with (fail)
 clear k1 k2;refine wp_region_valsT (by kernel_rfl) 6 94 rfl (by kernel_rfl) (by kernel_rfl) (by kernel_rfl) [.int .i64 n,.pointer (some ⟨d,0,none⟩),.pointer (some ⟨d,0,none⟩),.pointer (some ⟨d,0,none⟩),.pointer (some ⟨d,0,none⟩),.int .i64 N] rfl (fun _ W'=>W' = Wx.drew) (rfl) ?st1 ?fi1
 case st1 =>
  intro i o v ho hv
  match i,ho,hv with
  | 0,ho,hv =>
   cases ho;cases hv;refine .inl ⟨rfl,fun done a W hd hp hk hw K hK=>?_⟩;have e6:=hk.s 6;exact op_val (by simp [go_sem,ev' e6,HC6.out W (hw ▸ Aft.drew Wx)]) (hK _ hw)
  | 1,ho,hv =>
   cases ho;cases hv;refine .inl ⟨rfl,fun done a W hd hp hk hw K hK=>?_⟩;have e4:=hk.s 4;exact op_val (by simp [go_sem,ev' e4,HC0.out W (hw ▸ Aft.drew Wx)]) (hK _ hw)
  | 2,ho,hv =>
   cases ho;cases hv;refine .inl ⟨rfl,fun done a W hd hp hk hw K hK=>?_⟩;have e17:=hk.t 1;exact op_val (by simp [go_sem,ev' e17]) (hK _ hw)
  | 3,ho,hv =>
   cases ho;cases hv;refine .inl ⟨rfl,fun done a W hd hp hk hw K hK=>?_⟩;have e18:=hk.t 2;exact op_val (by simp [go_sem,ev' e18]) (hK _ hw)
  | 4,ho,hv =>
   cases ho;cases hv;refine .inl ⟨rfl,fun done a W hd hp hk hw K hK=>?_⟩;have e19:=hk.t 3;exact op_val (by simp [go_sem,ev' e19]) (hK _ hw)
  | 5,ho,hv =>
   cases ho;cases hv;refine .inl ⟨rfl,fun done a W hd hp hk hw K hK=>?_⟩;have e20:=hk.t 4;exact op_val (by simp [go_sem,ev' e20,HCN.out W (hw ▸ Aft.drew Wx)]) (hK _ hw)
  | _ + 6,_,hv=>cases hv
 intro done W hd hw;simp only [List.drop_succ_cons,List.drop_zero,List.zip_cons_cons,List.zip_nil_right,putAll];simp only [Act.put,List.setIfInBounds_toArray,List.set];clear hd;subst hw;have HDR:=Lib.hid (Aft.drew Wx);go_upto_region 4 with (fail)
 have HGY:=Lib.hid (HG.out.later HDR.out);clear HC0 HC6 HCN;generalize Wx.drew = Wy at *;have HC0:Hid (∀ W',Aft Wy W' -> W'.cell? ⟨b,0,none⟩ = some (.pointer (some ⟨d,0,none⟩))):=Lib.hid fun W' h=>(HGY.out.b0.aft h).cell 0
 have HC6:Hid (∀ W',Aft Wy W' -> W'.cell? ⟨B6,0,none⟩ = some (.int .i64 n)):=Lib.hid fun W' h=>(HB6.out.aft (HDR.out.trans h)).cell 0
 have HCR:Hid (∀ W',Aft Wy W' -> W'.cell? ⟨d,3 + n,none⟩ = some (.bool (ref n))):=Lib.hid fun W' h=>(HDX.out W' (HDR.out.trans h)).rf hn13
 cases hr:ref n
 ·rw [hr] at HCR;have HR:=Lib.hid hr;clear hr;have HCL:Hid (∀ W',Aft Wy W' -> Calls Tryz.prog 63 #[.slice A l.length c] W' (OwnInts W' l)):=Lib.hid fun W' h=>clone84 A l c W' (HAI.out.aft (HDR.out.trans h))
  have HS:Hid (∀ W',Aft Wy W' -> Calls Tryz.prog 102 #[.pointer (some ⟨d,0,none⟩),.agg (mk (refL (l ++ [(n:Int)]))),.int .i64 n] W' fun e w'=>e = .returned (.bool (strikeL C.strikes (refL (l ++ [(n:Int)])) n)) /\ Aft W' w'):=Lib.hid fun W' h=>by
   rw [<- strikers_any];exact strikes_any w0 W' d C a1 a2 c1 c2 ref noS f r (HDX.out W' (HDR.out.trans h)) (refL (l ++ [(n:Int)])) n hn13 HSS.out
  cases hs:strikeL C.strikes (refL (l ++ [(n:Int)])) n
  ·rw [hs] at HS;have HSN:=Lib.hid hs;clear hs;refine wp_region_valsU (by kernel_rfl) 22 94 rfl (by kernel_rfl) (by kernel_rfl) [some (.pointer (some ⟨d,0,none⟩)),some (.int .i64 n),some (.pointer (some ⟨d,0,none⟩)),some (.pointer (some ⟨d,3,none⟩)),some (.pointer (some ⟨d,3 + n,none⟩)),some (.bool false),some (.bool true),some (.bool true),some (.pointer (some ⟨d,0,none⟩)),some (.slice A l.length c),none,some (.int .i64 n),none,none,some (.agg (mk (refL (l ++ [(n:Int)])))),some (.int .i64 n),some (.bool false),some (.bool true),some (.bool true),some (.bool true),some (.slice A l.length c),some (.func (.func 106) #[] #[.pointer (some ⟨b,0,none⟩),.pointer (some ⟨B6,0,none⟩)])] (by kernel_rfl) rfl (Tri Wy l n 10 12 13 33 35 36) (Tri.start) ?st2 ?fi2
   case st2 =>
    intro i o v ho hv
    match i,ho,hv with
    | 0,ho,hv =>
     cases ho;cases hv;refine .inl ⟨rfl,fun done a W hz hd hp hk hw K hK=>?_⟩;have e4:=hk.s 4;exact op_val (v:=.pointer (some ⟨d,0,none⟩)) (by simp [go_sem,ev' e4,HC0.out W hw.aft]) (hK _ _ (fun u hu=>by cases hu;rfl) (hw.keep (Aft.refl _) (by decide) (by decide)))
    | 1,ho,hv =>
     cases ho;cases hv;refine .inl ⟨rfl,fun done a W hz hd hp hk hw K hK=>?_⟩;have e6:=hk.s 6;exact op_val (v:=.int .i64 n) (by simp [go_sem,ev' e6,HC6.out W hw.aft]) (hK _ _ (fun u hu=>by cases hu;rfl) (hw.keep (Aft.refl _) (by decide) (by decide)))
    | 2,ho,hv =>
     cases ho;cases hv;refine .inl ⟨rfl,fun done a W hz hd hp hk hw K hK=>?_⟩;have e23:=hk.t 0;exact op_val (v:=.pointer (some ⟨d,0,none⟩)) (by simp [go_sem,ev' e23]) (hK _ _ (fun u hu=>by cases hu;rfl) (hw.keep (Aft.refl _) (by decide) (by decide)))
    | 3,ho,hv =>
     cases ho;cases hv;refine .inl ⟨rfl,fun done a W hz hd hp hk hw K hK=>?_⟩;have e25:=hk.t 2;exact op_val (v:=.pointer (some ⟨d,3,none⟩)) (by simp [go_sem,ev' e25]) (hK _ _ (fun u hu=>by cases hu;rfl) (hw.keep (Aft.refl _) (by decide) (by decide)))
    | 4,ho,hv =>
     cases ho;cases hv;refine .inl ⟨rfl,fun done a W hz hd hp hk hw K hK=>?_⟩;have e24:=hk.t 1;have e26:=hk.t 3;exact op_val (v:=.pointer (some ⟨d,3 + n,none⟩)) (by simp [go_sem,ev' e24,ev' e26,hn14]) (hK _ _ (fun u hu=>by cases hu;rfl) (hw.keep (Aft.refl _) (by decide) (by decide)))
    | 5,ho,hv =>
     cases ho;cases hv;refine .inl ⟨rfl,fun done a W hz hd hp hk hw K hK=>?_⟩;have e27:=hk.t 4;exact op_val (v:=.bool false) (by simp [go_sem,ev' e27,HCR.out W hw.aft]) (hK _ _ (fun u hu=>by cases hu;rfl) (hw.keep (Aft.refl _) (by decide) (by decide)))
    | 6,ho,hv =>
     cases ho;cases hv;refine .inl ⟨rfl,fun done a W hz hd hp hk hw K hK=>?_⟩;have e28:=hk.t 5;exact op_val (v:=.bool true) (by simp [go_sem,ev' e28]) (hK _ _ (fun u hu=>by cases hu;rfl) (hw.keep (Aft.refl _) (by decide) (by decide)))
    | 7,ho,hv =>
     cases ho;cases hv;refine .inl ⟨rfl,fun done a W hz hd hp hk hw K hK=>?_⟩;have e29:=hk.t 6;exact op_val (v:=.bool true) (by simp [go_sem,ev' e29]) (hK _ _ (fun u hu=>by cases hu;rfl) (hw.keep (Aft.refl _) (by decide) (by decide)))
    | 8,ho,hv =>
     cases ho;cases hv;refine .inl ⟨rfl,fun done a W hz hd hp hk hw K hK=>?_⟩;have e4:=hk.s 4;exact op_val (v:=.pointer (some ⟨d,0,none⟩)) (by simp [go_sem,ev' e4,HC0.out W hw.aft]) (hK _ _ (fun u hu=>by cases hu;rfl) (hw.keep (Aft.refl _) (by decide) (by decide)))
    | 9,ho,hv =>
     cases ho;cases hv;refine .inl ⟨rfl,fun done a W hz hd hp hk hw K hK=>?_⟩;have e1:=hk.s 1;exact op_val (v:=.slice A l.length c) (by simp [go_sem,ev' e1]) (hK _ _ (fun u hu=>by cases hu;rfl) (hw.keep (Aft.refl _) (by decide) (by decide)))
    | 10,ho,hv =>
     cases ho;cases hv;refine .inl ⟨rfl,fun done a W hz hd hp hk hw K hK=>?_⟩;have e32:=hk.t 9;refine op_callN rfl rfl rfl _ rfl (vs:=#[.slice A l.length c]) (by simp [e32]) (HCL.out W hw.aft) fun e w' h=>?_
     obtain ⟨v1,rfl,hrow,ha⟩:=h;exact ⟨v1,rfl,hK _ _ (fun u hu=>by cases hu) (hw.stepA hd ha hrow (by rw [hz];decide) (by decide) (by decide))⟩
    | 11,ho,hv =>
     cases ho;cases hv;refine .inl ⟨rfl,fun done a W hz hd hp hk hw K hK=>?_⟩;have e6:=hk.s 6;exact op_val (v:=.int .i64 n) (by simp [go_sem,ev' e6,HC6.out W hw.aft]) (hK _ _ (fun u hu=>by cases hu;rfl) (hw.keep (Aft.refl _) (by decide) (by decide)))
    | 12,ho,hv =>
     cases ho;cases hv;refine .inl ⟨rfl,fun done a W hz hd hp hk hw K hK=>?_⟩;have e34:=hk.t 11;exact op_valW (w':=W.alloc (.cells #[.int .i64 n] 3)) (v:=.slice (some ⟨W.heap.size,0,none⟩) 1 1) (by simp [go_sem,ev' e34]) (hK _ _ (fun u hu=>by cases hu) (hw.stepB hd (by rw [hz];decide) (by decide) (by decide)))
    | 13,ho,hv =>
     cases ho;cases hv;refine .inl ⟨rfl,fun done a W hz hd hp hk hw K hK=>?_⟩;exact hw.stepC (hp 10 (by decide)) (hp 12 (by decide)) hd (by decide) rfl rfl (by rw [hz];decide) (by omega) (fun y w' hy=>hK _ _ (fun u hu=>by cases hu) hy)
    | 14,ho,hv =>
     cases ho;cases hv;refine .inl ⟨rfl,fun done a W hz hd hp hk hw K hK=>?_⟩;obtain ⟨A1,c1,e1,_,hi⟩:=own_ints (hw.rowC (hp 13 (by decide))) (by simp;omega);refine op_callN rfl rfl rfl _ rfl (vs:=#[.slice A1 (l ++ [(n:Int)]).length c1]) (by simp [e1]) (marked_any (l ++ [(n:Int)]) A1 c1 W hi HLN.out) fun e w' h=>?_
     obtain ⟨rfl,ha⟩:=h;exact ⟨_,rfl,hK _ _ (fun u hu=>by cases hu;rfl) (hw.keep ha (by decide) (by decide))⟩
    | 15,ho,hv =>
     cases ho;cases hv;refine .inl ⟨rfl,fun done a W hz hd hp hk hw K hK=>?_⟩;have e6:=hk.s 6;exact op_val (v:=.int .i64 n) (by simp [go_sem,ev' e6,HC6.out W hw.aft]) (hK _ _ (fun u hu=>by cases hu;rfl) (hw.keep (Aft.refl _) (by decide) (by decide)))
    | 16,ho,hv =>
     cases ho;cases hv;refine .inl ⟨rfl,fun done a W hz hd hp hk hw K hK=>?_⟩;have e31:=hk.t 8;have e37:=hk.t 14;have e38:=hk.t 15;refine op_callN rfl rfl rfl _ rfl (vs:=#[.pointer (some ⟨d,0,none⟩),.agg (mk (refL (l ++ [(n:Int)]))),.int .i64 n]) (by simp [e31,e37,e38]) (HS.out W hw.aft) fun e w' h=>?_
     obtain ⟨rfl,ha⟩:=h;exact ⟨_,rfl,hK _ _ (fun u hu=>by cases hu;rfl) (hw.keep ha (by decide) (by decide))⟩
    | 17,ho,hv =>
     cases ho;cases hv;refine .inl ⟨rfl,fun done a W hz hd hp hk hw K hK=>?_⟩;have e39:=hk.t 16;exact op_val (v:=.bool true) (by simp [go_sem,ev' e39]) (hK _ _ (fun u hu=>by cases hu;rfl) (hw.keep (Aft.refl _) (by decide) (by decide)))
    | 18,ho,hv =>
     cases ho;cases hv;refine .inl ⟨rfl,fun done a W hz hd hp hk hw K hK=>?_⟩;have e30:=hk.t 7;have e40:=hk.t 17;exact op_val (v:=.bool true) (by simp [go_sem,ev' e30,ev' e40]) (hK _ _ (fun u hu=>by cases hu;rfl) (hw.keep (Aft.refl _) (by decide) (by decide)))
    | 19,ho,hv =>
     cases ho;cases hv;refine .inl ⟨rfl,fun done a W hz hd hp hk hw K hK=>?_⟩;have e41:=hk.t 18;exact op_val (v:=.bool true) (by simp [go_sem,ev' e41]) (hK _ _ (fun u hu=>by cases hu;rfl) (hw.keep (Aft.refl _) (by decide) (by decide)))
    | 20,ho,hv =>
     cases ho;cases hv;refine .inl ⟨rfl,fun done a W hz hd hp hk hw K hK=>?_⟩;have e1:=hk.s 1;exact op_val (v:=.slice A l.length c) (by simp [go_sem,ev' e1]) (hK _ _ (fun u hu=>by cases hu;rfl) (hw.keep (Aft.refl _) (by decide) (by decide)))
    | 21,ho,hv =>
     cases ho;cases hv;refine .inl ⟨rfl,fun done a W hz hd hp hk hw K hK=>?_⟩;have e4:=hk.s 4;have e6:=hk.s 6;exact op_val (v:=.func (.func 106) #[] #[.pointer (some ⟨b,0,none⟩),.pointer (some ⟨B6,0,none⟩)]) (by simp [go_sem,ev' e4,ev' e6]) (hK _ _ (fun u hu=>by cases hu;rfl) (hw.keep (Aft.refl _) (by decide) (by decide)))
    | _ + 22,_,hv=>cases hv
   intro done us W hus hd hw;obtain ⟨y1,y2,y3,rfl⟩:=list3 hus;have HA4:=Lib.hid hw.aft;clear hw hd hus;simp only [fill,List.drop_succ_cons,List.drop_zero,List.zip_cons_cons,List.zip_nil_right,putAll];simp only [Act.put,List.setIfInBounds_toArray,List.set]
   have H85:Hid (∀ W',Aft Wy W' -> Calls Tryz.prog 85 #[.slice A l.length c,.func (.func 106) #[] #[.pointer (some ⟨b,0,none⟩),.pointer (some ⟨B6,0,none⟩)]] W' fun e w'=>e = .returned (.bool (l.all fun o=>!strikeL C.strikes (fun x=>decide (x = (n:Int))) o)) /\ Aft W' w'):=Lib.hid fun W' h =>
    (none_int IntR 106 [.pointer (some ⟨b,0,none⟩),.pointer (some ⟨B6,0,none⟩)] (fun o=>strikeL C.strikes (fun x=>decide (x = (n:Int))) o) A l c W' (HAI.out.aft (HDR.out.trans h)) runs_106 (fun x hx v0 hv=>by
     cases hv;obtain ⟨o,rfl⟩:∃ o:Nat,x = o:=⟨x.toNat,by have:=HLL.out x hx;omega⟩;exact fun u=>full11_any w0 (W'.lat u) d C a1 a2 c1 c2 ref f r (HDX.out _ ((HDR.out.trans h).trans (Aft.lat _ _))) b B6 n o ((HGY.out.b0.aft h).lat u) ((HB6.out.aft (HDR.out.trans h)).lat u) hn13 (by have:=HLL.out _ hx;omega) HSS.out)).mono fun _ _ ⟨h,ha⟩=>⟨by rw [h];exact ret_bool (by rw [List.all_eq_not_any_not];simp),ha⟩
   cases hx:l.all fun o=>!strikeL C.strikes (fun x=>decide (x = (n:Int))) o
   ·rw [hx] at H85;have HXN:=Lib.hid hx;clear hx;go_upto_region 6 with (go_at_call 85;refine (H85.out _ HA4.out).mono ?_;rintro e w8 ⟨rfl,ha8⟩;have HA8:=Lib.hid ha8;clear ha8)
    have HG8:=Lib.hid (HGY.out.later (HA4.out.trans HA8.out));have HK8:=Lib.hid (Kp.of_aft (HDR.out.trans (HA4.out.trans HA8.out)));have z1:w8.cell? ⟨b + 1 + 1 + 1,0,none⟩ = some (.func (.func 105) #[] #[.pointer (some ⟨b + 1 + 1,0,none⟩),.pointer (some ⟨b + 1,0,none⟩),.pointer (some ⟨b,0,none⟩),.pointer (some ⟨b + 1 + 1 + 1,0,none⟩)]):=HG8.out.b3.cell 0;have z2:=HG8.out.b3.lt;have hB6:=Blk.kp HB6.out HK8.out (by decide) (by decide);have z3:w8.cell? ⟨B6,0,none⟩ = some (.int .i64 n):=hB6.cell 0;have z4:=hB6.lt;have HI:=Lib.hid (IH.out l (.slice A l.length c) acc _ HLL.out (by omega) (own_kp HROW.out HK8.out) HG8.out haM);clear hB6;go_wp2_with (go_at_call 105;refine HI.out.mono ?_;rintro e w9 ⟨⟨v9,rfl⟩,hg9,hk9⟩;have HG9:=Lib.hid hg9;have HK9:=Lib.hid hk9;clear hg9 hk9)
    refine bodyPost_ret (v:=.tuple #[]) (by simp [results,Tryz.results105,go_sem]) rfl ?_;have eT:(acc ++ G (n + 1) l).take M = T:=by rw [<- HT.out,HG2.out];rw [grow_no (by unfold canB;rw [HXN.out,Bool.and_false])]
    rw [<- eT];exact ⟨⟨_,rfl⟩,HG9.out,((Kp.of_aft HA.out).trans HK8.out).trans HK9.out⟩
   ·rw [hx] at H85;have HXN:=Lib.hid hx;clear hx;go_upto_region 5 with (go_at_call 85;refine (H85.out _ HA4.out).mono ?_;rintro e w5 ⟨rfl,ha5⟩;have HA5:=Lib.hid (HA4.out.trans ha5);clear ha5)
    have HC3:Hid (∀ W',Aft w5 W' -> W'.cell? ⟨b + 1 + 1 + 1,0,none⟩ = some (.func (.func 105) #[] #[.pointer (some ⟨b + 1 + 1,0,none⟩),.pointer (some ⟨b + 1,0,none⟩),.pointer (some ⟨b,0,none⟩),.pointer (some ⟨b + 1 + 1 + 1,0,none⟩)])):=Lib.hid fun W' h=>(HGY.out.b3.aft (HA5.out.trans h)).cell 0
    refine wp_region_valsU (by kernel_rfl) 8 94 rfl (by kernel_rfl) (by kernel_rfl) [some (.func (.func 105) #[] #[.pointer (some ⟨b + 1 + 1,0,none⟩),.pointer (some ⟨b + 1,0,none⟩),.pointer (some ⟨b,0,none⟩),.pointer (some ⟨b + 1 + 1 + 1,0,none⟩)]),some (.int .i64 n),some (.int .i64 ((n:Int) + 1)),some (.slice A l.length c),none,some (.int .i64 n),none,none] (by kernel_rfl) rfl (Tri w5 l n 4 6 7 51 53 54) (Tri.start) ?st3 ?fi3
    case st3 =>
     intro i o v ho hv
     match i,ho,hv with
     | 0,ho,hv =>
      cases ho;cases hv;refine .inl ⟨rfl,fun done a W hz hd hp hk hw K hK=>?_⟩;have e5:=hk.s 5;exact op_val (v:=.func (.func 105) #[] #[.pointer (some ⟨b + 1 + 1,0,none⟩),.pointer (some ⟨b + 1,0,none⟩),.pointer (some ⟨b,0,none⟩),.pointer (some ⟨b + 1 + 1 + 1,0,none⟩)]) (by simp [go_sem,ev' e5,HC3.out W hw.aft]) (hK _ _ (fun u hu=>by cases hu;rfl) (hw.keep (Aft.refl _) (by decide) (by decide)))
     | 1,ho,hv =>
      cases ho;cases hv;refine .inl ⟨rfl,fun done a W hz hd hp hk hw K hK=>?_⟩;have e6:=hk.s 6;exact op_val (v:=.int .i64 n) (by simp [go_sem,ev' e6,HC6.out W (HA5.out.trans hw.aft)]) (hK _ _ (fun u hu=>by cases hu;rfl) (hw.keep (Aft.refl _) (by decide) (by decide)))
     | 2,ho,hv =>
      cases ho;cases hv;refine .inl ⟨rfl,fun done a W hz hd hp hk hw K hK=>?_⟩;have e48:=hk.t 1;refine op_val (v:=.int .i64 ((n:Int) + 1)) ?_ (hK _ _ (fun u hu=>by cases hu;rfl) (hw.keep (Aft.refl _) (by decide) (by decide)));simp [go_sem,ev' e48];rw [IntKind.wrap_i64];omega
     | 3,ho,hv =>
      cases ho;cases hv;refine .inl ⟨rfl,fun done a W hz hd hp hk hw K hK=>?_⟩;have e1:=hk.s 1;exact op_val (v:=.slice A l.length c) (by simp [go_sem,ev' e1]) (hK _ _ (fun u hu=>by cases hu;rfl) (hw.keep (Aft.refl _) (by decide) (by decide)))
     | 4,ho,hv =>
      cases ho;cases hv;refine .inl ⟨rfl,fun done a W hz hd hp hk hw K hK=>?_⟩;have e50:=hk.t 3;refine op_callN rfl rfl rfl _ rfl (vs:=#[.slice A l.length c]) (by simp [e50]) (HCL.out W (HA5.out.trans hw.aft)) fun e w' h=>?_
      obtain ⟨v1,rfl,hrow,ha⟩:=h;exact ⟨v1,rfl,hK _ _ (fun u hu=>by cases hu) (hw.stepA hd ha hrow (by rw [hz];decide) (by decide) (by decide))⟩
     | 5,ho,hv =>
      cases ho;cases hv;refine .inl ⟨rfl,fun done a W hz hd hp hk hw K hK=>?_⟩;have e6:=hk.s 6;exact op_val (v:=.int .i64 n) (by simp [go_sem,ev' e6,HC6.out W (HA5.out.trans hw.aft)]) (hK _ _ (fun u hu=>by cases hu;rfl) (hw.keep (Aft.refl _) (by decide) (by decide)))
     | 6,ho,hv =>
      cases ho;cases hv;refine .inl ⟨rfl,fun done a W hz hd hp hk hw K hK=>?_⟩;have e52:=hk.t 5;exact op_valW (w':=W.alloc (.cells #[.int .i64 n] 3)) (v:=.slice (some ⟨W.heap.size,0,none⟩) 1 1) (by simp [go_sem,ev' e52]) (hK _ _ (fun u hu=>by cases hu) (hw.stepB hd (by rw [hz];decide) (by decide) (by decide)))
     | 7,ho,hv =>
      cases ho;cases hv;refine .inl ⟨rfl,fun done a W hz hd hp hk hw K hK=>?_⟩;exact hw.stepC (hp 4 (by decide)) (hp 6 (by decide)) hd (by decide) rfl rfl (by rw [hz];decide) (by omega) (fun y w' hy=>hK _ _ (fun u hu=>by cases hu) hy)
     | _ + 8,_,hv=>cases hv
    intro done us W hus hd hw;obtain ⟨x1,x2,x3,rfl⟩:=list3 hus
    have hrow3:W.ownsRow w5.heap.size 3 1 x3 (l ++ [(n:Int)]).length ((l ++ [(n:Int)]).map (Value.int .i64)):=by
     have:=hw.rowC (hd 7 (by decide));simpa [fill,putAll,Act.put,Act.eval] using this
    have HA6:=Lib.hid (HA5.out.trans hw.aft);obtain ⟨l2,hl2⟩:∃ l2,l ++ [(n:Int)] = l2:=⟨_,rfl⟩;have hlen2:l2.length <= n + 1:=by rw [<- hl2];simp;omega
    have HLN2:=Lib.hid (show ∀ x ∈ l2,0 <= x /\ x < 14 from hl2 ▸ HLN.out);rw [hl2] at hrow3;have HL2:=Lib.hid hl2;clear hl2;obtain ⟨A3,c3,rfl,_,_⟩:=own_ints hrow3 (by omega);have hb5:b <= w5.heap.size:=by have:=HGY.out.ge;have:=(HGY.out.aft.trans HA5.out).size;omega
    have HI1:=Lib.hid (IH.out l2 _ acc W HLN2.out hlen2 (World.ownsRow.mono hrow3 hb5) (HGY.out.later HA6.out) haM);clear hw hd hus hrow3 hb5;simp only [fill,List.drop_succ_cons,List.drop_zero,List.zip_cons_cons,List.zip_nil_right,putAll];simp only [Act.put,List.setIfInBounds_toArray,List.set];go_upto_region 6 with (go_at_call 105;refine HI1.out.mono ?_;rintro e w8 ⟨⟨v8,rfl⟩,hg8,hk8⟩;have HG8:=Lib.hid hg8;have HK8:=Lib.hid ((Kp.of_aft (HDR.out.trans HA6.out)).trans hk8);clear hg8 hk8)
    have z1:w8.cell? ⟨b + 1 + 1 + 1,0,none⟩ = some (.func (.func 105) #[] #[.pointer (some ⟨b + 1 + 1,0,none⟩),.pointer (some ⟨b + 1,0,none⟩),.pointer (some ⟨b,0,none⟩),.pointer (some ⟨b + 1 + 1 + 1,0,none⟩)]):=HG8.out.b3.cell 0;have z2:=HG8.out.b3.lt;have hB6:=Blk.kp HB6.out HK8.out (by decide) (by decide);have z3:w8.cell? ⟨B6,0,none⟩ = some (.int .i64 n):=hB6.cell 0;have z4:=hB6.lt;have HI:=Lib.hid (IH.out l (.slice A l.length c) ((acc ++ G (n + 1) l2).take M) _ HLL.out (by omega) (own_kp HROW.out HK8.out) HG8.out (List.length_take_le _ _));clear hB6;go_wp2_with (go_at_call 105;refine HI.out.mono ?_;rintro e w9 ⟨⟨v9,rfl⟩,hg9,hk9⟩;have HG9:=Lib.hid hg9;have HK9:=Lib.hid hk9;clear hg9 hk9)
    refine bodyPost_ret (v:=.tuple #[]) (by simp [results,Tryz.results105,go_sem]) rfl ?_;have eT:(((acc ++ G (n + 1) l2).take M) ++ G (n + 1) l).take M = T:=by rw [<- HT.out,HG2.out];rw [take_take_app,<- HL2.out,List.append_assoc,grow_yes (by unfold canB;rw [HR.out,HXN.out];show (!strikeL C.strikes (refL (l ++ [(n:Int)])) n && true) = true;rw [HSN.out];rfl)]
    rw [<- eT];exact ⟨⟨_,rfl⟩,HG9.out,((Kp.of_aft HA.out).trans HK8.out).trans HK9.out⟩
  ·rw [hs] at HS;have HSN:=Lib.hid hs;clear hs;refine wp_region_valsU (by kernel_rfl) 22 94 rfl (by kernel_rfl) (by kernel_rfl) [some (.pointer (some ⟨d,0,none⟩)),some (.int .i64 n),some (.pointer (some ⟨d,0,none⟩)),some (.pointer (some ⟨d,3,none⟩)),some (.pointer (some ⟨d,3 + n,none⟩)),some (.bool false),some (.bool true),some (.bool true),some (.pointer (some ⟨d,0,none⟩)),some (.slice A l.length c),none,some (.int .i64 n),none,none,some (.agg (mk (refL (l ++ [(n:Int)])))),some (.int .i64 n),some (.bool true),some (.bool false),some (.bool false),some (.bool false),some undef,some undef] (by kernel_rfl) rfl (Tri Wy l n 10 12 13 33 35 36) (Tri.start) ?st4 ?fi4
   case st4 =>
    intro i o v ho hv
    match i,ho,hv with
    | 0,ho,hv =>
     cases ho;cases hv;refine .inl ⟨rfl,fun done a W hz hd hp hk hw K hK=>?_⟩;have e4:=hk.s 4;exact op_val (v:=.pointer (some ⟨d,0,none⟩)) (by simp [go_sem,ev' e4,HC0.out W hw.aft]) (hK _ _ (fun u hu=>by cases hu;rfl) (hw.keep (Aft.refl _) (by decide) (by decide)))
    | 1,ho,hv =>
     cases ho;cases hv;refine .inl ⟨rfl,fun done a W hz hd hp hk hw K hK=>?_⟩;have e6:=hk.s 6;exact op_val (v:=.int .i64 n) (by simp [go_sem,ev' e6,HC6.out W hw.aft]) (hK _ _ (fun u hu=>by cases hu;rfl) (hw.keep (Aft.refl _) (by decide) (by decide)))
    | 2,ho,hv =>
     cases ho;cases hv;refine .inl ⟨rfl,fun done a W hz hd hp hk hw K hK=>?_⟩;have e23:=hk.t 0;exact op_val (v:=.pointer (some ⟨d,0,none⟩)) (by simp [go_sem,ev' e23]) (hK _ _ (fun u hu=>by cases hu;rfl) (hw.keep (Aft.refl _) (by decide) (by decide)))
    | 3,ho,hv =>
     cases ho;cases hv;refine .inl ⟨rfl,fun done a W hz hd hp hk hw K hK=>?_⟩;have e25:=hk.t 2;exact op_val (v:=.pointer (some ⟨d,3,none⟩)) (by simp [go_sem,ev' e25]) (hK _ _ (fun u hu=>by cases hu;rfl) (hw.keep (Aft.refl _) (by decide) (by decide)))
    | 4,ho,hv =>
     cases ho;cases hv;refine .inl ⟨rfl,fun done a W hz hd hp hk hw K hK=>?_⟩;have e24:=hk.t 1;have e26:=hk.t 3;exact op_val (v:=.pointer (some ⟨d,3 + n,none⟩)) (by simp [go_sem,ev' e24,ev' e26,hn14]) (hK _ _ (fun u hu=>by cases hu;rfl) (hw.keep (Aft.refl _) (by decide) (by decide)))
    | 5,ho,hv =>
     cases ho;cases hv;refine .inl ⟨rfl,fun done a W hz hd hp hk hw K hK=>?_⟩;have e27:=hk.t 4;exact op_val (v:=.bool false) (by simp [go_sem,ev' e27,HCR.out W hw.aft]) (hK _ _ (fun u hu=>by cases hu;rfl) (hw.keep (Aft.refl _) (by decide) (by decide)))
    | 6,ho,hv =>
     cases ho;cases hv;refine .inl ⟨rfl,fun done a W hz hd hp hk hw K hK=>?_⟩;have e28:=hk.t 5;exact op_val (v:=.bool true) (by simp [go_sem,ev' e28]) (hK _ _ (fun u hu=>by cases hu;rfl) (hw.keep (Aft.refl _) (by decide) (by decide)))
    | 7,ho,hv =>
     cases ho;cases hv;refine .inl ⟨rfl,fun done a W hz hd hp hk hw K hK=>?_⟩;have e29:=hk.t 6;exact op_val (v:=.bool true) (by simp [go_sem,ev' e29]) (hK _ _ (fun u hu=>by cases hu;rfl) (hw.keep (Aft.refl _) (by decide) (by decide)))
    | 8,ho,hv =>
     cases ho;cases hv;refine .inl ⟨rfl,fun done a W hz hd hp hk hw K hK=>?_⟩;have e4:=hk.s 4;exact op_val (v:=.pointer (some ⟨d,0,none⟩)) (by simp [go_sem,ev' e4,HC0.out W hw.aft]) (hK _ _ (fun u hu=>by cases hu;rfl) (hw.keep (Aft.refl _) (by decide) (by decide)))
    | 9,ho,hv =>
     cases ho;cases hv;refine .inl ⟨rfl,fun done a W hz hd hp hk hw K hK=>?_⟩;have e1:=hk.s 1;exact op_val (v:=.slice A l.length c) (by simp [go_sem,ev' e1]) (hK _ _ (fun u hu=>by cases hu;rfl) (hw.keep (Aft.refl _) (by decide) (by decide)))
    | 10,ho,hv =>
     cases ho;cases hv;refine .inl ⟨rfl,fun done a W hz hd hp hk hw K hK=>?_⟩;have e32:=hk.t 9;refine op_callN rfl rfl rfl _ rfl (vs:=#[.slice A l.length c]) (by simp [e32]) (HCL.out W hw.aft) fun e w' h=>?_
     obtain ⟨v1,rfl,hrow,ha⟩:=h;exact ⟨v1,rfl,hK _ _ (fun u hu=>by cases hu) (hw.stepA hd ha hrow (by rw [hz];decide) (by decide) (by decide))⟩
    | 11,ho,hv =>
     cases ho;cases hv;refine .inl ⟨rfl,fun done a W hz hd hp hk hw K hK=>?_⟩;have e6:=hk.s 6;exact op_val (v:=.int .i64 n) (by simp [go_sem,ev' e6,HC6.out W hw.aft]) (hK _ _ (fun u hu=>by cases hu;rfl) (hw.keep (Aft.refl _) (by decide) (by decide)))
    | 12,ho,hv =>
     cases ho;cases hv;refine .inl ⟨rfl,fun done a W hz hd hp hk hw K hK=>?_⟩;have e34:=hk.t 11;exact op_valW (w':=W.alloc (.cells #[.int .i64 n] 3)) (v:=.slice (some ⟨W.heap.size,0,none⟩) 1 1) (by simp [go_sem,ev' e34]) (hK _ _ (fun u hu=>by cases hu) (hw.stepB hd (by rw [hz];decide) (by decide) (by decide)))
    | 13,ho,hv =>
     cases ho;cases hv;refine .inl ⟨rfl,fun done a W hz hd hp hk hw K hK=>?_⟩;exact hw.stepC (hp 10 (by decide)) (hp 12 (by decide)) hd (by decide) rfl rfl (by rw [hz];decide) (by omega) (fun y w' hy=>hK _ _ (fun u hu=>by cases hu) hy)
    | 14,ho,hv =>
     cases ho;cases hv;refine .inl ⟨rfl,fun done a W hz hd hp hk hw K hK=>?_⟩;obtain ⟨A1,c1,e1,_,hi⟩:=own_ints (hw.rowC (hp 13 (by decide))) (by simp;omega);refine op_callN rfl rfl rfl _ rfl (vs:=#[.slice A1 (l ++ [(n:Int)]).length c1]) (by simp [e1]) (marked_any (l ++ [(n:Int)]) A1 c1 W hi HLN.out) fun e w' h=>?_
     obtain ⟨rfl,ha⟩:=h;exact ⟨_,rfl,hK _ _ (fun u hu=>by cases hu;rfl) (hw.keep ha (by decide) (by decide))⟩
    | 15,ho,hv =>
     cases ho;cases hv;refine .inl ⟨rfl,fun done a W hz hd hp hk hw K hK=>?_⟩;have e6:=hk.s 6;exact op_val (v:=.int .i64 n) (by simp [go_sem,ev' e6,HC6.out W hw.aft]) (hK _ _ (fun u hu=>by cases hu;rfl) (hw.keep (Aft.refl _) (by decide) (by decide)))
    | 16,ho,hv =>
     cases ho;cases hv;refine .inl ⟨rfl,fun done a W hz hd hp hk hw K hK=>?_⟩;have e31:=hk.t 8;have e37:=hk.t 14;have e38:=hk.t 15;refine op_callN rfl rfl rfl _ rfl (vs:=#[.pointer (some ⟨d,0,none⟩),.agg (mk (refL (l ++ [(n:Int)]))),.int .i64 n]) (by simp [e31,e37,e38]) (HS.out W hw.aft) fun e w' h=>?_
     obtain ⟨rfl,ha⟩:=h;exact ⟨_,rfl,hK _ _ (fun u hu=>by cases hu;rfl) (hw.keep ha (by decide) (by decide))⟩
    | 17,ho,hv =>
     cases ho;cases hv;refine .inl ⟨rfl,fun done a W hz hd hp hk hw K hK=>?_⟩;have e39:=hk.t 16;exact op_val (v:=.bool false) (by simp [go_sem,ev' e39]) (hK _ _ (fun u hu=>by cases hu;rfl) (hw.keep (Aft.refl _) (by decide) (by decide)))
    | 18,ho,hv =>
     cases ho;cases hv;refine .inl ⟨rfl,fun done a W hz hd hp hk hw K hK=>?_⟩;have e30:=hk.t 7;have e40:=hk.t 17;exact op_val (v:=.bool false) (by simp [go_sem,ev' e30,ev' e40]) (hK _ _ (fun u hu=>by cases hu;rfl) (hw.keep (Aft.refl _) (by decide) (by decide)))
    | 19,ho,hv =>
     cases ho;cases hv;refine .inl ⟨rfl,fun done a W hz hd hp hk hw K hK=>?_⟩;have e41:=hk.t 18;exact op_val (v:=.bool false) (by simp [go_sem,ev' e41]) (hK _ _ (fun u hu=>by cases hu;rfl) (hw.keep (Aft.refl _) (by decide) (by decide)))
    | 20,ho,hv=>cases ho;cases hv;exact .inr ⟨rfl,rfl,fun done a W hw=>hw.keep (Aft.refl _) (by decide) (by decide)⟩
    | 21,ho,hv=>cases ho;cases hv;exact .inr ⟨rfl,rfl,fun done a W hw=>hw.keep (Aft.refl _) (by decide) (by decide)⟩
    | _ + 22,_,hv=>cases hv
   intro done us W hus hd hw;obtain ⟨y1,y2,y3,rfl⟩:=list3 hus;have HA4:=Lib.hid hw.aft;clear hw hd hus;simp only [fill,List.drop_succ_cons,List.drop_zero,List.zip_cons_cons,List.zip_nil_right,putAll];simp only [Act.put,List.setIfInBounds_toArray,List.set];go_upto_region 6 with (fail)
   have HG8:=Lib.hid (HGY.out.later HA4.out);have HK8:=Lib.hid (Kp.of_aft (HDR.out.trans HA4.out));have z1:W.cell? ⟨b + 1 + 1 + 1,0,none⟩ = some (.func (.func 105) #[] #[.pointer (some ⟨b + 1 + 1,0,none⟩),.pointer (some ⟨b + 1,0,none⟩),.pointer (some ⟨b,0,none⟩),.pointer (some ⟨b + 1 + 1 + 1,0,none⟩)]):=HG8.out.b3.cell 0;have z2:=HG8.out.b3.lt;have hB6:=Blk.kp HB6.out HK8.out (by decide) (by decide);have z3:W.cell? ⟨B6,0,none⟩ = some (.int .i64 n):=hB6.cell 0;have z4:=hB6.lt;have HI:=Lib.hid (IH.out l (.slice A l.length c) acc _ HLL.out (by omega) (own_kp HROW.out HK8.out) HG8.out haM);clear hB6;go_wp2_with (go_at_call 105;refine HI.out.mono ?_;rintro e w9 ⟨⟨v9,rfl⟩,hg9,hk9⟩;have HG9:=Lib.hid hg9;have HK9:=Lib.hid hk9;clear hg9 hk9)
   refine bodyPost_ret (v:=.tuple #[]) (by simp [results,Tryz.results105,go_sem]) rfl ?_;have eT:(acc ++ G (n + 1) l).take M = T:=by rw [<- HT.out,HG2.out];rw [grow_no (by unfold canB;show (!ref n && !strikeL C.strikes (refL (l ++ [(n:Int)])) n && _) = false;rw [HSN.out,Bool.not_true,Bool.and_false,Bool.false_and])]
   rw [<- eT];exact ⟨⟨_,rfl⟩,HG9.out,((Kp.of_aft HA.out).trans HK8.out).trans HK9.out⟩
 ·rw [hr] at HCR;have HR:=Lib.hid hr;clear hr;refine wp_region_valsT (by kernel_rfl) 22 94 rfl (by kernel_rfl) (by kernel_rfl) (by kernel_rfl) [.pointer (some ⟨d,0,none⟩),.int .i64 n,.pointer (some ⟨d,0,none⟩),.pointer (some ⟨d,3,none⟩),.pointer (some ⟨d,3 + n,none⟩),.bool true,.bool false,.bool false,undef,undef,undef,undef,undef,undef,undef,undef,undef,undef,.bool false,.bool false,undef,undef] rfl (fun _ W'=>W' = Wy.drew) (rfl) ?st5 ?fi5
  case st5 =>
   intro i o v ho hv
   match i,ho,hv with
   | 0,ho,hv =>
    cases ho;cases hv;refine .inl ⟨rfl,fun done a W hd hp hk hw K hK=>?_⟩;have e4:=hk.s 4;exact op_val (by simp [go_sem,ev' e4,HC0.out W (hw ▸ Aft.drew Wy)]) (hK _ hw)
   | 1,ho,hv =>
    cases ho;cases hv;refine .inl ⟨rfl,fun done a W hd hp hk hw K hK=>?_⟩;have e6:=hk.s 6;exact op_val (by simp [go_sem,ev' e6,HC6.out W (hw ▸ Aft.drew Wy)]) (hK _ hw)
   | 2,ho,hv =>
    cases ho;cases hv;refine .inl ⟨rfl,fun done a W hd hp hk hw K hK=>?_⟩;have e23:=hk.t 0;exact op_val (by simp [go_sem,ev' e23]) (hK _ hw)
   | 3,ho,hv =>
    cases ho;cases hv;refine .inl ⟨rfl,fun done a W hd hp hk hw K hK=>?_⟩;have e25:=hk.t 2;exact op_val (by simp [go_sem,ev' e25]) (hK _ hw)
   | 4,ho,hv =>
    cases ho;cases hv;refine .inl ⟨rfl,fun done a W hd hp hk hw K hK=>?_⟩;have e24:=hk.t 1;have e26:=hk.t 3;exact op_val (by simp [go_sem,ev' e24,ev' e26,hn14]) (hK _ hw)
   | 5,ho,hv =>
    cases ho;cases hv;refine .inl ⟨rfl,fun done a W hd hp hk hw K hK=>?_⟩;have e27:=hk.t 4;exact op_val (by simp [go_sem,ev' e27,HCR.out W (hw ▸ Aft.drew Wy)]) (hK _ hw)
   | 6,ho,hv =>
    cases ho;cases hv;refine .inl ⟨rfl,fun done a W hd hp hk hw K hK=>?_⟩;have e28:=hk.t 5;exact op_val (by simp [go_sem,ev' e28]) (hK _ hw)
   | 7,ho,hv =>
    cases ho;cases hv;refine .inl ⟨rfl,fun done a W hd hp hk hw K hK=>?_⟩;have e29:=hk.t 6;exact op_val (by simp [go_sem,ev' e29]) (hK _ hw)
   | 8,ho,hv=>cases ho;cases hv;exact .inr ⟨rfl,rfl,fun _ _ h=>h⟩
   | 9,ho,hv=>cases ho;cases hv;exact .inr ⟨rfl,rfl,fun _ _ h=>h⟩
   | 10,ho,hv=>cases ho;cases hv;exact .inr ⟨rfl,rfl,fun _ _ h=>h⟩
   | 11,ho,hv=>cases ho;cases hv;exact .inr ⟨rfl,rfl,fun _ _ h=>h⟩
   | 12,ho,hv=>cases ho;cases hv;exact .inr ⟨rfl,rfl,fun _ _ h=>h⟩
   | 13,ho,hv=>cases ho;cases hv;exact .inr ⟨rfl,rfl,fun _ _ h=>h⟩
   | 14,ho,hv=>cases ho;cases hv;exact .inr ⟨rfl,rfl,fun _ _ h=>h⟩
   | 15,ho,hv=>cases ho;cases hv;exact .inr ⟨rfl,rfl,fun _ _ h=>h⟩
   | 16,ho,hv=>cases ho;cases hv;exact .inr ⟨rfl,rfl,fun _ _ h=>h⟩
   | 17,ho,hv=>cases ho;cases hv;exact .inr ⟨rfl,rfl,fun _ _ h=>h⟩
   | 18,ho,hv =>
    cases ho;cases hv;refine .inl ⟨rfl,fun done a W hd hp hk hw K hK=>?_⟩;have e30:=hk.t 7;have e40:=hk.t 17;exact op_val (by simp [go_sem,ev' e30,ev' e40]) (hK _ hw)
   | 19,ho,hv =>
    cases ho;cases hv;refine .inl ⟨rfl,fun done a W hd hp hk hw K hK=>?_⟩;have e41:=hk.t 18;exact op_val (by simp [go_sem,ev' e41]) (hK _ hw)
   | 20,ho,hv=>cases ho;cases hv;exact .inr ⟨rfl,rfl,fun _ _ h=>h⟩
   | 21,ho,hv=>cases ho;cases hv;exact .inr ⟨rfl,rfl,fun _ _ h=>h⟩
   | _ + 22,_,hv=>cases hv
  intro done W hd hw;simp only [List.drop_succ_cons,List.drop_zero,List.zip_cons_cons,List.zip_nil_right,putAll];simp only [Act.put,List.setIfInBounds_toArray,List.set];clear hd;subst hw;go_upto_region 6 with (fail)
  have HG8:=Lib.hid (HGY.out.later (Aft.drew Wy));have HK8:=Lib.hid (Kp.of_aft (HDR.out.trans (Aft.drew Wy)));have z1:Wy.drew.cell? ⟨b + 1 + 1 + 1,0,none⟩ = some (.func (.func 105) #[] #[.pointer (some ⟨b + 1 + 1,0,none⟩),.pointer (some ⟨b + 1,0,none⟩),.pointer (some ⟨b,0,none⟩),.pointer (some ⟨b + 1 + 1 + 1,0,none⟩)]):=HG8.out.b3.cell 0;have z2:=HG8.out.b3.lt;have hB6:=Blk.kp HB6.out HK8.out (by decide) (by decide);have z3:Wy.drew.cell? ⟨B6,0,none⟩ = some (.int .i64 n):=hB6.cell 0;have z4:=hB6.lt;have HI:=Lib.hid (IH.out l (.slice A l.length c) acc _ HLL.out (by omega) (own_kp HROW.out HK8.out) HG8.out haM);clear hB6;go_wp2_with (go_at_call 105;refine HI.out.mono ?_;rintro e w9 ⟨⟨v9,rfl⟩,hg9,hk9⟩;have HG9:=Lib.hid hg9;have HK9:=Lib.hid hk9;clear hg9 hk9)
  refine bodyPost_ret (v:=.tuple #[]) (by simp [results,Tryz.results105,go_sem]) rfl ?_;have eT:(acc ++ G (n + 1) l).take M = T:=by rw [<- HT.out,HG2.out];rw [grow_no (by unfold canB;rw [HR.out,Bool.not_true,Bool.false_and,Bool.false_and])]
  rw [<- eT];exact ⟨⟨_,rfl⟩,HG9.out,((Kp.of_aft HA.out).trans HK8.out).trans HK9.out⟩
theorem grow_any (w0 w:World) (b d M N:Nat) (C:CaseL) (a1 a2:Option Addr) (c1 c2:Nat) (ref:Int -> Bool) (f r:Int -> Nat) (HD0:∀ W,Aft w W -> DeskAt w0 W d C a1 a2 c1 c2 ref noS f r) (hN:C.claims = N) (hN14:N <= 14) (hS:∀ s ∈ C.strikes,0 <= s.1 /\ s.1 < 14) (hM:M <= 1000000):∀ (k n:Nat) (l:List Int) (lv:Value) (acc:List (List Int)) (W:World),n + k = N -> (∀ x ∈ l,0 <= x /\ x < 14) -> l.length <= n -> W.ownsRow b 3 1 lv l.length (l.map (Value.int .i64)) -> GI w b d M acc W -> acc.length <= M ->
  Calls Tryz.prog 105 #[.int .i64 n,lv,.pointer (some ⟨b + 1 + 1,0,none⟩),.pointer (some ⟨b + 1,0,none⟩),.pointer (some ⟨b,0,none⟩),.pointer (some ⟨b + 1 + 1 + 1,0,none⟩)] W (GrowR w b d M ((acc ++ grow C.strikes ref N k n l).take M) W)
 | k,n,l,lv,acc,W,hn,hl,hll,hrow,hG,hacc=>by
  by_cases hc:acc.length < M
  ·cases k with
   | zero =>
    have h:=grow_leaf w0 w b d M N C a1 a2 c1 c2 ref f r HD0 hN hN14 hS hM n l lv acc W hl hll hrow hG hc (by omega)
    have e:(acc ++ grow C.strikes ref N 0 n l).take M = acc ++ if coverB C.strikes ref N l then [l] else []:=by
     refine List.take_of_length_le ?_;show (acc ++ if coverB C.strikes ref N l then [l] else []).length <= M;split <;> simp <;> omega
    rw [e];exact h
   | succ k =>
    refine grow_step w0 w b d M N C a1 a2 c1 c2 ref f r HD0 hN hN14 hS hM n l lv acc W hl hll hrow hG hc k hn (fun n l=>grow C.strikes ref N k n l) rfl fun l' lv' acc' W' h1 h2 h3 h4 h5=>?_
    have h:=grow_any w0 w b d M N C a1 a2 c1 c2 ref f r HD0 hN hN14 hS hM k (n + 1) l' lv' acc' W' (by omega) h1 h2 h3 h4 h5;rw [show ((n:Int) + 1) = ((n + 1:Nat):Int) by omega];exact h
  ·rw [take_full (by omega)];exact grow_cap w0 w b d M N C a1 a2 c1 c2 ref f r HD0 hN hN14 hS hM n l lv acc W hl hll hrow hG (by omega) (by omega)
end Go.Proofs
end
