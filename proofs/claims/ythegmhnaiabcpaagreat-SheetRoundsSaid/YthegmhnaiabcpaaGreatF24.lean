/- Own texts, merged: Tm1 Tm Tn0. -/
import Derived.Test.YthegmhnaiabcpaaGreatF23
set_option linter.unusedSimpArgs false
set_option linter.unusedVariables false
set_option linter.unnecessarySimpa false
section
/- Walks: what Match does in its ranges. -/
namespace Go.Proofs
open Go.RowKit
attribute [local go_sem] Oper.semAt_some
def castP (p:Nat × Nat):Int × Int:=((p.1:Nat),(p.2:Nat))
def MatchR (play:Int) (la lb:List (Int × Int)) (w:World) (e:Ending) (w':World):Prop :=
 ∃ v l,e = .returned (.tuple #[v,.int .i64 0]) /\ w'.ownsRow w.heap.size 67 2 v l.length ((l.map castP).flatMap enc2) /\ Sheet.Chain (sameB play la lb) la.length lb.length 0 0 l /\ Sheet.Long (sameB play la lb) la.length lb.length 0 0 l.length /\ Aft w w'
def rfSnd:Code -> Option Code
 | .seq a b=>match rfBody a with | some _=>rfBody b | none=>rfSnd b
 | .block _ b=>rfSnd b
 | .loop b=>rfSnd b
 | .cond _ a b=>match rfBody a with | some _=>rfBody b | none=>rfSnd b
 | _=>none
theorem mk_keep {w0 W W':World} {Ds:List Nat} {row:Option Nat} (hm:∀ D ∈ Ds,w0.heap.size <= D /\ W.heap[D]? = some (.deferred (some []))) (hg:W.grownBy W' row) (hc:∀ k,row = some k -> ∃ cs t,Blk W k t cs):∀ D ∈ Ds,w0.heap.size <= D /\ W'.heap[D]? = some (.deferred (some [])):=fun D hD=>by
 obtain ⟨h1,h2⟩:=hm D hD;refine ⟨h1,(hg.block D (Array.getElem?_eq_some_iff.1 h2).1 fun e=>?_).trans h2⟩;obtain ⟨cs,t,h3⟩:=hc D e.symm;unfold Blk at h3;rw [h2] at h3;cases h3
theorem mk_aft {w0 W W':World} {Ds:List Nat} (hm:∀ D ∈ Ds,w0.heap.size <= D /\ W.heap[D]? = some (.deferred (some []))) (ha:Aft W W'):∀ D ∈ Ds,w0.heap.size <= D /\ W'.heap[D]? = some (.deferred (some [])):=fun D hD=>by
 obtain ⟨h1,h2⟩:=hm D hD;exact ⟨h1,(ha.below.block D (Array.getElem?_eq_some_iff.1 h2).1).trans h2⟩
theorem own_blk {W:World} {base:Nat} {e:TypeId} {size:Nat} {v:Value} {n:Nat} {xs:List Value} (h:W.ownsRow base e size v n xs) {k:Nat} (hk:v.ownBlock = some k):∃ cs t,Blk W k t cs:=by
 obtain ⟨cs,hc⟩:=own_block h hk;exact ⟨cs,e,hc⟩
theorem own_not {v:Value} {b r:Nat} (h:∀ k,v.ownBlock = some k -> b <= k) (hr:r < b):v.ownBlock = none \/ v.ownBlock ≠ some r:=.inr fun e=>by have:=h r e;omega
theorem own_marks {W W':World} {base:Nat} {e:TypeId} {size:Nat} {v:Value} {n:Nat} {xs:List Value} {Ds:List Nat} (h:W.ownsRow base e size v n xs) (hm:∀ D ∈ Ds,W.heap[D]? = some (.deferred (some []))) (hk:∀ k,k ∉ Ds -> W'.heap[k]? = W.heap[k]?):W'.ownsRow base e size v n xs :=
 ⟨h.1,h.2.imp id fun ⟨g,cap,cur,h1,h2,h3,h4⟩=>⟨g,cap,cur,h1,h2,(hk g fun hg=>by rw [hm g hg] at h3;cases h3).trans h3,h4⟩⟩
theorem own_form {W:World} {base:Nat} {e:TypeId} {size:Nat} {v:Value} {n:Nat} {xs:List Value} (h:W.ownsRow base e size v n xs):∃ A q c,v = .slice A q c /\ q = n:=by
 rcases h.2 with ⟨rfl,h0⟩ | ⟨g,cap,cur,rfl,-⟩
 ·exact ⟨none,0,0,rfl,h0.symm⟩
 ·exact ⟨_,_,_,rfl,rfl⟩
theorem FrD.grownN {w W W':World} {d B:Nat} {bs:List (Nat × TypeId × Array Value)} {Ds:List Nat} (h:FrD w d B bs Ds W) (hg:W.grownBy W' none):FrD w d B bs Ds W' :=
 h.grown (r:=d) ⟨hg.os,hg.tape,hg.output,hg.size,fun i hi _=>hg.block i hi (by simp)⟩ (.inl rfl)
theorem exec_append {P:Program} {o:Oper} {a:Act} {w w':World} {v1 v2 v':Value} {s x:Operand} {t:TypeId} (ho:o.op = .call { callee:=.builtin .append,args:=#[s,x],argTypes:=#[t,t] }) (hs:a.eval s = v1) (hx:a.eval x = v2) (hr:(Builtin.append_ #[t,t] o.type #[v1,v2]).run P w = .ok v' w'):(execOp a.eval o).run P w = .ok (.value v') w':=by
 unfold execOp;simp only [ho,resolve,invoke,builtin,Sem.run_bind,Sem.run_pure,Result.andThen_ok,List.map_toArray,List.map_cons,List.map_nil,hs,hx,hr]
structure MtF (w3:World) (g z nn yb nV:Nat) (V:Nat × Nat -> Nat) (v:Value) (L:List (Nat × Nat)) (l1 l2:Nat) (W:World):Prop where
 fr:FrD w3 g (z + 6) [(z,160,#[.map (some g)]),(z + 1,68,#[v]),(z + 2,67,#[.int .i64 (l1:Nat),.int .i64 (l2:Nat)])] [] W
 own:W.ownsRow (z + 6) 67 2 v L.length ((L.map castP).flatMap enc2)
 map:MapP W g nV V
 box:Blk W yb 3 #[.int .i64 (nn:Nat)]
 yz:z + 6 <= yb
section
variable {w3:World} {g z nn yb nV:Nat} {V:Nat × Nat -> Nat} {v:Value} {L:List (Nat × Nat)} {l1 l2:Nat} {W W':World}
theorem MtF.later (h:MtF w3 g z nn yb nV V v L l1 l2 W) (ha:Aft W W'):MtF w3 g z nn yb nV V v L l1 l2 W':=⟨h.fr.later ha,own_aft h.own ha,h.map.aft ha,h.box.aft ha,h.yz⟩
theorem MtF.gz (h:MtF w3 g z nn yb nV V v L l1 l2 W) (hz:w3.heap.size = z):g < z:=by have:=h.fr.lt;omega
theorem MtF.grown (h:MtF w3 g z nn yb nV V v L l1 l2 W) (hz:w3.heap.size = z) {r:Nat} (hg:W.grownBy W' (some r)) (hr:z + 6 <= r) (hy:r ≠ yb) (ho:v.ownBlock ≠ some r):MtF w3 g z nn yb nV V v L l1 l2 W' :=
 ⟨h.fr.grown hg (.inr hr),h.own.kept hg (.inr ho),h.map.kept hg (fun e=>by have e:g = r:=Option.some.inj e;have:=h.gz hz;omega),h.box.grown hg (fun e=>hy (Option.some.inj e).symm),h.yz⟩
end
def MtI2 (w3:World) (g z nn yb nV:Nat) (V:Nat × Nat -> Nat) (v:Value) (L:List (Nat × Nat)) (l1 l2 zb:Nat) (Ds:List Nat) (r:Nat) (W:World):Prop :=
 MtF w3 g z nn yb nV V v L l1 l2 W /\ Blk W zb 3 #[.int .i64 (l1:Nat)] /\ Blk W (zb + 1) 3 #[.int .i64 (l2:Nat)] /\ Sheet.NoneTo l1 l2 V nn r /\ ∀ D ∈ Ds,w3.heap.size <= D /\ W.heap[D]? = some (.deferred (some []))
def MtX (w3:World) (g z nn yb nV:Nat) (V:Nat × Nat -> Nat) (L:List (Nat × Nat)) (l1 l2 zb:Nat) (Ds:List Nat) (c:Code) (W:World):Prop :=
 c = .exit 4 /\ ∃ i k v,i < l1 /\ k < l2 /\ V (i,k) = nn /\ MtF w3 g z nn yb nV V v (L ++ [(i,k)]) i k W /\ (∀ q,v.ownBlock = some q -> q < zb \/ zb + 4 <= q) /\ ∀ D ∈ Ds,w3.heap.size <= D /\ W.heap[D]? = some (.deferred (some []))
structure Ap (X0 Xa X3 X5:World) (done:Nat -> Bool) (W:World):Prop where
 l0:done 3 = true -> done 0 = true
 l2:done 3 = true -> done 2 = true
 l5:done 5 = true -> done 3 = true
 w:W = if done 5 = true then X5 else if done 3 = true then X3 else if done 2 = true then Xa else X0
section
variable {X0 Xa X3 X5 W:World} {done:Nat -> Bool} {i:Nat}
theorem Ap.start:Ap X0 Xa X3 X5 (fun _=>false) X0:=⟨fun h=>h,fun h=>h,fun h=>h,by simp⟩
theorem Ap.keep (h:Ap X0 Xa X3 X5 done W) (hi:i ≠ 2 /\ i ≠ 3 /\ i ≠ 5):Ap X0 Xa X3 X5 (Go.upd done i) W:=by
 refine ⟨fun p=>?_,fun p=>?_,fun p=>?_,?_⟩
 ·rw [upd_ne' (Ne.symm hi.2.1)] at p;by_cases e:i = 0
  ·subst e;rfl
  ·rw [upd_ne' (Ne.symm e)];exact h.l0 p
 ·rw [upd_ne' (Ne.symm hi.2.1)] at p;rw [upd_ne' (Ne.symm hi.1)];exact h.l2 p
 ·rw [upd_ne' (Ne.symm hi.2.2)] at p;rw [upd_ne' (Ne.symm hi.2.1)];exact h.l5 p
 ·rw [upd_ne' (Ne.symm hi.2.2),upd_ne' (Ne.symm hi.2.1),upd_ne' (Ne.symm hi.1)];exact h.w
theorem Ap.at0 (h:Ap X0 Xa X3 X5 done W) (h0:done 0 = false):W = X0 \/ W = Xa:=by
 have h3:done 3 = false:=by cases e:done 3;rfl;rw [h.l0 e] at h0;cases h0
 have h5:done 5 = false:=by cases e:done 5;rfl;rw [h.l5 e] at h3;cases h3
 have:=h.w;rw [h5,h3] at this;cases e:done 2 <;> rw [e] at this
 ·exact .inl (by simpa using this)
 ·exact .inr (by simpa using this)
theorem Ap.at2 (h:Ap X0 Xa X3 X5 done W) (h2:done 2 = false):W = X0 /\ done 3 = false /\ done 5 = false:=by
 have h3:done 3 = false:=by cases e:done 3;rfl;rw [h.l2 e] at h2;cases h2
 have h5:done 5 = false:=by cases e:done 5;rfl;rw [h.l5 e] at h3;cases h3
 have:=h.w;rw [h5,h3,h2] at this;exact ⟨by simpa using this,h3,h5⟩
theorem Ap.s2 (h:Ap X0 Xa X3 X5 done W) (h2:done 2 = false):Ap X0 Xa X3 X5 (Go.upd done 2) Xa:=by
 obtain ⟨-,h3,h5⟩:=h.at2 h2;refine ⟨fun p=>?_,fun p=>?_,fun p=>?_,?_⟩
 ·rw [upd_ne' (by decide),h3] at p;cases p
 ·rfl
 ·rw [upd_ne' (by decide),h5] at p;cases p
 ·rw [upd_ne' (by decide),h5,upd_ne' (by decide),h3,upd_same'];simp
theorem Ap.at3 (h:Ap X0 Xa X3 X5 done W) (h3:done 3 = false) (h2:done 2 = true):W = Xa /\ done 5 = false:=by
 have h5:done 5 = false:=by cases e:done 5;rfl;rw [h.l5 e] at h3;cases h3
 have:=h.w;rw [h5,h3,h2] at this;exact ⟨by simpa using this,h5⟩
theorem Ap.s3 (h:Ap X0 Xa X3 X5 done W) (h3:done 3 = false) (h0:done 0 = true) (h2:done 2 = true):Ap X0 Xa X3 X5 (Go.upd done 3) X3:=by
 obtain ⟨-,h5⟩:=h.at3 h3 h2;refine ⟨fun _=>?_,fun _=>?_,fun _=>?_,?_⟩
 ·rw [upd_ne' (by decide)];exact h0
 ·rw [upd_ne' (by decide)];exact h2
 ·rw [upd_same']
 ·rw [upd_ne' (by decide),h5,upd_same'];simp
theorem Ap.at5 (h:Ap X0 Xa X3 X5 done W) (h5:done 5 = false) (h3:done 3 = true):W = X3:=by
 have:=h.w;rw [h5,h3] at this;simpa using this
theorem Ap.s5 (h:Ap X0 Xa X3 X5 done W) (h3:done 3 = true):Ap X0 Xa X3 X5 (Go.upd done 5) X5:=by
 refine ⟨fun _=>?_,fun _=>?_,fun _=>?_,?_⟩
 ·rw [upd_ne' (by decide)];exact h.l0 h3
 ·rw [upd_ne' (by decide)];exact h.l2 h3
 ·rw [upd_ne' (by decide)];exact h3
 ·rw [upd_same'];simp
theorem Ap.any (h:Ap X0 Xa X3 X5 done W):W = X0 \/ W = Xa \/ W = X3 \/ W = X5:=by
 have:=h.w;cases e5:done 5 <;> cases e3:done 3 <;> cases e2:done 2 <;> simp [e5,e3,e2] at this <;> simp [this]
end
def MxI (w3:World) (g z nV n m:Nat) (V:Nat × Nat -> Nat) (r:Nat) (W:World):Prop :=
 ∃ mx,FrD w3 g (z + 6) [(z,160,#[.map (some g)]),(z + 1,68,#[.slice none 0 0]),(z + 2,67,#[.int .i64 (n:Nat),.int .i64 (m:Nat)]),(z + 3,3,#[.int .i64 (mx:Nat)]),(z + 4,3,#[.int .i64 (n:Nat)]),(z + 5,3,#[.int .i64 (m:Nat)])] [] W /\ MapP W g nV V /\ Sheet.MaxTo n m V r mx /\ mx <= 30
set_option maxRecDepth 100000 in
set_option maxHeartbeats 4000000 in
theorem mt_body1 (play:Int) (la lb:List (Int × Int)) (A B:Option Addr) (ca cb x g z z9 nV l:Nat) (V:Nat × Nat -> Nat) (w3 X:World) (a0 b0:Nat) (ha:a0 < la.length) (hb:b0 < lb.length) (hla:la.length <= 30) (hlb:lb.length <= 30) (hz:w3.heap.size = z) (hsm:V (a0,b0) <= 30)
  (hI:MxI w3 g z nV la.length lb.length V (a0 * lb.length + b0) X) (hz9:z + 6 + 2 <= z9) (hB:Blk X z9 67 #[.int .i64 (a0:Nat),.int .i64 (b0:Nat)]) (u15 u16 u17 u27 u41 u42 u43 u44 u45 u46 u47 u48 u49 u50 u51 u52 u53 u54 u55 u56 u57 u58 u59 u60 u61 u62 u63 u64 u65 u66 u67 u68 u69 u70 u71 u72:Value) :
  ((rfBody (Tryz.f28.body.getD .skip)).getD .skip).wpIn (Fence.wide.inRound l) (5 - 1 - 1) Tryz.prog (post2 (z + 6) (MxI w3 g z nV la.length lb.length V) (fun _ _=>False) (a0 * lb.length + b0 + 1) X) { tmps:=#[.slice A la.length ca,.slice B lb.length cb,.int .i64 play,undef,undef,undef,.slice none 0 0,.int .i64 0,.pointer (some ⟨x,0,none⟩),.int .i64 0,.pointer (some ⟨z,0,none⟩),.pointer (some ⟨z + 1,0,none⟩),.pointer (some ⟨z + 2,0,none⟩),.pointer (some ⟨z + 3,0,none⟩),.pointer (some ⟨z9,0,none⟩),u15,u16,u17,.tuple #[.pointer (some ⟨x,0,none⟩),.int .i64 0],.slice A la.length ca,.slice B lb.length cb,.int .i64 play,.tuple #[.pointer (some ⟨x,0,none⟩),.int .i64 0],.pointer (some ⟨x,0,none⟩),.int .i64 0,.int .i64 0,.bool false,u27,.pointer (some ⟨x,0,none⟩),.map (some g),.slice A la.length ca,.int .i64 (la.length:Nat),.slice B lb.length cb,.int .i64 (lb.length:Nat),.agg #[.int .i64 (la.length:Nat),.int .i64 (lb.length:Nat)],.pointer (some ⟨z + 2,0,none⟩),.int .i64 (la.length:Nat),.pointer (some ⟨z + 2,1,none⟩),.int .i64 (lb.length:Nat),.func (.func 111) #[] #[.pointer (some ⟨z + 4,0,none⟩),.pointer (some ⟨z + 5,0,none⟩)],.agg #[.int .i64 (a0:Nat),.int .i64 (b0:Nat)],u41,u42,u43,u44,u45,u46,u47,u48,u49,u50,u51,u52,u53,u54,u55,u56,u57,u58,u59,u60,u61,u62,u63,u64,u65,u66,u67,u68,u69,u70,u71,u72],defers:=[] } X:=by
 obtain ⟨mx,hF,hM,hX,hx30⟩:=hI;have HF:=Lib.hid hF;have HM:=Lib.hid hM;have HB:=Lib.hid hB;have HK2:Hid (SmallP (a0,b0)):=Lib.hid ⟨by show a0 < 32;omega,by show b0 < 32;omega⟩;have HLK2:Hid (∀ W,Aft X W -> (Instr.lookup 160 (.map (some g)) (.agg #[.int .i64 (a0:Nat),.int .i64 (b0:Nat)]) false).run Tryz.prog W = .ok (.int .i64 (V (a0,b0):Int)) W):=Lib.hid fun W h=>(HM.out.aft h).look HK2.out
 obtain ⟨x2,hx2⟩:∃ x2,V (a0,b0) = x2:=⟨_,rfl⟩;obtain ⟨my,hmy⟩:∃ my,max mx x2 = my:=⟨_,rfl⟩;have hmm:(if mx < x2 then (x2:Int) else (mx:Int)) = (my:Int):=by split <;> omega
 have HR:Hid (Sheet.MaxTo la.length lb.length V (a0 * lb.length + b0 + 1) my):=Lib.hid (hX.round ha hb (by rw [hx2];exact hmy));rw [hx2] at HLK2 hsm;have hmys:my <= 30:=by omega
 clear hF hM hX hB hx2 hmy;dsimp only [Tryz.f28,rfBody,Option.getD];refine wpIn_block ?_;refine wpIn_region_valsT (by kernel_rfl) (by kernel_rfl) 5 73 rfl (by kernel_rfl) (by kernel_rfl) (by kernel_rfl) [.int .i64 (mx:Nat),.map (some g),.agg #[.int .i64 (a0:Nat),.int .i64 (b0:Nat)],.int .i64 (x2:Nat),.int .i64 (my:Nat)] rfl (fun _ W=>Aft X W) (Aft.drew _) ?st1 ?fi1
 case st1 =>
  intro i o v ho hv
  match i,ho,hv with
  | 0,ho,hv =>
   cases ho;cases hv;refine .inl ⟨rfl,fun done a W hd hp hk hw K hK=>?_⟩;have e13:=hk.same 13 (by decide);exact op_val (by simp [go_sem,ev' e13,((HF.out.later hw).nth 3 rfl).cell 0]) (hK _ hw)
  | 1,ho,hv =>
   cases ho;cases hv;refine .inl ⟨rfl,fun done a W hd hp hk hw K hK=>?_⟩;have e10:=hk.same 10 (by decide);exact op_val (by simp [go_sem,ev' e10,((HF.out.later hw).nth 0 rfl).cell 0]) (hK _ hw)
  | 2,ho,hv =>
   cases ho;cases hv;refine .inl ⟨rfl,fun done a W hd hp hk hw K hK=>?_⟩;have e14:=hk.same 14 (by decide);exact op_val (by simp [go_sem,ev' e14,(HB.out.aft hw).cell 0,(HB.out.aft hw).cell 1]) (hK _ hw)
  | 3,ho,hv =>
   cases ho;cases hv;refine .inl ⟨rfl,fun done a W hd hp hk hw K hK=>?_⟩;have e42:=hk.at_ 1 _ 42 _ rfl (by decide) _ rfl rfl rfl;have e43:=hk.at_ 2 _ 43 _ rfl (by decide) _ rfl rfl rfl;exact op_val (by simp [go_sem,ev' e42,ev' e43,HLK2.out _ hw]) (hK _ hw)
  | 4,ho,hv =>
   cases ho;cases hv;refine .inl ⟨rfl,fun done a W hd hp hk hw K hK=>?_⟩;have e41:=hk.at_ 0 _ 41 _ rfl (by decide) _ rfl rfl rfl;have e44:=hk.at_ 3 _ 44 _ rfl (by decide) _ rfl rfl rfl;exact op_val (by simp [go_sem,ev' e41,ev' e44,hmm]) (hK _ hw)
  | _ + 5,_,hv=>cases hv
 intro done W hd hw;simp only [List.drop_succ_cons,List.drop_zero,List.zip_cons_cons,List.zip_nil_right,putAll];simp only [Act.put,List.setIfInBounds_toArray,List.set];clear hd;have F2:=HF.out.later hw;have c1:W.cell? ⟨z + 3,0,none⟩ = some (.int .i64 (mx:Nat)):=(F2.nth 3 rfl).cell 0;have c2:=(F2.nth 3 rfl).lt;have c3:=(F2.nth 3 rfl).frozen 0;go_wp2_with fail
 have hk2:=Kept2.of_aft (B:=z + 6) hw (by have:=HB.out.lt;omega);have hg2:W.grownBy (W.setCell ⟨z + 3,0,none⟩ (.int .i64 (my:Nat))) (some (z + 3)):=only_setCell (only_refl _ _) (p:=⟨z + 3,0,none⟩) (.inl rfl) _;refine ⟨hk2.trans (Kept2.of_grown hg2 (by have:=hk2.size;have:=HB.out.lt;omega) (fun r e=>by have e:z + 3 = r:=Option.some.inj e;left;omega)),my,F2.store (g:=z + 3) (t:=3) (cs:=#[.int .i64 (mx:Nat)]) (by simp) 0 (.int .i64 (my:Nat)) (by simp <;> omega),(HM.out.aft hw).kept hg2 (fun e=>by have e:g = z + 3:=Option.some.inj e;have:=HF.out.lt;omega),HR.out,hmys⟩
set_option maxRecDepth 100000 in
set_option maxHeartbeats 4000000 in
theorem mt_body2 (play:Int) (la lb:List (Int × Int)) (A B:Option Addr) (ca cb x g z z9 zb yb nn nV most l l1 l2:Nat) (V:Nat × Nat -> Nat) (L:List (Nat × Nat)) (v:Value) (Ds:List Nat) (w3 X:World) (a0 b0:Nat) (ha:a0 < l1) (hb:b0 < l2) (hl1:l1 <= 30) (hl2:l2 <= 30) (hz:w3.heap.size = z) (hzb:z + 6 <= zb) (hyb:yb < zb) (hLs:L.length <= 30)
  (hvo:∀ k,v.ownBlock = some k -> k < zb) (hI:MtI2 w3 g z nn yb nV V v L l1 l2 zb Ds (a0 * l2 + b0) X) (hz9:zb + 2 + 2 <= z9) (hB:Blk X z9 67 #[.int .i64 (a0:Nat),.int .i64 (b0:Nat)]) (u14 u17 u27 u40 u41 u42 u43 u44 u45 u49 u50 u57 u58 u59 u60 u61 u62 u63 u64 u65 u66 u67 u68 u69 u70 u71 u72:Value) :
  ((rfSnd (Tryz.f28.body.getD .skip)).getD .skip).wpIn (Fence.wide.inRound l) (5 - 1 - 1) Tryz.prog (post2 (zb + 2) (MtI2 w3 g z nn yb nV V v L l1 l2 zb Ds) (MtX w3 g z nn yb nV V L l1 l2 zb Ds) (a0 * l2 + b0 + 1) X) { tmps:=#[.slice A la.length ca,.slice B lb.length cb,.int .i64 play,undef,undef,undef,.slice none 0 0,.int .i64 0,.pointer (some ⟨x,0,none⟩),.int .i64 0,.pointer (some ⟨z,0,none⟩),.pointer (some ⟨z + 1,0,none⟩),.pointer (some ⟨z + 2,0,none⟩),.pointer (some ⟨z + 3,0,none⟩),u14,.pointer (some ⟨yb,0,none⟩),.pointer (some ⟨z9,0,none⟩),u17,.tuple #[.pointer (some ⟨x,0,none⟩),.int .i64 0],.slice A la.length ca,.slice B lb.length cb,.int .i64 play,.tuple #[.pointer (some ⟨x,0,none⟩),.int .i64 0],.pointer (some ⟨x,0,none⟩),.int .i64 0,.int .i64 0,.bool false,u27,.pointer (some ⟨x,0,none⟩),.map (some g),.slice A la.length ca,.int .i64 (la.length:Nat),.slice B lb.length cb,.int .i64 (lb.length:Nat),.agg #[.int .i64 (la.length:Nat),.int .i64 (lb.length:Nat)],.pointer (some ⟨z + 2,0,none⟩),.int .i64 (la.length:Nat),.pointer (some ⟨z + 2,1,none⟩),.int .i64 (lb.length:Nat),.func (.func 111) #[] #[.pointer (some ⟨z + 4,0,none⟩),.pointer (some ⟨z + 5,0,none⟩)],u40,u41,u42,u43,u44,u45,.int .i64 (most:Nat),.int .i64 (nn:Nat),.bool true,u49,u50,.pointer (some ⟨z + 2,0,none⟩),.int .i64 (l1:Nat),.pointer (some ⟨z + 2,1,none⟩),.int .i64 (l2:Nat),.func (.func 111) #[] #[.pointer (some ⟨zb,0,none⟩),.pointer (some ⟨zb + 1,0,none⟩)],.agg #[.int .i64 (a0:Nat),.int .i64 (b0:Nat)],u57,u58,u59,u60,u61,u62,u63,u64,u65,u66,u67,u68,u69,u70,u71,u72],defers:=[] } X:=by
 obtain ⟨hF,hB1,hB2,hN,hD⟩:=hI;have HF:=Lib.hid hF;have HB1:=Lib.hid hB1;have HB2:=Lib.hid hB2;have HN:=Lib.hid hN;have HD:=Lib.hid hD;have HB:=Lib.hid hB;have HVO:=Lib.hid hvo;have hgz:=hF.gz hz;have hyz:=hF.yz;have HK2:Hid (SmallP (a0,b0)):=Lib.hid ⟨by show a0 < 32;omega,by show b0 < 32;omega⟩;have HLK2:Hid (∀ W,Aft X W -> (Instr.lookup 160 (.map (some g)) (.agg #[.int .i64 (a0:Nat),.int .i64 (b0:Nat)]) false).run Tryz.prog W = .ok (.int .i64 (V (a0,b0):Int)) W):=Lib.hid fun W h=>(HF.out.map.aft h).look HK2.out
 obtain ⟨x2,hx2⟩:∃ x2,V (a0,b0) = x2:=⟨_,rfl⟩;rw [hx2] at HLK2;have HX2:=Lib.hid hx2;clear hF hB1 hB2 hN hD hB hx2 hvo;dsimp only [Tryz.f28,rfBody,rfSnd,Option.getD];refine wpIn_block ?_;refine wpIn_seq_k fun K1 H1=>?_
 refine wpIn_region_valsT (by kernel_rfl) (by kernel_rfl) 4 73 rfl (by kernel_rfl) (by kernel_rfl) (by kernel_rfl) [.map (some g),.agg #[.int .i64 (a0:Nat),.int .i64 (b0:Nat)],.int .i64 (x2:Nat),.int .i64 (nn:Nat)] rfl (fun _ W=>Aft X W) (Aft.drew _) ?st2 ?fi2
 case st2 =>
  intro i o v ho hv
  match i,ho,hv with
  | 0,ho,hv =>
   cases ho;cases hv;refine .inl ⟨rfl,fun done a W hd hp hk hw K hK=>?_⟩;have e10:=hk.same 10 (by decide);exact op_val (by simp [go_sem,ev' e10,((HF.out.fr.later hw).nth 0 rfl).cell 0]) (hK _ hw)
  | 1,ho,hv =>
   cases ho;cases hv;refine .inl ⟨rfl,fun done a W hd hp hk hw K hK=>?_⟩;have e16:=hk.same 16 (by decide);exact op_val (by simp [go_sem,ev' e16,(HB.out.aft hw).cell 0,(HB.out.aft hw).cell 1]) (hK _ hw)
  | 2,ho,hv =>
   cases ho;cases hv;refine .inl ⟨rfl,fun done a W hd hp hk hw K hK=>?_⟩;have e57:=hk.at_ 0 _ 57 _ rfl (by decide) _ rfl rfl rfl;have e58:=hk.at_ 1 _ 58 _ rfl (by decide) _ rfl rfl rfl;exact op_val (by simp [go_sem,ev' e57,ev' e58,HLK2.out _ hw]) (hK _ hw)
  | 3,ho,hv =>
   cases ho;cases hv;refine .inl ⟨rfl,fun done a W hd hp hk hw K hK=>?_⟩;have e15:=hk.same 15 (by decide);exact op_val (by simp [go_sem,ev' e15,(HF.out.box.aft hw).cell 0]) (hK _ hw)
  | _ + 4,_,hv=>cases hv
 intro done W hd hw;simp only [List.drop_succ_cons,List.drop_zero,List.zip_cons_cons,List.zip_nil_right,putAll];simp only [Act.put,List.setIfInBounds_toArray,List.set];clear hd;have HW:=Lib.hid hw;clear hw;by_cases hv:x2 = nn
 ·have t1:((x2:Int) == (nn:Int)) = true:=by rw [beq_iff_eq];omega
  go_wp2_with fail
  change K1 _ _;refine H1 _ _ ?_;clear H1 t1;refine wpIn_cond_true (by simp [Act.eval]) ?_;refine wpIn_seq_k fun K2 H2=>?_
  have HF1:=Lib.hid (HF.out.later HW.out.then_drew);obtain ⟨X0,hX0⟩:∃ X0,W.drew = X0:=⟨_,rfl⟩;have HA0:Hid (Aft X X0):=Lib.hid (hX0 ▸ HW.out.then_drew);rw [hX0] at HF1;obtain ⟨zc,hzc⟩:∃ zc,X0.heap.size = zc:=⟨_,rfl⟩;have hzc9:z9 < zc:=by rw [<- hzc];exact Nat.lt_of_lt_of_le HB.out.lt HA0.out.size
  obtain ⟨Xa,hXa⟩:∃ Xa,X0.alloc (.cells #[.int .i64 (a0:Nat),.int .i64 (b0:Nat)] 67) = Xa:=⟨_,rfl⟩;have HAa:Hid (Aft X0 Xa):=Lib.hid (hXa ▸ Aft.alloc X0 _);have HBa:Hid (Blk Xa zc 67 #[.int .i64 (a0:Nat),.int .i64 (b0:Nat)]):=Lib.hid (by rw [<- hXa,<- hzc];exact Blk.new X0 67 _);have HFa:=Lib.hid (HF1.out.later HAa.out);obtain ⟨Av,qv,cv,hvs,hqv⟩:=own_form HFa.out.own;obtain ⟨i0,z0,hi0,hz0,hz1,hz2,hz3⟩:=ty49.hi
  have hap:=fun ty=>run_append_own_at (P:=Tryz.prog) Xa (z + 6) 68 ty 67 i0 z0 2 16 ty49.ht hi0 hz0 hz1 hz2 hz3 (by decide) v L.length ((L.map castP).flatMap enc2) HFa.out.own ⟨zc,0,none⟩ 1 1 (enc2 (castP (a0,b0))) rfl (fun j u hj=>by
   rw [Addr.add_lit];have:=(HBa.out.cell j);rw [Nat.zero_add,this];simpa [enc2,castP] using hj) (fun u hu=>by simp [enc2,castP] at hu;rcases hu with rfl | rfl <;> rfl) (by unfold maxLen;omega) (by omega) (by have:=HFa.out.fr.size;omega)
  obtain ⟨v3,X3,hr3,ho3,hg3,-,hb3⟩:=hap 68;rw [hvs] at hr3;have HR3:=Lib.hid hr3;have HO3:Hid (X3.ownsRow (z + 6) 67 2 v3 (L ++ [(a0,b0)]).length (((L ++ [(a0,b0)]).map castP).flatMap enc2)):=Lib.hid (by simpa [List.flatMap_append] using ho3);obtain ⟨A3,q3,c3,hv3,hq3⟩:=own_form HO3.out;have hge3:∀ r,v.ownBlock = some r -> z + 6 <= r:=own_ge HFa.out.own
  have hv3o:∀ q,v3.ownBlock = some q -> q < zb \/ zb + 4 <= q:=fun q hq=>by
   rcases hb3 with e | e
   ·left;exact HVO.out q (e ▸ hq)
   ·right;rw [hq] at e;have e:q = Xa.heap.size:=Option.some.inj e;have:=HAa.out.size;omega
  have HV3:=Lib.hid hv3o;have HFR3:Hid (FrD w3 g (z + 6) [(z,160,#[.map (some g)]),(z + 1,68,#[v]),(z + 2,67,#[.int .i64 (l1:Nat),.int .i64 (l2:Nat)])] [] X3):=Lib.hid (by
   cases hob:v.ownBlock with
   | none=>rw [hob] at hg3;exact HFa.out.fr.grownN hg3
   | some r=>rw [hob] at hg3;exact HFa.out.fr.grown hg3 (.inr (hge3 r hob)))
  have HM3:Hid (MapP X3 g nV V):=Lib.hid (HFa.out.map.kept hg3 (fun e=>by have:=hge3 g e.symm;omega))
  have HY3:Hid (Blk X3 yb 3 #[.int .i64 (nn:Nat)]):=Lib.hid (HFa.out.box.grown hg3 (fun e=>by
   obtain ⟨cs,hc⟩:=own_block HFa.out.own e.symm;have h1:=HFa.out.box;unfold Blk at h1;rw [hc] at h1;cases h1))
  have HZ3:Hid (Blk X3 z9 67 #[.int .i64 (a0:Nat),.int .i64 (b0:Nat)]):=Lib.hid ((((HB.out.aft HA0.out).aft HAa.out)).grown hg3 (fun e=>by have:=HVO.out z9 e.symm;omega));have HD3:=Lib.hid (mk_keep (mk_aft HD.out (HA0.out.trans HAa.out)) hg3 (fun k e=>own_blk HFa.out.own e));have hkp3:Kept2 (zb + 2) X X3:=(Kept2.of_aft (HA0.out.trans HAa.out) (by have:=HB.out.lt;omega)).trans ⟨fun j h1 h2=>hg3.block j (by have:=(HA0.out.trans HAa.out).size;have:=HB.out.lt;omega) (fun e=>by have:=HVO.out j e.symm;omega),hg3.size⟩;clear hap ho3 hb3 hr3 hv3o;obtain ⟨X5,hX5⟩:∃ X5,X3.setCell ⟨z + 1,0,none⟩ v3 = X5:=⟨_,rfl⟩;have hg5:X3.grownBy X5 (some (z + 1)):=hX5 ▸ only_setCell (only_refl _ _) (p:=⟨z + 1,0,none⟩) (.inl rfl) _;have HFR5:Hid (FrD w3 g (z + 6) [(z,160,#[.map (some g)]),(z + 1,68,#[v3]),(z + 2,67,#[.int .i64 (l1:Nat),.int .i64 (l2:Nat)])] [] X5):=Lib.hid (hX5 ▸ HFR3.out.store (g:=z + 1) (t:=68) (cs:=#[v]) (by simp) 0 v3 (by simp <;> omega));have HZ5:Hid (Blk X5 z9 67 #[.int .i64 (a0:Nat),.int .i64 (b0:Nat)]):=Lib.hid (HZ3.out.grown hg5 (fun e=>by have e:z9 = z + 1:=Option.some.inj e;omega));have HQ:=Lib.hid HFR3.out;refine wpIn_region_valsT (by kernel_rfl) (by kernel_rfl) 6 73 rfl (by kernel_rfl) (by kernel_rfl) (by kernel_rfl) [v,.agg #[.int .i64 (a0:Nat),.int .i64 (b0:Nat)],.slice (some ⟨zc,0,none⟩) 1 1,v3,.agg #[.int .i64 (a0:Nat),.int .i64 (b0:Nat)],undef] rfl (Ap X0 Xa X3 X5) (by rw [hX0];exact Ap.start) ?st3 ?fi3
  case st3 =>
   intro i o v ho hv
   match i,ho,hv with
   | 0,ho,hv =>
    cases ho;cases hv;refine .inl ⟨rfl,fun done a W hd hp hk hw K hK=>?_⟩;have e11:=hk.same 11 (by decide);have c1:W.cell? ⟨z + 1,0,none⟩ = some v:=by (rcases hw.at0 hd with e | e <;> subst e;exact (HF1.out.fr.nth 1 rfl).cell 0;exact (HFa.out.fr.nth 1 rfl).cell 0)
    exact op_val (by rw [hvs] at c1 ⊢;simp [go_sem,ev' e11,c1]) (hK _ (hw.keep (by decide)))
   | 1,ho,hv =>
    cases ho;cases hv;refine .inl ⟨rfl,fun done a W hd hp hk hw K hK=>?_⟩;have e16:=hk.same 16 (by decide);have c1:Blk W z9 67 #[.int .i64 (a0:Nat),.int .i64 (b0:Nat)]:=by (rcases hw.any with e | e | e | e <;> subst e;exact HB.out.aft HA0.out;exact (HB.out.aft HA0.out).aft HAa.out;exact HZ3.out;exact HZ5.out)
    exact op_val (by simp [go_sem,ev' e16,c1.cell 0,c1.cell 1]) (hK _ (hw.keep (by decide)))
   | 2,ho,hv =>
    cases ho;cases hv;refine .inl ⟨rfl,fun done a W hd hp hk hw K hK=>?_⟩;have e63:=hk.at_ 1 _ 63 _ rfl (by decide) _ rfl rfl rfl;obtain ⟨e,-,-⟩:=hw.at2 hd;have hws:=hw.s2 hd;subst e;exact op_valW (v:=.slice (some ⟨zc,0,none⟩) 1 1) (w':=Xa) (by simp [go_sem,ev' e63,hzc,hXa]) (hK _ hws)
   | 3,ho,hv =>
    cases ho;cases hv;refine .inl ⟨rfl,fun done a W hd hp hk hw K hK=>?_⟩;have e62:=hk.at_ 0 _ 62 _ rfl (by decide) _ rfl rfl rfl;have e64:=hk.at_ 2 _ 64 _ rfl (by decide) _ rfl rfl rfl;have h2:done 2 = true:=hp 2 (by decide);have h0:done 0 = true:=hp 0 (by decide);obtain ⟨e,-⟩:=hw.at3 hd h2;have hws:=hw.s3 hd h0 h2;subst e;have hr:=HR3.out;rw [<- hvs] at hr;exact op_valW (v:=v3) (w':=X3) (exec_append rfl e62 e64 hr) (hK _ hws)
   | 4,ho,hv =>
    cases ho;cases hv;refine .inl ⟨rfl,fun done a W hd hp hk hw K hK=>?_⟩;have e16:=hk.same 16 (by decide);have c1:Blk W z9 67 #[.int .i64 (a0:Nat),.int .i64 (b0:Nat)]:=by (rcases hw.any with e | e | e | e <;> subst e;exact HB.out.aft HA0.out;exact (HB.out.aft HA0.out).aft HAa.out;exact HZ3.out;exact HZ5.out)
    exact op_val (by simp [go_sem,ev' e16,c1.cell 0,c1.cell 1]) (hK _ (hw.keep (by decide)))
   | 5,ho,hv =>
    cases ho;cases hv;refine .inl ⟨rfl,fun done a W hd hp hk hw K hK=>?_⟩;have e11:=hk.same 11 (by decide);have e65:=hk.at_ 3 _ 65 _ rfl (by decide) _ rfl rfl rfl;have h3:done 3 = true:=hp 3 (by decide);have e:=hw.at5 hd h3;have hws:=hw.s5 h3;subst e;have c1:W.cell? ⟨z + 1,0,none⟩ = some v:=(HQ.out.nth 1 rfl).cell 0;have c2:=(HQ.out.nth 1 rfl).frozen 0;have c3:=(HQ.out.nth 1 rfl).lt;exact op_skipW (w':=X5) (by rw [hvs] at c1;rw [hv3] at e65 hX5;simp [go_sem,ev' e11,ev' e65,c1,c2,c3,hX5]) (hK _ hws)
   | _ + 6,_,hv=>cases hv
  intro done W hd hw;simp only [List.drop_succ_cons,List.drop_zero,List.zip_cons_cons,List.zip_nil_right,putAll];simp only [Act.put,List.setIfInBounds_toArray,List.set];have e5:=hw.w;rw [hd 5 (by decide),if_pos rfl] at e5;have e6:=e5.symm;subst e6;clear hw hd e5;have c1:=(HFR5.out.nth 2 rfl).cell 0;have c2:=(HFR5.out.nth 2 rfl).cell 1;have c3:=(HFR5.out.nth 2 rfl).lt;have c4:=(HFR5.out.nth 2 rfl).frozen 0;have c5:=(HFR5.out.nth 2 rfl).frozen 1;simp only [List.getElem?_toArray,List.getElem?_cons_zero,List.getElem?_cons_succ] at c1 c2;go_wp2_with fail
  change K2 _ _;refine H2 _ _ ?_;clear H2;gi_wp2_with fail
  have hg6:X5.grownBy ((X5.setCell ⟨z + 2,0,none⟩ (.int .i64 (a0:Nat))).setCell ⟨z + 2,1,none⟩ (.int .i64 (b0:Nat))) (some (z + 2)):=only_setCell (only_setCell (only_refl _ _) (p:=⟨z + 2,0,none⟩) (.inl rfl) _) (p:=⟨z + 2,1,none⟩) (.inl rfl) _;have FR6:=(HFR5.out.store (g:=z + 2) (t:=67) (cs:=#[.int .i64 (l1:Nat),.int .i64 (l2:Nat)]) (by simp) 0 (.int .i64 (a0:Nat)) (bs':=[(z,160,#[.map (some g)]),(z + 1,68,#[v3]),(z + 2,67,#[.int .i64 (a0:Nat),.int .i64 (l2:Nat)])]) (by simp <;> omega)).store (g:=z + 2) (t:=67) (cs:=#[.int .i64 (a0:Nat),.int .i64 (l2:Nat)]) (by simp) 1 (.int .i64 (b0:Nat)) (bs':=[(z,160,#[.map (some g)]),(z + 1,68,#[v3]),(z + 2,67,#[.int .i64 (a0:Nat),.int .i64 (b0:Nat)])]) (by simp <;> omega);generalize (X5.setCell ⟨z + 2,0,none⟩ (.int .i64 (a0:Nat))).setCell ⟨z + 2,1,none⟩ (.int .i64 (b0:Nat)) = X6 at *;have hb5:∀ r,some r = some (z + 1) -> r < z + 6:=fun r e=>by have e:r = z + 1:=Option.some.inj e;omega
  have hb6:∀ r,some r = some (z + 2) -> r < z + 6:=fun r e=>by have e:r = z + 2:=Option.some.inj e;omega
  have hkp5:Kept2 (zb + 2) X3 X6:=(Kept2.of_grown hg5 (by have:=hkp3.size;have:=HB.out.lt;omega) (fun r e=>by left;have:=hb5 r e.symm;omega)).trans (Kept2.of_grown hg6 (by have:=hkp3.size;have:=hg5.size;have:=HB.out.lt;omega) (fun r e=>by left;have:=hb6 r e.symm;omega));have hge:=own_ge HO3.out;have hon:=fun (r:Nat) (h:r < z + 6)=>own_not (v:=v3) hge h
  refine ⟨hkp3.trans hkp5,rfl,a0,b0,v3,ha,hb,by rw [HX2.out,hv],⟨FR6,(HO3.out.kept hg5 (hon _ (by omega))).kept hg6 (hon _ (by omega)),(HM3.out.kept hg5 (fun e=>by have e:g = z + 1:=Option.some.inj e;omega)).kept hg6 (fun e=>by have e:g = z + 2:=Option.some.inj e;omega),(HY3.out.grown hg5 (fun e=>by have:=hb5 yb e;omega)).grown hg6 (fun e=>by have:=hb6 yb e;omega),hyz⟩,HV3.out,mk_keep (mk_keep HD3.out hg5 (fun k e=>by have e:z + 1 = k:=Option.some.inj e;subst e;exact ⟨_,_,HFR3.out.nth 1 rfl⟩)) hg6 (fun k e=>by have e:z + 2 = k:=Option.some.inj e;subst e;exact ⟨_,_,HFR5.out.nth 2 rfl⟩)⟩
 ·have t1:((x2:Int) == (nn:Int)) = false:=by rw [beq_eq_false_iff_ne];omega
  go_wp2_with fail
  change K1 _ _;refine H1 _ _ ?_;clear H1;refine wpIn_cond_false (by simp [Act.eval]) ?_;refine wpIn_skip ?_;exact ⟨Kept2.of_aft HW.out (by have:=HB.out.lt;omega),HF.out.later HW.out,HB1.out.aft HW.out,HB2.out.aft HW.out,HN.out.round hb (by rw [HX2.out];exact hv),mk_aft HD.out HW.out⟩
end Go.Proofs
end
section
/- Walks: Match. -/
namespace Go.Proofs
open Go.RowKit
attribute [local go_sem] Oper.semAt_some
set_option maxRecDepth 100000 in
set_option maxHeartbeats 4000000 in
theorem match_good (la lb:List (Int × Int)) (play:Int) (A B:Option Addr) (ca cb:Nat) (w:World) (hA:Prs w A la) (hB:Prs w B lb) (he:edgesE la lb play = 0) :
  Calls Tryz.prog 28 #[.slice A la.length ca,.slice B lb.length cb,.int .i64 play] w (MatchR play la lb w):=by
 obtain ⟨hla,hlb,-,-,-,-,-⟩:=edgesE_ok he;have HE:=Lib.hid he;have HQ:=Lib.hid (asked_any la lb play A B ca cb w hA hB);have HLV:=Lib.hid (fun x w0 w1 (h:EdgesAt w0 w1 x la lb play A B ca cb)=>levels_any play la lb A B ca cb x w0 w1 h he);clear hA hB he;refine (callsIn_wide (n:=5)).1 ?_;refine callsIn_of_wp_marks Tryz.func28 rfl trivial ?_ rfl;simp only [Tryz.ntmps28,List.size_toArray,List.length_cons,List.length_nil,Nat.reduceAdd,Nat.reduceSub,Array.replicate_succ,Array.replicate_zero,List.push_toArray,List.append_toArray,List.nil_append,List.cons_append];refine wpIn_wide.2 ?_;go_upto_region 4 with (go_at_call 80;refine HQ.out.mono ?_;rintro e w2 (⟨h0,-⟩ | ⟨-,x,rfl,h2⟩);exact absurd HE.out h0)
 have HX:=Lib.hid h2;clear HQ h2;go_upto_region 5 with (go_at_call 81;refine (HLV.out _ _ _ HX.out).mono ?_;rintro e w3 ⟨g,n,V,rfl,hg,hm,hl,hsm,ha⟩)
 obtain ⟨z,hz⟩:∃ z,w3.heap.size = z:=⟨_,rfl⟩;have hgz:g < z:=by have:=hm.lt;omega
 have hxz:w.heap.size <= g:=Nat.le_trans HX.out.2.2.1.size hg;have HA3:=Lib.hid (HX.out.2.2.1.trans ha);have HSM:=Lib.hid hsm;have HL:=Lib.hid hl;have F0:=(((((((FrD.start w3 (d:=g) (by omega)).alloc rfl 160 #[.map (some g)]).alloc (by simp) 68 #[.slice none 0 0]).alloc (by simp) 67 #[.int .i64 (la.length:Nat),.int .i64 (lb.length:Nat)]).alloc (by simp) 3 #[.int .i64 ((0:Nat):Int)]).alloc (by simp) 3 #[.int .i64 (la.length:Nat)]).alloc (by simp) 3 #[.int .i64 (lb.length:Nat)]);simp only [List.nil_append,List.cons_append] at F0;go_upto_region 8 with fail
 rw [hz]
 try rw [show z + 1 + 1 + 1 = z + 3 from rfl]
 try rw [show z + 1 + 1 = z + 2 from rfl]
 obtain ⟨W0,hW0⟩:∃ W0,((w3.alloc (.cells #[.map (some g)] 160)).alloc (.cells #[.slice none 0 0] 68)).alloc (.cells #[.int .i64 (la.length:Nat),.int .i64 (lb.length:Nat)] 67) = W0:=⟨_,rfl⟩;rw [hW0] at F0;obtain ⟨W1,hW1⟩:∃ W1,W0.alloc (.cells #[.int .i64 0] 3) = W1:=⟨_,rfl⟩;have e0:(.int .i64 ((0:Nat):Int):Value) = .int .i64 0:=rfl;rw [e0,hW1] at F0;clear e0;obtain ⟨W2,hW2⟩:∃ W2,(W1.alloc (.cells #[.int .i64 (la.length:Nat)] 3)).alloc (.cells #[.int .i64 (lb.length:Nat)] 3) = W2:=⟨_,rfl⟩;rw [hW2,hz] at F0;have hs0:W0.heap.size = z + 3:=by rw [<- hW0];simp [hz]
 have hs1:W1.heap.size = z + 4:=by rw [<- hW1,World.size_alloc,hs0]
 have hs2:W2.heap.size = z + 6:=by rw [<- hW2];simp [hs1]
 have hA1:Aft w3 W1:=hW1 ▸ (hW0 ▸ ((Aft.alloc w3 _).then_alloc _).then_alloc _).then_alloc _;have HMx:Hid (MxI w3 g z n la.length lb.length V 0 W2):=Lib.hid ⟨0,F0,hm.aft (hA1.trans (hW2 ▸ (Aft.alloc W1 _).then_alloc _)),Sheet.MaxTo.start,Nat.zero_le _⟩;have HB1:Hid (Blk W1 (z + 2) 67 #[.int .i64 (la.length:Nat),.int .i64 (lb.length:Nat)]):=Lib.hid (by
  rw [<- hW1,<- hW0];have h2:=Blk.new ((w3.alloc (.cells #[.map (some g)] 160)).alloc (.cells #[.slice none 0 0] 68)) 67 #[.int .i64 (la.length:Nat),.int .i64 (lb.length:Nat)];simp only [World.size_alloc,hz] at h2;exact h2.alloc _)
 clear F0 hA1 hm hl hsm HX ha hg HLV;rw [hW0,hW1];have c0:=HB1.out.cell 0;have c1:=HB1.out.cell 1;have c2:=HB1.out.lt;simp only [List.getElem?_toArray,List.getElem?_cons_zero,List.getElem?_cons_succ] at c0 c1;go_upto_block 0 with (go_at_call 82;refine (pairs_any la.length lb.length _).mono ?_;rintro e w' ⟨rfl,rfl⟩)
 try rw [hs1]
 try rw [hW2]
 clear c0 c1 c2 HB1 hW0 hW1 hW2
 try rw [show z + 4 + 1 = z + 5 from rfl]
 refine wp_block ?_;refine (wpIn_wide (n:=5)).1 ?_;refine wpIn_pairs (b1:=z + 4) (b2:=z + 5) (N:=la.length) (M:=lb.length) (by omega) (by omega) rfl (MxI w3 g z n la.length lb.length V) (fun _ _=>False)
  (by
   rintro r X X' b ⟨mx,h1,h2,h3⟩ hg hb1 _;rw [hs2] at hb1;exact ⟨mx,h1.grown hg (.inr hb1),h2.kept hg (fun e=>by have e:g = b:=Option.some.inj e;omega),h3⟩)
  (fun _ _ _ _ _ h=>h.elim)
  (fun r X X' ⟨mx,h1,h2,h3⟩ ha'=>⟨mx,h1.later ha',h2.aft ha',h3⟩)
  (fun r X ⟨mx,h1,h2,h3⟩=>⟨(h1.nth 4 rfl).cell 0,(h1.nth 5 rfl).cell 0,(h1.nth 4 rfl).lt,(h1.nth 5 rfl).lt⟩) HMx.out
  (fun z9 a0 b0=>{ tmps:=#[.slice A la.length ca,.slice B lb.length cb,.int .i64 play,undef,undef,undef,.slice none 0 0,.int .i64 0,.pointer (some ⟨x,0,none⟩),.int .i64 0,.pointer (some ⟨z,0,none⟩),.pointer (some ⟨z + 1,0,none⟩),.pointer (some ⟨z + 2,0,none⟩),.pointer (some ⟨z + 3,0,none⟩),.pointer (some ⟨z9,0,none⟩),undef,undef,undef,.tuple #[.pointer (some ⟨x,0,none⟩),.int .i64 0],.slice A la.length ca,.slice B lb.length cb,.int .i64 play,.tuple #[.pointer (some ⟨x,0,none⟩),.int .i64 0],.pointer (some ⟨x,0,none⟩),.int .i64 0,.int .i64 0,.bool false,undef,.pointer (some ⟨x,0,none⟩),.map (some g),.slice A la.length ca,.int .i64 (la.length:Nat),.slice B lb.length cb,.int .i64 (lb.length:Nat),.agg #[.int .i64 (la.length:Nat),.int .i64 (lb.length:Nat)],.pointer (some ⟨z + 2,0,none⟩),.int .i64 (la.length:Nat),.pointer (some ⟨z + 2,1,none⟩),.int .i64 (lb.length:Nat),.func (.func 111) #[] #[.pointer (some ⟨z + 4,0,none⟩),.pointer (some ⟨z + 5,0,none⟩)],.agg #[.int .i64 (a0:Nat),.int .i64 (b0:Nat)],undef,undef,undef,undef,undef,undef,undef,undef,undef,undef,undef,undef,undef,undef,undef,undef,undef,undef,undef,undef,undef,undef,undef,undef,undef,undef,undef,undef,undef,undef,undef,undef],defers:=[] }) ?assign ?body ?done (fun _ _ _ _ h=>h.elim)
 case assign =>
  intro l i j X K9 hK9;gi_wp2_with fail
  exact hK9
 case body =>
  intro l a0 b0 z9 X ha hb hI hz9 _ hB _ _;rw [hs2] at hz9 ⊢;exact mt_body1 play la lb A B ca cb x g z z9 n l V w3 X a0 b0 ha hb hla hlb hz (by have:=HSM.out a0 b0 ha hb;omega) hI hz9 hB undef undef undef undef undef undef undef undef undef undef undef undef undef undef undef undef undef undef undef undef undef undef undef undef undef undef undef undef undef undef undef undef undef undef undef undef
 case done =>
  intro D9 X hDD hI hd;obtain ⟨most,hF,hM,hX,h30⟩:=hI;rw [hs2] at hDD;have HF:=Lib.hid hF;have HM:=Lib.hid hM;have HLG:Hid (Sheet.Long (sameB play la lb) la.length lb.length 0 0 most):=Lib.hid (HL.out.long (fun i k hi hk=>hX.le i k hi hk (Sheet.idx_lt hi hk)) hX.has);have HBK:Hid (Sheet.Back (sameB play la lb) la.length lb.length most V most [] la.length lb.length):=Lib.hid (Sheet.Back.start hX.has)
  have HD9:Hid (∀ D ∈ [D9],w3.heap.size <= D /\ X.heap[D]? = some (.deferred (some []))):=Lib.hid fun D hD=>by
   rw [List.mem_singleton] at hD;subst hD;exact ⟨by omega,hd⟩
  have c1:X.cell? ⟨z + 3,0,none⟩ = some (.int .i64 (most:Nat)):=(hF.nth 3 rfl).cell 0;have c2:=(hF.nth 3 rfl).lt;clear hF hM hX hd HMx;go_upto_region 11 with fail
  obtain ⟨y0,hy0⟩:∃ y0,X.heap.size = y0:=⟨_,rfl⟩;obtain ⟨X1,hX1⟩:∃ X1,X.alloc (.cells #[.int .i64 (most:Nat)] 3) = X1:=⟨_,rfl⟩;have hA1:Aft X X1:=hX1 ▸ Aft.alloc X _;have HJ0:Hid (MtF w3 g z most y0 n V (.slice none 0 0) [] la.length lb.length X1):=Lib.hid ⟨(HF.out.sub (by simp)).later hA1,World.ownsRow_nil _ _ 67 2,HM.out.aft hA1,by rw [<- hX1,<- hy0];exact Blk.new X 3 _,by have:=HF.out.size;omega⟩;have HD0:=Lib.hid (mk_aft HD9.out hA1);clear hA1 HD9 HM HF;go_upto_block 2 with fail
  try rw [hX1]
  try rw [hy0]
  clear hX1 hy0 c1 c2 hDD;refine wp_block ?_;obtain ⟨J,hJ⟩:∃ J:Act -> World -> Prop,J = fun a9 W=>∃ (u14 u16 u17 u27 u40 u41 u42 u43 u44 u45 u47 u48 u49 u50 u51 u52 u53 u54 u55 u56 u57 u58 u59 u60 u61 u62 u63 u64 u65 u66 u67 u68 u69 u70 u71 u72 v15:Value) (yb nn l1 l2:Nat) (L:List (Nat × Nat)) (v:Value) (Ds:List Nat),a9 = { tmps:=#[.slice A la.length ca,.slice B lb.length cb,.int .i64 play,undef,undef,undef,.slice none 0 0,.int .i64 0,.pointer (some ⟨x,0,none⟩),.int .i64 0,.pointer (some ⟨z,0,none⟩),.pointer (some ⟨z + 1,0,none⟩),.pointer (some ⟨z + 2,0,none⟩),.pointer (some ⟨z + 3,0,none⟩),u14,v15,u16,u17,.tuple #[.pointer (some ⟨x,0,none⟩),.int .i64 0],.slice A la.length ca,.slice B lb.length cb,.int .i64 play,.tuple #[.pointer (some ⟨x,0,none⟩),.int .i64 0],.pointer (some ⟨x,0,none⟩),.int .i64 0,.int .i64 0,.bool false,u27,.pointer (some ⟨x,0,none⟩),.map (some g),.slice A la.length ca,.int .i64 (la.length:Nat),.slice B lb.length cb,.int .i64 (lb.length:Nat),.agg #[.int .i64 (la.length:Nat),.int .i64 (lb.length:Nat)],.pointer (some ⟨z + 2,0,none⟩),.int .i64 (la.length:Nat),.pointer (some ⟨z + 2,1,none⟩),.int .i64 (lb.length:Nat),.func (.func 111) #[] #[.pointer (some ⟨z + 4,0,none⟩),.pointer (some ⟨z + 5,0,none⟩)],u40,u41,u42,u43,u44,u45,.int .i64 (most:Nat),u47,u48,u49,u50,u51,u52,u53,u54,u55,u56,u57,u58,u59,u60,u61,u62,u63,u64,u65,u66,u67,u68,u69,u70,u71,u72],defers:=Ds.map mark } /\ v15 = .pointer (some ⟨yb,0,none⟩) /\ MtF w3 g z nn yb n V v L l1 l2 W /\ Sheet.Back (sameB play la lb) la.length lb.length most V nn L l1 l2 /\ (∀ D ∈ Ds,w3.heap.size <= D /\ W.heap[D]? = some (.deferred (some []))) /\ Ds.Nodup:=⟨_,rfl⟩
  obtain ⟨mu,hmu⟩:∃ mu:Act -> World -> Nat,mu = fun a9 W=>(intOf (match a9.tmps.getD 15 undef with | .pointer (some p)=>(W.cell? p).getD undef | _=>undef)).toNat:=⟨_,rfl⟩
  refine wp_loop J mu (by rw [hJ];exact ⟨_,_,_,_,_,_,_,_,_,_,_,_,_,_,_,_,_,_,_,_,_,_,_,_,_,_,_,_,_,_,_,_,_,_,_,_,_,y0,most,la.length,lb.length,[],.slice none 0 0,[D9],rfl,rfl,HJ0.out,HBK.out,HD0.out,List.nodup_cons.2 ⟨by simp,List.nodup_nil⟩⟩) ?_;intro a9 wr hrel;rw [hJ] at hrel;have HJ:=Lib.hid hJ;have HMU:=Lib.hid hmu;clear hJ hmu HJ0 HBK HD0;obtain ⟨u14,u16,u17,u27,u40,u41,u42,u43,u44,u45,u47,u48,u49,u50,u51,u52,u53,u54,u55,u56,u57,u58,u59,u60,u61,u62,u63,u64,u65,u66,u67,u68,u69,u70,u71,u72,v15,yb,nn,l1,l2,L,v,Ds,rfl,rfl,hf,hbk,hds,hnd⟩:=hrel;have HF:=Lib.hid hf;have HBK:=Lib.hid hbk;have HDS:=Lib.hid hds;have HND:=Lib.hid hnd;have hlen:=hbk.len;have hl1:=hbk.an;have hl2:=hbk.bm;have y1:wr.cell? ⟨yb,0,none⟩ = some (.int .i64 (nn:Nat)):=hf.box.cell 0;have y2:=hf.box.lt;have hyz:=hf.yz;clear hf hbk hds hnd;by_cases hnn:0 < nn
  ·have t1:decide (0 < nn) = true:=by simpa using hnn
   have c1:=(HF.out.fr.nth 2 rfl).cell 0;have c2:=(HF.out.fr.nth 2 rfl).cell 1;have c3:=(HF.out.fr.nth 2 rfl).lt;simp only [List.getElem?_toArray,List.getElem?_cons_zero,List.getElem?_cons_succ] at c1 c2;obtain ⟨zb,hzb⟩:∃ zb,wr.heap.size = zb:=⟨_,rfl⟩;have HVO:Hid (∀ k,v.ownBlock = some k -> k < zb):=Lib.hid fun k hk=>hzb ▸ (HF.out.own.lt k hk).2
   have HDL:Hid (∀ D ∈ Ds,D < zb):=Lib.hid fun D hD=>hzb ▸ (Array.getElem?_eq_some_iff.1 (HDS.out D hD).2).1
   have hyb:yb < zb:=by omega
   have hzzb:z + 6 <= zb:=by have:=HF.out.fr.size;omega
   obtain ⟨WA,hWA⟩:∃ WA,(wr.alloc (.cells #[.int .i64 (l1:Nat)] 3)).alloc (.cells #[.int .i64 (l2:Nat)] 3) = WA:=⟨_,rfl⟩;have hAA:Aft wr WA:=hWA ▸ (Aft.alloc wr _).then_alloc _;have hsA:WA.heap.size = zb + 2:=by rw [<- hWA];simp [hzb]
   have HIA:Hid (MtI2 w3 g z nn yb n V v L l1 l2 zb Ds 0 WA):=Lib.hid ⟨HF.out.later hAA,by rw [<- hWA,<- hzb];exact (Blk.new wr 3 _).alloc _,by
    rw [<- hWA,<- hzb];have:=Blk.new (wr.alloc (.cells #[.int .i64 (l1:Nat)] 3)) 3 #[.int .i64 (l2:Nat)];rw [World.size_alloc] at this;exact this,fun i k _ _ h=>absurd h (Nat.not_lt_zero _),mk_aft HDS.out hAA⟩
   clear hAA;go_upto_block 4 with (go_at_call 82;refine (pairs_any l1 l2 _).mono ?_;rintro e w' ⟨rfl,rfl⟩)
   try rw [hWA]
   try rw [hzb]
   clear hWA c1 c2 c3 y1 y2 t1;refine wp_block ?_;refine (wpIn_wide (n:=5)).1 ?_;refine wpIn_pairs (b1:=zb) (b2:=zb + 1) (N:=l1) (M:=l2) (by omega) (by omega) rfl (MtI2 w3 g z nn yb n V v L l1 l2 zb Ds) (MtX w3 g z nn yb n V L l1 l2 zb Ds)
    (by
     rintro r X X' b ⟨h1,h2,h3,h4,h5⟩ hg hb1 hb2;rw [hsA] at hb1 hb2;exact ⟨h1.grown hz hg (by omega) (by omega) (fun e=>by have:=HVO.out b e;omega),h2.grown hg (fun e=>by have e:zb = b:=Option.some.inj e;omega),h3.grown hg (fun e=>by have e:zb + 1 = b:=Option.some.inj e;omega),h4,fun D hD=>⟨(h5 D hD).1,(hg.block D (Array.getElem?_eq_some_iff.1 (h5 D hD).2).1 (fun e=>by have e:D = b:=Option.some.inj e;have:=HDL.out D hD;omega)).trans (h5 D hD).2⟩⟩)
    (by
     rintro c _ X X' b ⟨rfl,i,k,v',h1,h2,h3,h4,h5,h6⟩ hg hb1 hb2;rw [hsA] at hb1 hb2;exact ⟨rfl,i,k,v',h1,h2,h3,h4.grown hz hg (by omega) (by omega) (fun e=>by have:=h5 b e;omega),h5,fun D hD=>⟨(h6 D hD).1,(hg.block D (Array.getElem?_eq_some_iff.1 (h6 D hD).2).1 (fun e=>by have e:D = b:=Option.some.inj e;have:=HDL.out D hD;omega)).trans (h6 D hD).2⟩⟩)
    (fun r X X' ⟨h1,h2,h3,h4,h5⟩ ha'=>⟨h1.later ha',h2.aft ha',h3.aft ha',h4,mk_aft h5 ha'⟩)
    (fun r X ⟨h1,h2,h3,h4,h5⟩=>⟨h2.cell 0,h3.cell 0,h2.lt,h3.lt⟩) HIA.out
    (fun z9 a0 b0=>{ tmps:=#[.slice A la.length ca,.slice B lb.length cb,.int .i64 play,undef,undef,undef,.slice none 0 0,.int .i64 0,.pointer (some ⟨x,0,none⟩),.int .i64 0,.pointer (some ⟨z,0,none⟩),.pointer (some ⟨z + 1,0,none⟩),.pointer (some ⟨z + 2,0,none⟩),.pointer (some ⟨z + 3,0,none⟩),u14,.pointer (some ⟨yb,0,none⟩),.pointer (some ⟨z9,0,none⟩),u17,.tuple #[.pointer (some ⟨x,0,none⟩),.int .i64 0],.slice A la.length ca,.slice B lb.length cb,.int .i64 play,.tuple #[.pointer (some ⟨x,0,none⟩),.int .i64 0],.pointer (some ⟨x,0,none⟩),.int .i64 0,.int .i64 0,.bool false,u27,.pointer (some ⟨x,0,none⟩),.map (some g),.slice A la.length ca,.int .i64 (la.length:Nat),.slice B lb.length cb,.int .i64 (lb.length:Nat),.agg #[.int .i64 (la.length:Nat),.int .i64 (lb.length:Nat)],.pointer (some ⟨z + 2,0,none⟩),.int .i64 (la.length:Nat),.pointer (some ⟨z + 2,1,none⟩),.int .i64 (lb.length:Nat),.func (.func 111) #[] #[.pointer (some ⟨z + 4,0,none⟩),.pointer (some ⟨z + 5,0,none⟩)],u40,u41,u42,u43,u44,u45,.int .i64 (most:Nat),.int .i64 (nn:Nat),.bool true,u49,u50,.pointer (some ⟨z + 2,0,none⟩),.int .i64 (l1:Nat),.pointer (some ⟨z + 2,1,none⟩),.int .i64 (l2:Nat),.func (.func 111) #[] #[.pointer (some ⟨zb,0,none⟩),.pointer (some ⟨zb + 1,0,none⟩)],.agg #[.int .i64 (a0:Nat),.int .i64 (b0:Nat)],u57,u58,u59,u60,u61,u62,u63,u64,u65,u66,u67,u68,u69,u70,u71,u72],defers:=[] }) ?assign ?body ?done ?stop
   case assign =>
    intro l i j X K9 hK9;gi_wp2_with fail
    exact hK9
   case body =>
    intro l a0 b0 z9 X ha hb hI hz9 _ hB _ _;rw [hsA] at hz9 ⊢;exact mt_body2 play la lb A B ca cb x g z z9 zb yb nn n most l l1 l2 V L v Ds w3 X a0 b0 ha hb (by omega) (by omega) hz hzzb hyb (by have:=Sheet.Back.few HBK.out;omega) HVO.out hI hz9 hB _ _ _ _ _ _ _ _ _ _ _ _ _ _ _ _ _ _ _ _ _ _ _ _ _ _ _
   case done =>
    intro D8 X8 hDD hI hd;exfalso;rcases HBK.out.next with e | ⟨i,k,h1,h2,h3⟩
    ·omega
    ·exact hI.2.2.2.1.not h1 h2 h3
   case stop =>
    intro D8 c X8 hDD hI hd;obtain ⟨rfl,i,k,v',h1,h2,h3,h4,h5,h6⟩:=hI;rw [hsA] at hDD;have HB2:=Lib.hid (HBK.out.step HL.out hnn h1 h2 h3);have HF4:=Lib.hid h4
    have HD4:Hid (∀ D ∈ D8 :: Ds,w3.heap.size <= D /\ X8.heap[D]? = some (.deferred (some []))):=Lib.hid fun D hD=>by
     rcases List.mem_cons.1 hD with rfl | hD
     ·exact ⟨by omega,hd⟩
     ·exact h6 D hD
    have HN4:=Lib.hid (List.nodup_cons.2 ⟨fun h=>by have:=HDL.out D8 h;omega,HND.out⟩);have y1:X8.cell? ⟨yb,0,none⟩ = some (.int .i64 (nn:Nat)):=h4.box.cell 0;have y2:=h4.box.lt;obtain ⟨y8,hy8⟩:∃ y8,X8.heap.size = y8:=⟨_,rfl⟩;have hzy8:z + 6 <= y8:=by have:=h4.fr.size;omega
    have HVL:Hid (∀ q,v'.ownBlock = some q -> q < y8):=Lib.hid fun q hq=>hy8 ▸ (h4.own.lt q hq).2
    clear h1 h2 h3 h4 h5 h6 hd;refine (wpIn_wide (n:=5)).2 ?_;go_upto_region 13 with fail
    try rw [hy8]
    obtain ⟨X9,hX9⟩:∃ X9,X8.alloc (.cells #[.int .i64 (nn:Nat)] 3) = X9:=⟨_,rfl⟩;have hA9:Aft X8 X9:=hX9 ▸ Aft.alloc X8 _;have HB9:Hid (Blk X9 y8 3 #[.int .i64 (nn:Nat)]):=Lib.hid (by rw [<- hX9,<- hy8];exact Blk.new X8 3 _);have HF9:=Lib.hid (HF4.out.later hA9);have HD9:=Lib.hid (mk_aft HD4.out hA9)
    try rw [hX9]
    clear hA9 hX9 hy8 y1 y2;have y1:X9.cell? ⟨y8,0,none⟩ = some (.int .i64 (nn:Nat)):=HB9.out.cell 0;have y2:=HB9.out.lt;have y3:=HB9.out.frozen 0;go_wp2_with fail
    have hg9:X9.grownBy (X9.setCell ⟨y8,0,none⟩ (.int .i64 ((nn:Int) - 1))) (some y8):=only_setCell (only_refl _ _) (p:=⟨y8,0,none⟩) (.inl rfl) _;have B9:=HB9.out.store 0 (.int .i64 ((nn:Int) - 1));generalize X9.setCell ⟨y8,0,none⟩ (.int .i64 ((nn:Int) - 1)) = X10 at *;have hn1:(nn:Int) - 1 = ((nn - 1:Nat):Int):=by omega
    rw [hn1] at B9;have B9:Blk X10 y8 3 #[.int .i64 ((nn - 1:Nat):Int)]:=B9;refine And.intro ?_ ?_
    ·rw [HJ.out];exact ⟨_,_,_,_,_,_,_,_,_,_,_,_,_,_,_,_,_,_,_,_,_,_,_,_,_,_,_,_,_,_,_,_,_,_,_,_,_,y8,nn - 1,i,k,L ++ [(i,k)],v',D8 :: Ds,rfl,rfl,⟨HF9.out.fr.grown hg9 (.inr (by omega)),HF9.out.own.kept hg9 (.inr fun e=>by have:=HVL.out y8 e;omega),HF9.out.map.kept hg9 (fun e=>by have e:g = y8:=Option.some.inj e;omega),B9,by omega⟩,HB2.out,mk_keep HD9.out hg9 (fun q e=>by have e:y8 = q:=Option.some.inj e;subst e;exact ⟨_,_,HB9.out⟩),HN4.out⟩
    ·rw [HMU.out];have e1:X10.cell? ⟨y8,0,none⟩ = some (.int .i64 ((nn - 1:Nat):Int)):=B9.cell 0;have e2:wr.cell? ⟨yb,0,none⟩ = some (.int .i64 (nn:Nat)):=HF.out.box.cell 0;show (intOf ((X10.cell? ⟨y8,0,none⟩).getD undef)).toNat < (intOf ((wr.cell? ⟨yb,0,none⟩).getD undef)).toNat;rw [e1,e2];simp [intOf];omega
  ·have t1:decide (0 < nn) = false:=by simpa using hnn
   obtain rfl:nn = 0:=by omega
   have hLn:=Sheet.Back.few HBK.out;have hcl:(L.map castP).length = L.length:=List.length_map _;have hown:=HF.out.own;rw [<- hcl] at hown;obtain ⟨Av,cv,rfl,hcv,hpv,-⟩:=own_flat (enc:=enc2) (fun _=>rfl) hown (by omega);have HCL:=Lib.hid (clonePair Av (L.map castP) cv wr hpv);have c1:wr.cell? ⟨z + 1,0,none⟩ = some (.slice Av (L.map castP).length cv):=(HF.out.fr.nth 1 rfl).cell 0;have c2:=(HF.out.fr.nth 1 rfl).lt;have hcl':=Lib.hid hcl;rw [hcl] at c1 HCL;clear hcl hown hpv hnn hlen;(repeat (first | go_big_skip | go_big_want | go_big_move | go_big_op | go_step | go_upon | go_back));clear y1 y2 t1;refine HCL.out.mono ?_;rintro e w4 ⟨v4,rfl,ho4,ha4⟩;dsimp only;obtain ⟨A4,q4,c4,rfl,-⟩:=own_form ho4;have HRV:=Lib.hid (reversePair ho4 (by rw [hcl'.out];omega));have HO4:=Lib.hid ho4;have HA4:=Lib.hid ha4;clear ho4 ha4 c1 c2;(repeat (first | go_big_skip | go_big_want | go_big_move | go_big_op | go_step | go_upon | go_back));refine HRV.out.mono ?_;rintro e w5 ⟨rfl,hg5,ho5⟩;dsimp only;(repeat (first | go_big_skip | go_big_want | go_big_move | go_big_op | go_step | go_upon | go_back));obtain ⟨hch,hlt⟩:=HBK.out.done;have hmk:=mk_keep (mk_aft HDS.out HA4.out) hg5 (fun k e=>own_blk HO4.out e);have hwz:w.heap.size <= z:=by omega
   have hgw:w3.grownBy wr (some g):=HF.out.fr.grow;have haw3:Aft w wr:=HA3.out.grown hgw (fun r e=>by have e:g = r:=Option.some.inj e;omega);have haw:Aft w w5:=(haw3.trans HA4.out).grown hg5 (fun r e=>Nat.le_trans haw3.size (own_ge HO4.out r e));refine leaves_marks w Ds w5 haw (fun D hD=>⟨by have:=(hmk D hD).1;omega,(hmk D hD).2⟩) HND.out fun w' ha hs' hk=>⟨.tuple #[.slice A4 q4 c4,.int .i64 0],by simp [results,Tryz.results28,go_sem],.slice A4 q4 c4,L.reverse,rfl,?_,hch,?_,ha⟩
   ·have h7:=own_marks ho5 (fun D hD=>(hmk D hD).2) hk;rw [hcl'.out,<- List.length_reverse,<- List.map_reverse] at h7;exact h7.mono haw3.size
   ·rw [hlt];exact HLG.out
end Go.Proofs
end
section
/- Bars: what is plain of it. -/
namespace Sheet
structure BarTo (S:Nat -> Nat -> Bool) (n m:Nat) (V:Nat × Nat -> Nat) (r:Nat):Prop where
 iff:∀ i k,i < n -> k < m -> i * m + k < r -> (0 < V (i,k) ↔ S i k = true)
 ne:∀ i k i' k',i < n -> k < m -> i * m + k < r -> i' < i -> k' < k -> 0 < V (i,k) -> V (i',k') ≠ V (i,k)
variable {S:Nat -> Nat -> Bool} {n m:Nat} {V:Nat × Nat -> Nat}
theorem BarTo.start:BarTo S n m V 0:=⟨fun _ _ _ _ h=>absurd h (Nat.not_lt_zero _),fun _ _ _ _ _ _ h=>absurd h (Nat.not_lt_zero _)⟩
def InTo (a b:Nat) (V:Nat × Nat -> Nat) (t r:Nat):Prop:=∀ i k,i < a -> k < b -> i * b + k < r -> 0 < t -> V (i,k) ≠ t
theorem InTo.round {a b t i k:Nat} (h:InTo a b V t (i * b + k)) (hk:k < b) (hv:0 < t -> V (i,k) ≠ t):InTo a b V t (i * b + k + 1):=fun i' k' h1 h2 h3 h4=>by
 by_cases e:i' * b + k' < i * b + k
 ·exact h i' k' h1 h2 e h4
 ·obtain ⟨rfl,rfl⟩:=idx_same (show i' * b + k' = i * b + k by omega) h2 hk;exact hv h4
theorem BarTo.round {a b:Nat} (h:BarTo S n m V (a * m + b)) (hb:b < m) (h1:0 < V (a,b) ↔ S a b = true) (h2:InTo a b V (V (a,b)) (a * b)):BarTo S n m V (a * m + b + 1):=by
 refine ⟨fun i k hi hk hr=>?_,fun i k i' k' hi hk hr hi' hk'=>?_⟩
 ·by_cases e:i * m + k < a * m + b
  ·exact h.iff i k hi hk e
  ·obtain ⟨rfl,rfl⟩:=idx_same (show i * m + k = a * m + b by omega) hk hb;exact h1
 ·by_cases e:i * m + k < a * m + b
  ·exact h.ne i k i' k' hi hk e hi' hk'
  ·obtain ⟨rfl,rfl⟩:=idx_same (show i * m + k = a * m + b by omega) hk hb;exact h2 i' k' hi' hk' (idx_lt hi' hk')
theorem BarTo.bar (h:BarTo S n m V (n * m)):Bar S n m fun a b=>V (a,b) :=
 ⟨fun i k hi hk=>h.iff i k hi hk (idx_lt hi hk),fun i k i' k' hi hk=>h.ne i k i' k' hi hk (idx_lt hi hk)⟩
end Sheet
namespace Go.Proofs
open Go.RowKit
def vN (lv:List (List Int)) (p:Nat × Nat):Nat:=((lv.getD p.1 []).getD p.2 0).toNat
structure LvlOk (lv:List (List Int)) (n m:Nat):Prop where
 n:lv.length = n
 m:∀ r ∈ lv,r.length = m
 v:∀ r ∈ lv,∀ x ∈ r,0 <= x /\ x <= 30
theorem LvlOk.cells {lv:List (List Int)} {n m:Nat} (h:LvlOk lv n m) {w:World} {A:Option Addr} (hL:Lists w A lv) {i k:Nat} (hi:i < n) (hk:k < m) :
  ∃ b o b' o' c',A = some ⟨b,o,none⟩ /\ b < w.heap.size /\ b' < w.heap.size /\ w.cell? ⟨b,o + i,none⟩ = some (.slice (some ⟨b',o',none⟩) m c') /\ w.cell? ⟨b',o' + k,none⟩ = some (.int .i64 (vN lv (i,k):Int)) /\ vN lv (i,k) <= 30:=by
 have hil:i < lv.length:=by rw [h.n];exact hi
 obtain ⟨b,o,rfl,hb,hc⟩:=hL.at hil;obtain ⟨A',c',h1,h2⟩:=hc i hil;have hm:=h.m _ (List.getElem_mem hil);have hkl:k < lv[i].length:=by rw [hm];exact hk
 obtain ⟨b',o',rfl,hb',hc'⟩:=h2.at hkl;have hv:=h.v _ (List.getElem_mem hil) _ (List.getElem_mem hkl)
 have e:vN lv (i,k) = lv[i][k].toNat:=by
  unfold vN;rw [List.getD_eq_getElem?_getD,List.getD_eq_getElem?_getD,List.getElem?_eq_getElem hil,Option.getD_some,List.getElem?_eq_getElem hkl,Option.getD_some]
 rw [hm] at h1;refine ⟨b,o,b',o',c',rfl,hb,hb',h1,?_,by rw [e];omega⟩;rw [hc' k hkl,e,Int.toNat_of_nonneg hv.1]
def BarsR (play:Int) (la lb:List (Int × Int)) (lv:List (List Int)) (w:World) (e:Ending) (w':World):Prop:=Aft w w' /\
 ((∃ mx,e = .returned (.tuple #[.int .i64 (mx:Nat),.int .i64 0]) /\ Sheet.Bar (sameB play la lb) la.length lb.length (fun a b=>vN lv (a,b)) /\ Sheet.MaxTo la.length lb.length (vN lv) (la.length * lb.length) mx) \/
  (e = .returned (.tuple #[.int .i64 0,.int .i64 9]) /\ ¬ Sheet.Bar (sameB play la lb) la.length lb.length fun a b=>vN lv (a,b)))
end Go.Proofs
end
