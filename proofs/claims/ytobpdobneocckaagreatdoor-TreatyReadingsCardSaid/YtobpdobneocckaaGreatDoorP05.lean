/- Own texts, merged: WkB47 Mga Mgb Mgd Own4 WkQ. -/
import Derived.Test.YtobpdobneocckaaGreatDoorP04
import Derived.Deep.CutRange
import Derived.Deep.Cut
import Derived.Deep.RegionHeld3
section
/- Walks: a leg that is told in two languages,opened. -/
namespace Go.Proofs
open Go.RowKit
theorem lat_keep (W:World) (u:Later W) {b i:Nat} {v:Value} (hb:b < W.heap.size) (h:W.cell? ⟨b,i,none⟩ = some v):(W.lat u).cell? ⟨b,i,none⟩ = some v:=(World.lat_cell _ _ _ _ hb).trans h
theorem lists_nil (w:World):Lists w none []:=⟨by simp,.inl rfl⟩
theorem lists_one {W:World} {b:Nat} {A:Option Addr} {l:List Int} {c:Nat} (hb:b < W.heap.size) (h:W.cell? ⟨b,0,none⟩ = some (.slice A l.length c)) (hi:Ints W A l):Lists W (some ⟨b,0,none⟩) [l]:=by
 refine ⟨by simp,.inr ⟨b,0,rfl,hb,fun i hi'=>?_⟩⟩;have:i = 0:=by simp at hi';omega
 subst this
 exact ⟨[.slice A l.length c],rfl,⟨A,c,rfl,hi⟩,fun j hj=>by
  have:j = 0:=by simp at hj;omega
  subst this;simpa using h⟩
def firstThen (n:Nat):Code -> Option Code
 | .loop c=>firstThen n c
 | .seq a b=>match firstThen n a with
  | some c=>some c
  | none=>firstThen n b
 | .block _ c=>firstThen n c
 | .scope c=>firstThen n c
 | .cond (.tmp m) a b=>if m = n then some a else match firstThen n a with
  | some c=>some c
  | none=>firstThen n b
 | _=>none
noncomputable def branch47:Code:=(firstThen 47 body21).getD .skip
def JoinR (w:World) (T:Treaty) (a1 a2 a3 a4:Option Addr) (c1 c2 c3 c4:Nat) (R:List Int) (ks es:List Int) (k:Nat) (s9 s10:Value) (W:World):Prop :=
 ∃ A1 d1 A2 d2,s9 = .slice A1 ks.length d1 /\ s10 = .slice A2 es.length d2 /\ PInv w T a1 a2 a3 a4 c1 c2 c3 c4 R w.heap.size (w.heap.size + 1) (w.heap.size + 2) A1 d1 ks A2 d2 es k 0 W
def CommonR (base:Nat) (X:World) (l:List Int) (e:Ending) (w':World):Prop :=
 ∃ x y,e = .returned (.slice x l.length y) /\ w'.ownsRow base 3 1 (.slice x l.length y) l.length (l.map (Value.int .i64)) /\ ∃ u:Later X,w' = X.lat u
theorem common_one {W8:World} (X:World) (A1:Option Addr) (k1:List Int) (d1:Nat) (Ab:Option Addr) (lb:List Int) (cb b base:Nat) (hj:Ints W8 A1 k1) (hk:Ints W8 Ab lb) (hbase:base <= W8.heap.size) (hl:k1.length <= 17592186043904) (hA:Aft W8 X)
  (hlt:b < X.heap.size) (hb:X.cell? ⟨b,0,none⟩ = some (.slice Ab lb.length cb)) :
  Calls Tryz.prog 108 #[.slice A1 k1.length d1,.slice (some ⟨b,0,none⟩) 1 1] X (CommonR base X (commonL k1 [lb])):=by
 refine (common_any A1 k1 d1 (some ⟨b,0,none⟩) [lb] 1 X (hj.aft hA) (lists_one hlt hb (hk.aft hA))).mono ?_;rintro e w' ⟨v,rfl,hown,ha⟩;obtain ⟨x,y,rfl,_,_⟩:=own_ints hown (Nat.le_trans (commonL_le _ _) hl);exact ⟨x,y,rfl,World.ownsRow.mono hown (Nat.le_trans hbase hA.size),ha⟩
theorem cell_aftX {X W:World} (h:Aft X W) {b i:Nat} {v:Value} (hb:b < X.heap.size) (hc:X.cell? ⟨b,i,none⟩ = some v):W.cell? ⟨b,i,none⟩ = some v:=by
 obtain ⟨u,rfl⟩:=h;exact lat_keep _ _ hb hc
theorem new_one (w:World) (v:Value) (t:TypeId):(w.alloc (.cells #[v] t)).cell? ⟨w.heap.size,0,none⟩ = some v:=by simp
theorem PInv.joined {w:World} {T:Treaty} {a1 a2 a3 a4:Option Addr} {c1 c2 c3 c4:Nat} {R:List Int} {D0 D B:Nat} {A1:Option Addr} {d1:Nat} {ks:List Int} {A2:Option Addr} {d2:Nat} {es:List Int} {k a:Nat} {W W1 W2:World} (h:PInv w T a1 a2 a3 a4 c1 c2 c3 c4 R D0 D B A1 d1 ks A2 d2 es k a W) (hA:Aft W W1) (hB:Aft W1 W2)
  {x1 x2:Option Addr} {y1 y2:Nat} {ks' es':List Int} (o1:W1.ownsRow B 3 1 (.slice x1 ks'.length y1) ks'.length (ks'.map (Value.int .i64))) (o2:W2.ownsRow B 3 1 (.slice x2 es'.length y2) es'.length (es'.map (Value.int .i64))) :
  PInv w T a1 a2 a3 a4 c1 c2 c3 c4 R D0 D B x1 y1 ks' x2 y2 es' k a W2:=by
 obtain ⟨cs,f,hb,hg,hl⟩:=h.desk;exact ⟨h.aft.trans (hA.trans hB),Nat.le_trans h.size (hA.trans hB).size,h.box.aft (hA.trans hB),own_aft o1 hB,o2,cs,f,hb.aft (hA.trans hB),hg,hl⟩
def OwnC (base:Nat) (l:List Int) (v:Value) (w:World):Prop:=∃ x y,v = .slice x l.length y /\ w.ownsRow base 3 1 (.slice x l.length y) l.length (l.map (Value.int .i64))
def OneC (u:Value) (v:Value) (w:World):Prop:=∃ b,v = .slice (some ⟨b,0,none⟩) 1 1 /\ b < w.heap.size /\ w.cell? ⟨b,0,none⟩ = some u
theorem OwnC.aft {base:Nat} {l:List Int} {v:Value} {w w':World} (h:OwnC base l v w) (ha:Aft w w'):OwnC base l v w':=let ⟨x,y,h1,h2⟩:=h;⟨x,y,h1,own_aft h2 ha⟩
theorem OneC.aft {u v:Value} {w w':World} (h:OneC u v w) (ha:Aft w w'):OneC u v w':=let ⟨b,h1,h2,h3⟩:=h;⟨b,h1,Nat.lt_of_lt_of_le h2 ha.size,cell_aftX ha h2 h3⟩
def Fact9 (base M:Nat) (v1 v2 u1 u2:Value) (l1 l2:List Int):Nat -> Value -> World -> Prop
 | 0,v,_=>v = v1
 | 1,v,_=>v = .pointer (some ⟨M,0,none⟩)
 | 2,v,_=>v = u1
 | 3,v,w=>OneC u1 v w
 | 4,v,w=>OwnC base l1 v w
 | 5,v,_=>v = v2
 | 6,v,_=>v = .pointer (some ⟨M,1,none⟩)
 | 7,v,_=>v = u2
 | 8,v,w=>OneC u2 v w
 | 9,v,w=>OwnC base l2 v w
 | 10,v,w=>OwnC base l1 v w
 | 11,v,w=>OwnC base l2 v w
 | _,_,_=>True
theorem Fact9.aft {base M:Nat} {v1 v2 u1 u2:Value} {l1 l2:List Int} {i:Nat} {v:Value} {w w':World} (h:Fact9 base M v1 v2 u1 u2 l1 l2 i v w) (ha:Aft w w'):Fact9 base M v1 v2 u1 u2 l1 l2 i v w':=by
 unfold Fact9 at h ⊢;split at h <;> first | exact h | exact OneC.aft h ha | exact OwnC.aft h ha
section
variable {w:World} {o:Oper} {a:Act} {K:Act -> World -> Prop} {Q:Exit -> Act -> World -> Prop}
theorem ev {s:Nat} {v:Value} (h:a.eval (.tmp s) = v):a.tmps[s]?.getD undef = v:=by rw [<- h];simp [Act.eval]
theorem op_value {v:Value} (h1:(execOp a.eval o).run Tryz.prog w = .ok (.value v) w) (h:K (a.put o.dst v) w):Oper.wp Tryz.prog o a w K Q:=by
 unfold Oper.wp;rw [h1];exact h
theorem op_call2 {f:Nat} {fn:Func} (hf:Tryz.prog.funcs[f]? = some fn) (hn:(fn.name == "runtime.NumGoroutine") = false) (hb:fn.body.isNone = false)
  (x y:Operand) {t1 t2:TypeId} (ho:o.op = .call { callee:=.value (.func f),args:=#[x,y],argTypes:=#[t1,t2] })
  {vx vy:Value} (hx:a.eval x = vx) (hy:a.eval y = vy) {R:Ending -> World -> Prop} (hc:Calls Tryz.prog f #[vx,vy] w R)
  (h:∀ e w',R e w' -> ∃ v,e = .returned v /\ K (a.put o.dst v) w'):Oper.wp Tryz.prog o a w K Q:=by
 unfold Oper.wp
 have hrun:(execOp a.eval o).run Tryz.prog w = .ok (.enter f #[vx,vy]) w:=by
  unfold execOp;simp only [ho,resolve,invoke,Sem.run_bind,List.map_toArray,List.map_cons,List.map_nil,hx,hy];simp [go_sem];exact run_enters hf hn hb _ _
 rw [hrun,Oper.upon_enter];refine hc.mono ?_;intro e w' hr;obtain ⟨v,rfl,hk⟩:=h e w' hr;exact hk
end
noncomputable def opsOf47 (n:Nat):List Oper:=match branch47 with
 | .seq (.region _ a _) (.region _ b _)=>if n = 8 then a.toList else b.toList
 | _=>[]
set_option maxRecDepth 100000 in
set_option maxHeartbeats 2000000 in
theorem region9_core (W8:World) (base M:Nat) (A1:Option Addr) (d1:Nat) (k1:List Int) (A2:Option Addr) (d2:Nat) (e1:List Int) (Ak' Ae':Option Addr) (ck' ce':Nat) (k2 e2:List Int) (a0:Act) (Q0:Exit -> Act -> World -> Prop)
  (hz:a0.tmps.size = 101) (s9:a0.eval (.tmp 9) = .slice A1 k1.length d1) (s10:a0.eval (.tmp 10) = .slice A2 e1.length d2) (s11:a0.eval (.tmp 11) = .pointer (some ⟨M,0,none⟩))
  (hM:M < W8.heap.size) (m8:W8.cell? ⟨M,0,none⟩ = some (.slice Ak' k2.length ck')) (n8:W8.cell? ⟨M,1,none⟩ = some (.slice Ae' e2.length ce'))
  (hj1:Ints W8 A1 k1) (hj2:Ints W8 A2 e1) (hik8:Ints W8 Ak' k2) (hie8:Ints W8 Ae' e2) (hbase:base <= W8.heap.size) (hk1:k1.length <= 17592186043904) (he1:e1.length <= 17592186043904)
  (hexit:∀ a W',Aft W8 W' -> a.tmps.size = 101 -> a.defers = a0.defers -> (∀ s:Nat,s ≠ 9 -> s ≠ 10 -> (s < 61 \/ 70 < s) -> a.eval (.tmp s) = a0.eval (.tmp s)) -> OwnC base (commonL k1 [k2]) (a.eval (.tmp 9)) W' -> OwnC base (commonL e1 [e2]) (a.eval (.tmp 10)) W' -> Q0 .normal a W') :
  Code.wp Tryz.prog (Code.region 9 (opsOf47 9).toArray true) Q0 a0 W8:=by
 have HEX:=Lib.hid hexit;clear hexit;refine wp_region_facts (by kernel_rfl) 101 hz (by kernel_rfl) (Fact9 base M (.slice A1 k1.length d1) (.slice A2 e1.length d2) (.slice Ak' k2.length ck') (.slice Ae' e2.length ce') (commonL k1 [k2]) (commonL e1 [e2])) (fun _ w=>Aft W8 w) (Aft.drew _) ?step ?fin
 case step =>
  intro i o ho done a w hH hd hp K hK;have ha:=hH.wd;have hK':∀ v,Fact9 base M (.slice A1 k1.length d1) (.slice A2 e1.length d2) (.slice Ak' k2.length ck') (.slice Ae' e2.length ce') (commonL k1 [k2]) (commonL e1 [e2]) i v w -> K (a.put o.dst v) w:=fun v hv=>hK v w hv ha fun j _ u hu=>hu
  have hold:∀ s:Nat,s ≠ 9 -> s ≠ 10 -> (s < 61 \/ 70 < s) -> a.eval (.tmp s) = a0.eval (.tmp s):=fun s h9 h10 h=>hH.old s fun k ok hk hs=>by
   match k,hk with
   | 0,hk=>cases hk;cases hs;first | exact absurd h (by decide) | exact absurd rfl h9 | exact absurd rfl h10
   | 1,hk=>cases hk;cases hs;first | exact absurd h (by decide) | exact absurd rfl h9 | exact absurd rfl h10
   | 2,hk=>cases hk;cases hs;first | exact absurd h (by decide) | exact absurd rfl h9 | exact absurd rfl h10
   | 3,hk=>cases hk;cases hs;first | exact absurd h (by decide) | exact absurd rfl h9 | exact absurd rfl h10
   | 4,hk=>cases hk;cases hs;first | exact absurd h (by decide) | exact absurd rfl h9 | exact absurd rfl h10
   | 5,hk=>cases hk;cases hs;first | exact absurd h (by decide) | exact absurd rfl h9 | exact absurd rfl h10
   | 6,hk=>cases hk;cases hs;first | exact absurd h (by decide) | exact absurd rfl h9 | exact absurd rfl h10
   | 7,hk=>cases hk;cases hs;first | exact absurd h (by decide) | exact absurd rfl h9 | exact absurd rfl h10
   | 8,hk=>cases hk;cases hs;first | exact absurd h (by decide) | exact absurd rfl h9 | exact absurd rfl h10
   | 9,hk=>cases hk;cases hs;first | exact absurd h (by decide) | exact absurd rfl h9 | exact absurd rfl h10
   | 10,hk=>cases hk;cases hs;first | exact absurd h (by decide) | exact absurd rfl h9 | exact absurd rfl h10
   | 11,hk=>cases hk;cases hs;first | exact absurd h (by decide) | exact absurd rfl h9 | exact absurd rfl h10
   | _ + 12,hk=>cases hk
  match i,ho with
  | 0,ho =>
   cases ho
   have e9:a.eval (.tmp 9) = .slice A1 k1.length d1:=(hH.old 9 fun k ok hk hs=>by
    match k,hk with
    | 0,hk=>cases hk;cases hs
    | 1,hk=>cases hk;cases hs
    | 2,hk=>cases hk;cases hs
    | 3,hk=>cases hk;cases hs
    | 4,hk=>cases hk;cases hs
    | 5,hk=>cases hk;cases hs
    | 6,hk=>cases hk;cases hs
    | 7,hk=>cases hk;cases hs
    | 8,hk=>cases hk;cases hs
    | 9,hk=>cases hk;cases hs
    | 10,hk =>
     cases hdk:done 10 with
     | false=>rfl
     | true=>have:=hH.closed 10 _ hk hdk 0 (by cases hk;decide);rw [hd] at this;cases this
    | 11,hk=>cases hk;cases hs
    | _ + 12,hk=>cases hk).trans s9
   exact op_value (by simp [go_sem,ev e9]) (hK' _ rfl)
  | 1,ho =>
   cases ho;have e:=(hold 11 (by decide) (by decide) (by decide)).trans s11;exact op_value (by simp [go_sem,ev e]) (hK' _ rfl)
  | 2,ho =>
   cases ho;have e:a.eval (.tmp 62) = .pointer (some ⟨M,0,none⟩):=hH.fact 1 _ 62 rfl rfl (hp 1 (by decide));have hc:=cell_aftX ha hM m8;exact op_value (by simp [go_sem,ev e,hc]) (hK' _ rfl)
  | 3,ho =>
   cases ho;have e:a.eval (.tmp 63) = .slice Ak' k2.length ck':=hH.fact 2 _ 63 rfl rfl (hp 2 (by decide));have h1:OneC (.slice Ak' k2.length ck') (.slice (some ⟨w.heap.size,0,none⟩) 1 1) (w.alloc (.cells #[.slice Ak' k2.length ck'] 24)):=⟨_,rfl,by simp,by simp⟩;have:=hK _ _ h1 (ha.then_alloc _) fun j _ u hu=>Fact9.aft hu (Aft.alloc _ _)
   unfold Oper.wp;simpa [go_sem,ev e] using this
  | 4,ho =>
   cases ho;have e:a.eval (.tmp 61) = .slice A1 k1.length d1:=hH.fact 0 _ 61 rfl rfl (hp 0 (by decide));obtain ⟨b,e2,hb1,hb2⟩:OneC (.slice Ak' k2.length ck') (a.eval (.tmp 64)) w:=hH.fact 3 _ 64 rfl rfl (hp 3 (by decide));refine op_call2 Tryz.func108 (by kernel_rfl) (by kernel_rfl) _ _ rfl e e2 (common_one w A1 k1 d1 Ak' k2 ck' b base hj1 hik8 hbase hk1 ha hb1 hb2) ?_;rintro e w' ⟨x,y,rfl,hown,hu⟩;exact ⟨_,rfl,hK _ _ ⟨x,y,rfl,hown⟩ (Aft.trans ha hu) fun j _ u hu'=>Fact9.aft hu' hu⟩
  | 5,ho =>
   cases ho
   have e10:a.eval (.tmp 10) = .slice A2 e1.length d2:=(hH.old 10 fun k ok hk hs=>by
    match k,hk with
    | 0,hk=>cases hk;cases hs
    | 1,hk=>cases hk;cases hs
    | 2,hk=>cases hk;cases hs
    | 3,hk=>cases hk;cases hs
    | 4,hk=>cases hk;cases hs
    | 5,hk=>cases hk;cases hs
    | 6,hk=>cases hk;cases hs
    | 7,hk=>cases hk;cases hs
    | 8,hk=>cases hk;cases hs
    | 9,hk=>cases hk;cases hs
    | 10,hk=>cases hk;cases hs
    | 11,hk =>
     cases hdk:done 11 with
     | false=>rfl
     | true=>have:=hH.closed 11 _ hk hdk 10 (by cases hk;decide);have:=hH.closed 10 _ rfl this 9 (by decide);have:=hH.closed 9 _ rfl this 5 (by decide);rw [hd] at this;cases this
    | _ + 12,hk=>cases hk).trans s10
   exact op_value (by simp [go_sem,ev e10]) (hK' _ rfl)
  | 6,ho =>
   cases ho;have e:=(hold 11 (by decide) (by decide) (by decide)).trans s11;exact op_value (by simp [go_sem,ev e]) (hK' _ rfl)
  | 7,ho =>
   cases ho;have e:a.eval (.tmp 67) = .pointer (some ⟨M,1,none⟩):=hH.fact 6 _ 67 rfl rfl (hp 6 (by decide));have hc:=cell_aftX ha hM n8;exact op_value (by simp [go_sem,ev e,hc]) (hK' _ rfl)
  | 8,ho =>
   cases ho;have e:a.eval (.tmp 68) = .slice Ae' e2.length ce':=hH.fact 7 _ 68 rfl rfl (hp 7 (by decide));have h1:OneC (.slice Ae' e2.length ce') (.slice (some ⟨w.heap.size,0,none⟩) 1 1) (w.alloc (.cells #[.slice Ae' e2.length ce'] 24)):=⟨_,rfl,by simp,by simp⟩;have:=hK _ _ h1 (ha.then_alloc _) fun j _ u hu=>Fact9.aft hu (Aft.alloc _ _)
   unfold Oper.wp;simpa [go_sem,ev e] using this
  | 9,ho =>
   cases ho;have e:a.eval (.tmp 66) = .slice A2 e1.length d2:=hH.fact 5 _ 66 rfl rfl (hp 5 (by decide));obtain ⟨b,e2',hb1,hb2⟩:OneC (.slice Ae' e2.length ce') (a.eval (.tmp 69)) w:=hH.fact 8 _ 69 rfl rfl (hp 8 (by decide));refine op_call2 Tryz.func108 (by kernel_rfl) (by kernel_rfl) _ _ rfl e e2' (common_one w A2 e1 d2 Ae' e2 ce' b base hj2 hie8 hbase he1 ha hb1 hb2) ?_;rintro e w' ⟨x,y,rfl,hown,hu⟩;exact ⟨_,rfl,hK _ _ ⟨x,y,rfl,hown⟩ (Aft.trans ha hu) fun j _ u hu'=>Fact9.aft hu' hu⟩
  | 10,ho =>
   cases ho;have hf:OwnC base (commonL k1 [k2]) (a.eval (.tmp 65)) w:=hH.fact 4 _ 65 rfl rfl (hp 4 (by decide));exact op_value (v:=a.eval (.tmp 65)) (by simp [go_sem]) (hK' _ hf)
  | 11,ho =>
   cases ho;have hf:OwnC base (commonL e1 [e2]) (a.eval (.tmp 70)) w:=hH.fact 9 _ 70 rfl rfl (hp 9 (by decide));exact op_value (v:=a.eval (.tmp 70)) (by simp [go_sem]) (hK' _ hf)
  | _ + 12,ho=>cases ho
 case fin =>
  intro done a W' hall hH;refine HEX.out a W' hH.wd (hH.size.trans hz) hH.defers (fun s h9 h10 h=>hH.old s fun k ok hk hs=>?_) (hH.fact 10 _ 9 rfl rfl (hall 10 (by decide))) (hH.fact 11 _ 10 rfl rfl (hall 11 (by decide)))
  match k,hk with
  | 0,hk=>cases hk;cases hs;exact absurd h (by decide)
  | 1,hk=>cases hk;cases hs;exact absurd h (by decide)
  | 2,hk=>cases hk;cases hs;exact absurd h (by decide)
  | 3,hk=>cases hk;cases hs;exact absurd h (by decide)
  | 4,hk=>cases hk;cases hs;exact absurd h (by decide)
  | 5,hk=>cases hk;cases hs;exact absurd h (by decide)
  | 6,hk=>cases hk;cases hs;exact absurd h (by decide)
  | 7,hk=>cases hk;cases hs;exact absurd h (by decide)
  | 8,hk=>cases hk;cases hs;exact absurd h (by decide)
  | 9,hk=>cases hk;cases hs;exact absurd h (by decide)
  | 10,hk=>cases hk;cases hs;exact absurd rfl h9
  | 11,hk=>cases hk;cases hs;exact absurd rfl h10
  | _ + 12,hk=>cases hk
def Fact8 (bt B br or' cR bw ow nW cW n2 q bm om m cm M:Nat) (nR:Nat) (ks es:Value):Nat -> Value -> World -> Prop
 | 0,v,_=>v = .pointer (some ⟨bt,2,none⟩)
 | 1,v,_=>v = .slice (some ⟨bw,ow,none⟩) nW cW
 | 2,v,_=>v = .pointer (some ⟨B,1,none⟩)
 | 3,v,_=>v = .int .i64 n2
 | 4,v,_=>v = .pointer (some ⟨bw,ow + n2,none⟩)
 | 5,v,_=>v = .slice (some ⟨bm,om,none⟩) m cm
 | 6,v,_=>v = .slice (some ⟨br,or',none⟩) nR cR
 | 7,v,_=>v = .pointer (some ⟨B,1,none⟩)
 | 8,v,_=>v = .int .i64 n2
 | 9,v,_=>v = .pointer (some ⟨br,or' + n2,none⟩)
 | 10,v,_=>v = .int .i64 q
 | 11,v,_=>v = .pointer (some ⟨bm,om + q * 2,none⟩)
 | 12,v,_=>v = .agg #[ks,es]
 | 13,v,_=>v = .pointer (some ⟨M,0,none⟩)
 | _,_,_=>True
theorem Fact8.world {bt B br or' cR bw ow nW cW n2 q bm om m cm M nR:Nat} {ks es:Value} {i:Nat} {v:Value} {w w':World} (h:Fact8 bt B br or' cR bw ow nW cW n2 q bm om m cm M nR ks es i v w):Fact8 bt B br or' cR bw ow nW cW n2 q bm om m cm M nR ks es i v w':=by
 unfold Fact8 at h ⊢;split at h <;> exact h
def Wd8 (W6:World) (ks es:Value) (done:Nat -> Bool) (w:World):Prop :=
 Aft W6 w /\ (done 13 = false -> w.heap.size = W6.heap.size) /\ (done 13 = true -> ∃ cs,Blk w W6.heap.size 67 cs /\ cs.size = 2 /\ (done 14 = true -> cs[0]? = some ks /\ cs[1]? = some es))
set_option maxRecDepth 100000 in
set_option maxHeartbeats 2000000 in
theorem region8_core (W6:World) (bt B br or' cR bw ow nW cW n2 q bm om m cm nR:Nat) (Ak Ae:Option Addr) (lk le ck ce:Nat) (a0:Act) (Q0:Exit -> Act -> World -> Prop)
  (hz:a0.tmps.size = 101) (s1:a0.eval (.tmp 1) = .slice (some ⟨br,or',none⟩) nR cR) (s2:a0.eval (.tmp 2) = .pointer (some ⟨bt,0,none⟩)) (s7:a0.eval (.tmp 7) = .pointer (some ⟨B,0,none⟩))
  (hbt:bt < W6.heap.size) (hB:B < W6.heap.size) (hbr:br < W6.heap.size) (hbw:bw < W6.heap.size) (hbm:bm < W6.heap.size)
  (k2:W6.cell? ⟨bt,2,none⟩ = some (.slice (some ⟨bw,ow,none⟩) nW cW)) (x6:W6.cell? ⟨B,1,none⟩ = some (.int .i64 n2)) (cR':W6.cell? ⟨br,or' + n2,none⟩ = some (.int .i64 q)) (cM:W6.cell? ⟨bw,ow + n2,none⟩ = some (.slice (some ⟨bm,om,none⟩) m cm))
  (cK:W6.cell? ⟨bm,om + q * 2,none⟩ = some (.slice Ak lk ck)) (cE:W6.cell? ⟨bm,om + q * 2 + 1,none⟩ = some (.slice Ae le ce)) (hnW:n2 < nW) (hnR:n2 < nR) (hq:q < m) (_hnW6:nW <= 6) (_hnR6:nR <= 6) (_hm4:m <= 4)
  (hexit:∀ a W',Aft W6 W' -> W6.heap.size < W'.heap.size -> W'.cell? ⟨W6.heap.size,0,none⟩ = some (.slice Ak lk ck) -> W'.cell? ⟨W6.heap.size,1,none⟩ = some (.slice Ae le ce) -> a.tmps.size = 101 -> a.defers = a0.defers -> (∀ s:Nat,s ≠ 11 -> (s < 48 \/ 60 < s) -> a.eval (.tmp s) = a0.eval (.tmp s)) -> a.eval (.tmp 11) = .pointer (some ⟨W6.heap.size,0,none⟩) -> Q0 .normal a W') :
  Code.wp Tryz.prog (Code.region 8 (opsOf47 8).toArray true) Q0 a0 W6:=by
 have HEX:=Lib.hid hexit;clear hexit;have hD:(opsOf47 8).filterMap (·.dst) = [48,49,50,51,52,53,54,55,56,57,58,59,60,11]:=by kernel_rfl
 refine wp_region_facts (by kernel_rfl) 101 hz (by kernel_rfl) (Fact8 bt B br or' cR bw ow nW cW n2 q bm om m cm W6.heap.size nR (.slice Ak lk ck) (.slice Ae le ce)) (Wd8 W6 (.slice Ak lk ck) (.slice Ae le ce)) ⟨Aft.drew _,fun _=>rfl,fun h=>by cases h⟩ ?step ?fin
 case step =>
  intro i o ho done a w hH hd hp K hK;obtain ⟨ha,hw1,hw2⟩:=hH.wd;have same:∀ s:Nat,s ∉ [48,49,50,51,52,53,54,55,56,57,58,59,60,11] -> a.eval (.tmp s) = a0.eval (.tmp s):=fun s hs=>hH.same (by show s ∉ (opsOf47 8).filterMap (·.dst);rw [hD];exact hs)
  have hK':i ≠ 13 -> i ≠ 14 -> ∀ v,Fact8 bt B br or' cR bw ow nW cW n2 q bm om m cm W6.heap.size nR (.slice Ak lk ck) (.slice Ae le ce) i v w -> K (a.put o.dst v) w:=fun h13 h14 v hv=>hK v w hv (by
   refine ⟨ha,fun h=>hw1 (by simpa [upd,Ne.symm h13] using h),fun h=>?_⟩;obtain ⟨cs,h1,h2,h3⟩:=hw2 (by simpa [upd,Ne.symm h13] using h);exact ⟨cs,h1,h2,fun h=>h3 (by simpa [upd,Ne.symm h14] using h)⟩) fun j _ u hu=>hu
  match i,ho with
  | 0,ho =>
   cases ho;have e:=(same 2 (by decide)).trans s2;exact op_value (by simp [go_sem,ev e]) (hK' (by decide) (by decide) _ rfl)
  | 1,ho =>
   cases ho;have e:a.eval (.tmp 48) = .pointer (some ⟨bt,2,none⟩):=hH.fact 0 _ 48 rfl rfl (hp 0 (by decide));have hc:=cell_aftX ha hbt k2;exact op_value (by simp [go_sem,ev e,hc]) (hK' (by decide) (by decide) _ rfl)
  | 2,ho =>
   cases ho;have e:=(same 7 (by decide)).trans s7;exact op_value (by simp [go_sem,ev e]) (hK' (by decide) (by decide) _ rfl)
  | 3,ho =>
   cases ho;have e:a.eval (.tmp 50) = .pointer (some ⟨B,1,none⟩):=hH.fact 2 _ 50 rfl rfl (hp 2 (by decide));have hc:=cell_aftX ha hB x6;exact op_value (by simp [go_sem,ev e,hc]) (hK' (by decide) (by decide) _ rfl)
  | 4,ho =>
   cases ho;have e:a.eval (.tmp 49) = .slice (some ⟨bw,ow,none⟩) nW cW:=hH.fact 1 _ 49 rfl rfl (hp 1 (by decide));have e2:a.eval (.tmp 51) = .int .i64 n2:=hH.fact 3 _ 51 rfl rfl (hp 3 (by decide));have i1:(0:Int) <= (n2:Int) /\ (n2:Int) < (nW:Int):=by omega
   exact op_value (v:=.pointer (some ⟨bw,ow + n2,none⟩)) (by simp [go_sem,ev e,ev e2,i1]) (hK' (by decide) (by decide) _ rfl)
  | 5,ho =>
   cases ho;have e:a.eval (.tmp 52) = .pointer (some ⟨bw,ow + n2,none⟩):=hH.fact 4 _ 52 rfl rfl (hp 4 (by decide));have hc:=cell_aftX ha hbw cM;exact op_value (by simp [go_sem,ev e,hc]) (hK' (by decide) (by decide) _ rfl)
  | 6,ho =>
   cases ho;have e:=(same 1 (by decide)).trans s1;exact op_value (by simp [go_sem,ev e]) (hK' (by decide) (by decide) _ rfl)
  | 7,ho =>
   cases ho;have e:=(same 7 (by decide)).trans s7;exact op_value (by simp [go_sem,ev e]) (hK' (by decide) (by decide) _ rfl)
  | 8,ho =>
   cases ho;have e:a.eval (.tmp 55) = .pointer (some ⟨B,1,none⟩):=hH.fact 7 _ 55 rfl rfl (hp 7 (by decide));have hc:=cell_aftX ha hB x6;exact op_value (by simp [go_sem,ev e,hc]) (hK' (by decide) (by decide) _ rfl)
  | 9,ho =>
   cases ho;have e:a.eval (.tmp 54) = .slice (some ⟨br,or',none⟩) nR cR:=hH.fact 6 _ 54 rfl rfl (hp 6 (by decide));have e2:a.eval (.tmp 56) = .int .i64 n2:=hH.fact 8 _ 56 rfl rfl (hp 8 (by decide));have i1:(0:Int) <= (n2:Int) /\ (n2:Int) < (nR:Int):=by omega
   exact op_value (v:=.pointer (some ⟨br,or' + n2,none⟩)) (by simp [go_sem,ev e,ev e2,i1]) (hK' (by decide) (by decide) _ rfl)
  | 10,ho =>
   cases ho;have e:a.eval (.tmp 57) = .pointer (some ⟨br,or' + n2,none⟩):=hH.fact 9 _ 57 rfl rfl (hp 9 (by decide));have hc:=cell_aftX ha hbr cR';exact op_value (by simp [go_sem,ev e,hc]) (hK' (by decide) (by decide) _ rfl)
  | 11,ho =>
   cases ho;have e:a.eval (.tmp 53) = .slice (some ⟨bm,om,none⟩) m cm:=hH.fact 5 _ 53 rfl rfl (hp 5 (by decide));have e2:a.eval (.tmp 58) = .int .i64 q:=hH.fact 10 _ 58 rfl rfl (hp 10 (by decide));have i1:(0:Int) <= (q:Int) /\ (q:Int) < (m:Int):=by omega
   exact op_value (v:=.pointer (some ⟨bm,om + q * 2,none⟩)) (by simp [go_sem,ev e,ev e2,i1]) (hK' (by decide) (by decide) _ rfl)
  | 12,ho =>
   cases ho;have e:a.eval (.tmp 59) = .pointer (some ⟨bm,om + q * 2,none⟩):=hH.fact 11 _ 59 rfl rfl (hp 11 (by decide));have hc:=cell_aftX ha hbm cK;have hc2:=cell_aftX ha hbm cE;exact op_value (v:=.agg #[.slice Ak lk ck,.slice Ae le ce]) (by simp [go_sem,ev e,hc,hc2]) (hK' (by decide) (by decide) _ rfl)
  | 13,ho =>
   cases ho;have hs:=hw1 hd;have hb:=Blk.new w 67 #[Value.slice none 0 0,Value.slice none 0 0];have:=hK (.pointer (some ⟨w.heap.size,0,none⟩)) (w.alloc (.cells #[Value.slice none 0 0,Value.slice none 0 0] 67)) (by show _ = _;rw [hs]) (by
    refine ⟨ha.then_alloc _,fun h=>by simp [upd] at h,fun _=>⟨_,by rw [<- hs];exact hb,rfl,fun h=>?_⟩⟩;have h14:done 14 = true:=by simpa [upd] using h
    have:=hH.closed 14 _ rfl h14 13 (by decide);rw [hd] at this;cases this) fun j _ u hu=>Fact8.world hu
   unfold Oper.wp;simpa [go_sem,Act.put] using this
  | 14,ho =>
   cases ho;have e:a.eval (.tmp 11) = .pointer (some ⟨W6.heap.size,0,none⟩):=hH.fact 13 _ 11 rfl rfl (hp 13 (by decide));have e2:a.eval (.tmp 60) = .agg #[.slice Ak lk ck,.slice Ae le ce]:=hH.fact 12 _ 60 rfl rfl (hp 12 (by decide));obtain ⟨cs,h1,h2,h3⟩:=hw2 (hp 13 (by decide));have c0:w.cell? ⟨W6.heap.size,0,none⟩ = some cs[0]:=(h1.cell 0).trans (Array.getElem?_eq_getElem (by omega));have c1:w.cell? ⟨W6.heap.size,1,none⟩ = some cs[1]:=(h1.cell 1).trans (Array.getElem?_eq_getElem (by omega));have f0:=h1.frozen 0;have f1:=h1.frozen 1;have:=hK undef ((w.setCell ⟨W6.heap.size,0,none⟩ (.slice Ak lk ck)).setCell ⟨W6.heap.size,1,none⟩ (.slice Ae le ce)) trivial (by
    refine ⟨(ha.then_setCell (p:=⟨W6.heap.size,0,none⟩) (Nat.le_refl _) _).then_setCell (p:=⟨W6.heap.size,1,none⟩) (Nat.le_refl _) _,fun h=>?_,fun _=>⟨_,(h1.store 0 _).store 1 _,by simp [h2],fun _=>?_⟩⟩
    ·have:=hp 13 (by decide);simp [upd,this] at h
    ·simp [h2]) fun j _ u hu=>Fact8.world hu
   unfold Oper.wp;simpa [go_sem,ev e,ev e2,c0,c1,f0,f1,Act.put] using this
  | _ + 15,ho=>cases ho
 case fin =>
  intro done a W' hall hH;obtain ⟨ha,_,hw2⟩:=hH.wd;obtain ⟨cs,h1,h2,h3⟩:=hw2 (hall 13 (by decide));obtain ⟨h4,h5⟩:=h3 (hall 14 (by decide));refine HEX.out a W' ha h1.lt ((h1.cell 0).trans h4) ((h1.cell 1).trans h5) (hH.size.trans hz) hH.defers (fun s h11 h=>hH.same (by
   show s ∉ (opsOf47 8).filterMap (·.dst);rw [hD]
   simp
   omega)) (hH.fact 13 _ 11 rfl rfl (hall 13 (by decide)))
theorem branch47_eq:branch47 = .seq (.region 8 (opsOf47 8).toArray true) (.region 9 (opsOf47 9).toArray true):=by kernel_rfl
set_option maxRecDepth 100000 in
set_option maxHeartbeats 2000000 in
theorem branch47_core (w:World) (T:Treaty) (a1 a3 a4:Option Addr) (c1 c2 c3 c4:Nat) (R:List Int) (B:Nat) (A1:Option Addr) (d1:Nat) (k1:List Int) (A2:Option Addr) (d2:Nat) (e1:List Int) (k:Nat) (bw ow br or' cR:Nat) (Ak' Ae':Option Addr) (ck' ce':Nat) (k2 e2:List Int)
  (n2 q bm' om' cm':Nat) (m':Nat) (hn2w:n2 < T.words.length) (hn2r:n2 < R.length) (hql:q < m')
  (a0:Act) (Q0:Exit -> Act -> World -> Prop) (W6:World) (hP:PInv w T a1 (some ⟨bw,ow,none⟩) a3 a4 c1 c2 c3 c4 R w.heap.size (w.heap.size + 1) (w.heap.size + 2) A1 d1 k1 A2 d2 e1 k 0 W6)
  (hk1:k1.length <= 17592186043904) (he1:e1.length <= 17592186043904) (hBW:B < W6.heap.size) (hbr:br < W6.heap.size) (hbw:bw < W6.heap.size) (hbm:bm' < W6.heap.size)
  (x6:W6.cell? ⟨B,1,none⟩ = some (.int .i64 n2)) (cR':W6.cell? ⟨br,or' + n2,none⟩ = some (.int .i64 q)) (cM:W6.cell? ⟨bw,ow + n2,none⟩ = some (.slice (some ⟨bm',om',none⟩) m' cm'))
  (cK:W6.cell? ⟨bm',om' + q * 2,none⟩ = some (.slice Ak' k2.length ck')) (cE:W6.cell? ⟨bm',om' + q * 2 + 1,none⟩ = some (.slice Ae' e2.length ce')) (hik:Ints W6 Ak' k2) (hie:Ints W6 Ae' e2) (hwl:T.words.length <= 6) (hrl:R.length <= 6) (hml:m' <= 4)
  (hz:a0.tmps.size = 101) (s1:a0.eval (.tmp 1) = .slice (some ⟨br,or',none⟩) R.length cR) (s2:a0.eval (.tmp 2) = .pointer (some ⟨w.heap.size,0,none⟩)) (s7:a0.eval (.tmp 7) = .pointer (some ⟨B,0,none⟩))
  (s9:a0.eval (.tmp 9) = .slice A1 k1.length d1) (s10:a0.eval (.tmp 10) = .slice A2 e1.length d2)
  (hexit:∀ a W',a.tmps.size = 101 -> a.defers = a0.defers -> (∀ s:Nat,s ≠ 9 -> s ≠ 10 -> s ≠ 11 -> (s < 48 \/ 70 < s) -> a.eval (.tmp s) = a0.eval (.tmp s)) -> JoinR w T a1 (some ⟨bw,ow,none⟩) a3 a4 c1 c2 c3 c4 R (commonL k1 [k2]) (commonL e1 [e2]) k (a.eval (.tmp 9)) (a.eval (.tmp 10)) W' -> Q0 .normal a W') :
  Code.wp Tryz.prog branch47 Q0 a0 W6:=by
 rw [branch47_eq];refine wp_seq_k fun K HK=>?_
 have hsz:=hP.aft.size;obtain ⟨A',c',e,_,hj1⟩:=own_ints hP.own1 hk1;cases e;obtain ⟨A',c',e,_,hj2⟩:=own_ints hP.own2 he1;cases e;refine region8_core W6 w.heap.size B br or' cR bw ow T.words.length c2 n2 q bm' om' m' cm' R.length Ak' Ae' k2.length e2.length ck' ce' a0 _ hz s1 s2 s7 hP.box.lt hBW hbr hbw hbm (hP.box.cell 2) x6 cR' cM cK cE hn2w hn2r hql hwl hrl hml ?_;intro a W8 ha hlt m8 n8 hz' hd' hs' h11;refine HK _ _ ?_;have o:=hs' 9 (by decide) (by decide);have o':=hs' 10 (by decide) (by decide);refine region9_core W8 (w.heap.size + 2) W6.heap.size A1 d1 k1 A2 d2 e1 Ak' Ae' ck' ce' k2 e2 a Q0 hz' (o.trans s9) (o'.trans s10) h11 hlt m8 n8 (hj1.aft ha) (hj2.aft ha) (hik.aft ha) (hie.aft ha) (by have:=hP.size;have:=ha.size;omega) hk1 he1 ?_;rintro a' W' ha' hz2 hd2 hs2 ⟨x1,y1,e1',o1⟩ ⟨x2,y2,e2',o2⟩;exact hexit a' W' hz2 (hd2.trans hd') (fun s h9 h10 h11 h=>(hs2 s h9 h10 (by omega)).trans (hs' s h11 (by omega))) ⟨x1,y1,x2,y2,e1',e2',hP.joined (ha.trans ha') (Aft.refl _) o1 o2⟩
theorem frame_list (n:Nat) (t:Array Value) (hz:t.size = n):t = ((List.range n).map fun j=>t.getD j undef).toArray:=by
 apply Array.ext
 ·simp [hz]
 ·intro i h1 h2;simp [Array.getElem?_eq_getElem h1]
theorem frame_act (n:Nat) (a a0:Act) (hz:a.tmps.size = n) (hd:a.defers = a0.defers) (p:Nat -> Bool) (hs:∀ s:Nat,p s = false -> a.eval (.tmp s) = a0.eval (.tmp s)) :
  a = ⟨((List.range n).map fun j=>if p j = true then a.eval (.tmp j) else a0.eval (.tmp j)).toArray,a0.defers⟩:=by
 obtain ⟨t,d⟩:=a;cases hd;rw [Act.mk.injEq];refine ⟨?_,rfl⟩;have h1:=frame_list n t hz
 have h2:((List.range n).map fun j=>t.getD j undef) = (List.range n).map fun j=>if p j = true then (Act.mk t a0.defers).eval (.tmp j) else a0.eval (.tmp j):=by
  apply List.map_congr_left;intro j _
  cases hp:p j with
  | true=>rw [if_pos rfl];rfl
  | false=>rw [if_neg (by simp)];exact hs j hp
 rw [h2] at h1;exact h1
set_option maxRecDepth 100000 in
set_option maxHeartbeats 2000000 in
theorem opened_both (w:World) (T:Treaty) (a1 a3 a4:Option Addr) (c1 c2 c3 c4:Nat) (R:List Int) (B:Nat) (A1:Option Addr) (d1:Nat) (k1:List Int) (A2:Option Addr) (d2:Nat) (e1:List Int) (k:Nat) (bw ow br or' cR:Nat) (Ak' Ae':Option Addr) (ck' ce':Nat) (k2 e2:List Int)
  (n2 q bm' om' cm':Nat) (m':Nat) (hn2w:n2 < T.words.length) (hn2r:n2 < R.length) (hql:q < m')
  (q0 q3 q4 q5 q6 q8 q11 q12 q13 q14 q15 q16 q17 q18 q19 q20 q21 q22 q23 q24 q25 q26 q27 q28 q29 q30 q31 q32 q33 q34 q35 q36 q37 q38 q39 q40 q41 q42 q43 q44 q45 q46 q47 q48 q49 q50 q51 q52 q53 q54 q55 q56 q57 q58 q59 q60 q61 q62 q63 q64 q65 q66 q67 q68 q69 q70 q71 q72 q73 q74 q75 q76 q77 q78 q79 q80 q81 q82 q83 q84 q85 q86 q87 q88 q89 q90 q91 q92 q93 q94 q95 q96 q97 q98 q99 q100:Value) (Q0:Exit -> Act -> World -> Prop) (W6:World) (hP:PInv w T a1 (some ⟨bw,ow,none⟩) a3 a4 c1 c2 c3 c4 R w.heap.size (w.heap.size + 1) (w.heap.size + 2) A1 d1 k1 A2 d2 e1 k 0 W6)
  (hk1:k1.length <= 17592186043904) (he1:e1.length <= 17592186043904) (_hBw:w.heap.size + 1 < B) (hBW:B < W6.heap.size) (hbr:br < W6.heap.size) (hbw:bw < W6.heap.size) (hbm:bm' < W6.heap.size)
  (x6:W6.cell? ⟨B,1,none⟩ = some (.int .i64 n2)) (cR':W6.cell? ⟨br,or' + n2,none⟩ = some (.int .i64 q)) (cM:W6.cell? ⟨bw,ow + n2,none⟩ = some (.slice (some ⟨bm',om',none⟩) m' cm'))
  (cK:W6.cell? ⟨bm',om' + q * 2,none⟩ = some (.slice Ak' k2.length ck')) (cE:W6.cell? ⟨bm',om' + q * 2 + 1,none⟩ = some (.slice Ae' e2.length ce')) (hik:Ints W6 Ak' k2) (hie:Ints W6 Ae' e2) (hwl:T.words.length <= 6) (hrl:R.length <= 6) (hml:m' <= 4)
  (hexit:∀ u9 u10 u11 u48 u49 u50 u51 u52 u53 u54 u55 u56 u57 u58 u59 u60 u61 u62 u63 u64 u65 u66 u67 u68 u69 u70 W',JoinR w T a1 (some ⟨bw,ow,none⟩) a3 a4 c1 c2 c3 c4 R (commonL k1 [k2]) (commonL e1 [e2]) k u9 u10 W' -> Q0 .normal ⟨(List.toArray (q0 :: .slice (some ⟨br,or',none⟩) R.length cR :: .pointer (some ⟨w.heap.size,0,none⟩) :: q3 :: q4 :: q5 :: q6 :: .pointer (some ⟨B,0,none⟩) :: q8 :: u9 :: u10 :: u11 :: q12 :: q13 :: q14 :: q15 :: q16 :: q17 :: q18 :: q19 :: q20 :: q21 :: q22 :: q23 :: q24 :: q25 :: q26 :: q27 :: q28 :: q29 :: q30 :: q31 :: q32 :: q33 :: q34 :: q35 :: q36 :: q37 :: q38 :: q39 :: q40 :: q41 :: q42 :: q43 :: q44 :: q45 :: q46 :: q47 :: u48 :: u49 :: u50 :: u51 :: u52 :: u53 :: u54 :: u55 :: u56 :: u57 :: u58 :: u59 :: u60 :: u61 :: u62 :: u63 :: u64 :: u65 :: u66 :: u67 :: u68 :: u69 :: u70 :: q71 :: q72 :: q73 :: q74 :: q75 :: q76 :: q77 :: q78 :: q79 :: q80 :: q81 :: q82 :: q83 :: q84 :: q85 :: q86 :: q87 :: q88 :: q89 :: q90 :: q91 :: q92 :: q93 :: q94 :: q95 :: q96 :: q97 :: q98 :: q99 :: q100 :: [])),[]⟩ W') :
  Code.wp Tryz.prog branch47 Q0 ⟨(List.toArray (q0 :: .slice (some ⟨br,or',none⟩) R.length cR :: .pointer (some ⟨w.heap.size,0,none⟩) :: q3 :: q4 :: q5 :: q6 :: .pointer (some ⟨B,0,none⟩) :: q8 :: .slice A1 k1.length d1 :: .slice A2 e1.length d2 :: q11 :: q12 :: q13 :: q14 :: q15 :: q16 :: q17 :: q18 :: q19 :: q20 :: q21 :: q22 :: q23 :: q24 :: q25 :: q26 :: q27 :: q28 :: q29 :: q30 :: q31 :: q32 :: q33 :: q34 :: q35 :: q36 :: q37 :: q38 :: q39 :: q40 :: q41 :: q42 :: q43 :: q44 :: q45 :: q46 :: q47 :: q48 :: q49 :: q50 :: q51 :: q52 :: q53 :: q54 :: q55 :: q56 :: q57 :: q58 :: q59 :: q60 :: q61 :: q62 :: q63 :: q64 :: q65 :: q66 :: q67 :: q68 :: q69 :: q70 :: q71 :: q72 :: q73 :: q74 :: q75 :: q76 :: q77 :: q78 :: q79 :: q80 :: q81 :: q82 :: q83 :: q84 :: q85 :: q86 :: q87 :: q88 :: q89 :: q90 :: q91 :: q92 :: q93 :: q94 :: q95 :: q96 :: q97 :: q98 :: q99 :: q100 :: [])),[]⟩ W6:=by
 refine branch47_core w T a1 a3 a4 c1 c2 c3 c4 R B A1 d1 k1 A2 d2 e1 k bw ow br or' cR Ak' Ae' ck' ce' k2 e2 n2 q bm' om' cm' m' hn2w hn2r hql _ Q0 W6 hP hk1 he1 hBW hbr hbw hbm x6 cR' cM cK cE hik hie hwl hrl hml rfl rfl rfl rfl rfl rfl ?_;intro a W' hz hd hs hJ
 have e:=frame_act 101 a _ hz hd (fun j=>decide (j = 9 \/ j = 10 \/ j = 11 \/ (48 <= j /\ j <= 70))) (fun s hp=>by
  have hp':=of_decide_eq_false hp;exact hs s (by omega) (by omega) (by omega) (by omega))
 have e2:a = ⟨(List.toArray (q0 :: .slice (some ⟨br,or',none⟩) R.length cR :: .pointer (some ⟨w.heap.size,0,none⟩) :: q3 :: q4 :: q5 :: q6 :: .pointer (some ⟨B,0,none⟩) :: q8 :: a.eval (.tmp 9) :: a.eval (.tmp 10) :: a.eval (.tmp 11) :: q12 :: q13 :: q14 :: q15 :: q16 :: q17 :: q18 :: q19 :: q20 :: q21 :: q22 :: q23 :: q24 :: q25 :: q26 :: q27 :: q28 :: q29 :: q30 :: q31 :: q32 :: q33 :: q34 :: q35 :: q36 :: q37 :: q38 :: q39 :: q40 :: q41 :: q42 :: q43 :: q44 :: q45 :: q46 :: q47 :: a.eval (.tmp 48) :: a.eval (.tmp 49) :: a.eval (.tmp 50) :: a.eval (.tmp 51) :: a.eval (.tmp 52) :: a.eval (.tmp 53) :: a.eval (.tmp 54) :: a.eval (.tmp 55) :: a.eval (.tmp 56) :: a.eval (.tmp 57) :: a.eval (.tmp 58) :: a.eval (.tmp 59) :: a.eval (.tmp 60) :: a.eval (.tmp 61) :: a.eval (.tmp 62) :: a.eval (.tmp 63) :: a.eval (.tmp 64) :: a.eval (.tmp 65) :: a.eval (.tmp 66) :: a.eval (.tmp 67) :: a.eval (.tmp 68) :: a.eval (.tmp 69) :: a.eval (.tmp 70) :: q71 :: q72 :: q73 :: q74 :: q75 :: q76 :: q77 :: q78 :: q79 :: q80 :: q81 :: q82 :: q83 :: q84 :: q85 :: q86 :: q87 :: q88 :: q89 :: q90 :: q91 :: q92 :: q93 :: q94 :: q95 :: q96 :: q97 :: q98 :: q99 :: q100 :: [])),[]⟩:=e.trans (by kernel_rfl);have h:=hexit (a.eval (.tmp 9)) (a.eval (.tmp 10)) (a.eval (.tmp 11)) (a.eval (.tmp 48)) (a.eval (.tmp 49)) (a.eval (.tmp 50)) (a.eval (.tmp 51)) (a.eval (.tmp 52)) (a.eval (.tmp 53)) (a.eval (.tmp 54)) (a.eval (.tmp 55)) (a.eval (.tmp 56)) (a.eval (.tmp 57)) (a.eval (.tmp 58)) (a.eval (.tmp 59)) (a.eval (.tmp 60)) (a.eval (.tmp 61)) (a.eval (.tmp 62)) (a.eval (.tmp 63)) (a.eval (.tmp 64)) (a.eval (.tmp 65)) (a.eval (.tmp 66)) (a.eval (.tmp 67)) (a.eval (.tmp 68)) (a.eval (.tmp 69)) (a.eval (.tmp 70)) W' hJ;rw [<- e2] at h;exact h
end Go.Proofs
end
section
/- Walks: a made treaty: how a way is added. -/
namespace Go.Proofs
open Go.RowKit
theorem op_app {o:Oper} {a:Act} {w:World} {K:Act -> World -> Prop} {Q:Exit -> Act -> World -> Prop} {t e:TypeId} {size bytes:Nat} (hT:SliceTy Tryz.prog t e size bytes) (s x:Operand) (ho:o.op = .call { callee:=.builtin .append,args:=#[s,x],argTypes:=#[t,t] })
  {base n:Nat} {v:Value} {xs:List Value} (hbase:base <= w.heap.size) (hs:a.eval s = v) (hown:w.ownsRow base e size v n xs) {b c:Nat} {t':TypeId} {news:List Value} (hx:a.eval x = .slice (some ⟨b,0,none⟩) 1 c) (hb:Blk w b t' news.toArray) (hl:news.length = size)
  (h1:∀ u ∈ news,u.oneCell' = true) (hlen:n <= 1000000) (hbytes:bytes <= 1000)
  (hn:∀ v' w',w'.ownsRow base e size v' (n + 1) (xs ++ news) -> w.grownBy w' v.ownBlock -> (v'.ownBlock = v.ownBlock \/ v'.ownBlock = some w.heap.size) -> K (a.put o.dst v') w'):Oper.wp Tryz.prog o a w K Q:=by
 obtain ⟨ht,⟨i,z,hi,hz,hsize,hby,hzs⟩,hsz⟩:=hT;have hbb:(n + 1) * bytes <= 1000001 * 1000:=Nat.mul_le_mul (by omega) hbytes
 obtain ⟨v',w',hr',h2,h3,_,h5⟩:=run_append_own_at (P:=Tryz.prog) w base t o.type e i z size bytes ht hi hz hsize hby hzs hsz v n xs hown ⟨b,0,none⟩ 1 c news (by omega) (fun j u hj=>by
   rw [Addr.add_lit,Nat.zero_add];exact (hb.cell j).trans (by simpa using hj)) h1 (by unfold maxLen;omega) (by omega) hbase
 unfold Oper.wp execOp;simp only [ho,resolve,invoke,builtin,Sem.run_bind,Sem.run_pure,Result.andThen_ok,List.map_toArray,List.map_cons,List.map_nil,hs,hx,hr',Oper.upon];exact hn v' w' h2 h3 h5
theorem op_call3 {o:Oper} {a:Act} {w:World} {K:Act -> World -> Prop} {Q:Exit -> Act -> World -> Prop} {f:Nat} {fn:Func} (hf:Tryz.prog.funcs[f]? = some fn) (hn:(fn.name == "runtime.NumGoroutine") = false) (hb:fn.body.isNone = false)
  (x y z:Operand) {t1 t2 t3:TypeId} (ho:o.op = .call { callee:=.value (.func f),args:=#[x,y,z],argTypes:=#[t1,t2,t3] })
  {vx vy vz:Value} (hx:a.eval x = vx) (hy:a.eval y = vy) (hz:a.eval z = vz) {R:Ending -> World -> Prop} (hc:Calls Tryz.prog f #[vx,vy,vz] w R)
  (h:∀ e w',R e w' -> ∃ v,e = .returned v /\ K (a.put o.dst v) w'):Oper.wp Tryz.prog o a w K Q:=by
 unfold Oper.wp
 have hrun:(execOp a.eval o).run Tryz.prog w = .ok (.enter f #[vx,vy,vz]) w:=by
  unfold execOp;simp only [ho,resolve,invoke,Sem.run_bind,List.map_toArray,List.map_cons,List.map_nil,hx,hy,hz];simp [go_sem];exact run_enters hf hn hb _ _
 rw [hrun,Oper.upon_enter];refine hc.mono ?_;intro e w' hr;obtain ⟨v,rfl,hk⟩:=h e w' hr;exact hk
def regAt (n:Nat):Code -> Option (Array Oper)
 | .region i a _=>if i = n then some a else none
 | .seq a b=>match regAt n a with
  | some c=>some c
  | none=>regAt n b
 | .block _ c=>regAt n c
 | .loop c=>regAt n c
 | .scope c=>regAt n c
 | .cond _ a b=>match regAt n a with
  | some c=>some c
  | none=>regAt n b
 | _=>none
theorem own_slice' {W:World} {base:Nat} {e:TypeId} {size:Nat} {v:Value} {k:Nat} {xs:List Value} (h:W.ownsRow base e size v k xs):∃ A n c,v = .slice A n c:=by
 rcases h.2 with ⟨rfl,_⟩ | ⟨g,cap,_,rfl,_⟩
 ·exact ⟨_,_,_,rfl⟩
 ·exact ⟨_,_,_,rfl⟩
section
variable {w0:World} {d:Nat} {A:Option Addr} {l:List Int} {c m:Nat} {wE:World} {B base n:Nat} {P:Int} {v1 z2 z3 z4:Value} {xs:List Value} {done:Nat -> Bool} {w:World}
end
end Go.Proofs
end
section
/- Words for memory: an own list of records whose contents rest on blocks of the call's own. -/
namespace Go.Proofs
open Go.RowKit
def Rows2 {α:Type} (R:World -> α -> List Value -> Prop) (sz:Nat) (W:World) (l:List α) (xs:List Value):Prop:=xs.length = l.length * sz /\ ∀ i,(h:i < l.length) -> R W l[i] ((xs.drop (i * sz)).take sz)
structure OwnK {α:Type} (R:World -> α -> List Value -> Prop) (e:TypeId) (sz base:Nat) (v:Value) (S:Nat -> Prop) (l:List α) (xs:List Value) (W:World):Prop where
 own:W.ownsRow base e sz v l.length xs
 rows:Sup W S (fun W'=>Rows2 R sz W' l xs)
 far:∀ k,S k -> base <= k /\ v.ownBlock ≠ some k
section
variable {α:Type} {R:World -> α -> List Value -> Prop} {e:TypeId} {sz base:Nat} {v:Value} {S:Nat -> Prop} {l:List α} {xs:List Value} {W W':World}
theorem OwnK.nil (W:World) (e:TypeId) (sz base:Nat):OwnK R e sz base (.slice none 0 0) (fun _=>False) ([]:List α) [] W :=
 ⟨World.ownsRow_nil _ _ e sz,⟨fun k h=>h.elim,fun W' _ _=>⟨by simp,fun i h=>by simp at h⟩⟩,fun k h=>h.elim⟩
theorem OwnK.kept (h:OwnK R e sz base v S l xs W) {row:Option Nat} (hg:W.grownBy W' row) (hr:∀ k,row = some k -> k < base):OwnK R e sz base v S l xs W':=by
 refine ⟨h.own.kept hg ?_,h.rows.grown hg (fun k e hk=>by have:=hr k e;have:=(h.far k hk).1;omega),h.far⟩
 cases hb:v.ownBlock with
 | none=>exact .inl rfl
 | some g=>exact .inr fun e=>by have:=(h.own.lt g hb).1;have:=hr g (by rw [<- e]);omega
theorem OwnK.aft (h:OwnK R e sz base v S l xs W) (ha:Aft W W'):OwnK R e sz base v S l xs W':=h.kept (only_of_aft ha none) (fun k e=>by cases e)
theorem Rows2.push (h:Rows2 R sz W l xs) {x:α} {news:List Value} (hx:R W x news) (hn:news.length = sz):Rows2 R sz W (l ++ [x]) (xs ++ news):=by
 refine ⟨by rw [List.length_append,List.length_append,h.1,hn,List.length_singleton,Nat.succ_mul],fun i hi=>?_⟩;by_cases hlt:i < l.length
 ·rw [List.getElem_append_left hlt];have h1:(i + 1) * sz <= l.length * sz:=Nat.mul_le_mul_right _ hlt;rw [Nat.succ_mul] at h1;rw [List.drop_append_of_le_length (by rw [h.1];omega),List.take_append_of_le_length (by rw [List.length_drop,h.1];omega)];exact h.2 i hlt
 ·have e:i = l.length:=by simp at hi;omega
  subst e;rw [List.getElem_append_right (Nat.le_refl _)];simp only [Nat.sub_self,List.getElem_cons_zero];have e2:l.length * sz = xs.length:=h.1.symm;rw [e2,List.drop_left,List.take_of_length_le (by omega)];exact hx
theorem OwnK.push (h:OwnK R e sz base v S l xs W) {S2:Nat -> Prop} {x:α} {news:List Value} (hx:Sup W S2 (fun W'=>R W' x news)) (hn:news.length = sz) (hf2:∀ k,S2 k -> base <= k /\ v.ownBlock ≠ some k)
  {v':Value} (hown:W'.ownsRow base e sz v' (l.length + 1) (xs ++ news)) (hg:W.grownBy W' v.ownBlock) (hat:v'.ownBlock = v.ownBlock \/ v'.ownBlock = some W.heap.size):OwnK R e sz base v' (fun k=>S k \/ S2 k) (l ++ [x]) (xs ++ news) W':=by
 have hs:=h.rows.and hx;refine ⟨by simpa using hown,(hs.grown hg (fun k e hk=>?_)).mono fun W'' h2=>h2.1.push h2.2 hn,fun k hk=>?_⟩
 ·rcases hk with hk | hk
  ·exact (h.far k hk).2 e
  ·exact (hf2 k hk).2 e
 ·have hlt:=hs.1 k hk;have h2:base <= k /\ v.ownBlock ≠ some k:=hk.elim (h.far k) (hf2 k);refine ⟨h2.1,?_⟩;rcases hat with e | e
  ·rw [e];exact h2.2
  ·rw [e];intro e2;cases e2;omega
theorem OwnK.rowsP (h:OwnK R e sz base v S l xs W) (hl:l.length * sz <= 17592186043904):∃ A c,v = .slice A l.length c /\ l.length <= c /\ Sup W (fun k=>S k \/ v.ownBlock = some k) (fun W'=>RowsP W' A sz R l):=by
 rcases h.own.2 with ⟨e0,h0⟩ | ⟨g,cap,cur,e0,hg,hh,hc,hm,hs',ht⟩
 ·have:l = []:=List.eq_nil_of_length_eq_zero h0;subst this;exact ⟨none,0,e0,Nat.le_refl _,⟨fun k hk=>hk.elim (h.rows.1 k) (fun e=>by rw [e0] at e;cases e),fun W' _ _=>.nil⟩⟩
 ·refine ⟨some ⟨g,0,none⟩,cap,e0,hc,⟨fun k hk=>hk.elim (h.rows.1 k) (fun e=>(h.own.lt k e).2),fun W' h1 h2=>?_⟩⟩;have hr:=h.rows.2 W' (fun k hk=>h1 k (.inl hk)) h2;have hgl:=(h.own.lt g (by rw [e0];rfl)).2;refine ⟨hl,.inr ⟨g,0,rfl,Nat.lt_of_lt_of_le hgl h2,fun i hi=>⟨_,?_,hr.2 i hi,fun j hj=>?_⟩⟩⟩
  ·have hlt:(i + 1) * sz <= l.length * sz:=Nat.mul_le_mul_right _ hi;rw [Nat.succ_mul] at hlt;rw [List.length_take,List.length_drop,hr.1];omega
  ·have hj':j < sz:=by rw [List.length_take] at hj;omega
   have hx:xs[i * sz + j]? = some ((xs.drop (i * sz)).take sz)[j]:=by
    rw [List.getElem_take,List.getElem_drop,List.getElem?_eq_getElem]
   have:=h.own.cells (g:=g) (by rw [e0];rfl) (i * sz + j) _ hx;rw [Addr.add_lit] at this;rw [World.cell?_of_block (h1 g (.inr (by rw [e0];rfl)))];simpa [Nat.add_assoc] using this
theorem own_sup {b:Nat} {v1:Value} {ks:List Int} (h1:W.ownsRow b 3 1 v1 ks.length (ks.map (Value.int .i64))) (hl:ks.length <= 17592186043904):∃ A c,v1 = .slice A ks.length c /\ Sup W (fun k=>v1.ownBlock = some k) (fun W'=>Ints W' A ks):=by
 obtain ⟨A,c,rfl,_,hi⟩:=own_ints h1 hl;exact ⟨A,c,rfl,(Go.Proofs.Ints.sup hi).wide (fun k ⟨_,o,e⟩=>by subst e;rfl) (fun k e=>(h1.lt k e).2)⟩
theorem mean_sup {b b':Nat} {v1 v2:Value} {ks es:List Int} (h1:W.ownsRow b 3 1 v1 ks.length (ks.map (Value.int .i64))) (h2:W.ownsRow b' 3 1 v2 es.length (es.map (Value.int .i64))) (hl:ks.length <= 17592186043904) (hl2:es.length <= 17592186043904) :
  Sup W (fun k=>v1.ownBlock = some k \/ v2.ownBlock = some k) (fun W'=>MeanR W' ⟨ks,es⟩ [v1,v2]):=by
 obtain ⟨A,c,e1,s1⟩:=own_sup h1 hl;obtain ⟨A',c',e2,s2⟩:=own_sup h2 hl2;exact (s1.and s2).mono fun W' h=>⟨A,c,A',c',by rw [e1,e2],h.1,h.2⟩
theorem OwnK.word {S:Nat -> Prop} {ms:List Mean} (h:OwnK MeanR 67 2 base v S ms xs W) (hl:ms.length <= 1000):Sup W (fun k=>S k \/ v.ownBlock = some k) (fun W'=>WordR W' ms [v]):=by
 obtain ⟨A,c,e,_,hs⟩:=h.rowsP (by omega);exact hs.mono fun W' h=>⟨A,c,by rw [e],h⟩
end
end Go.Proofs
end
section
/- Walks: a made treaty: how a meaning is added. -/
namespace Go.Proofs
open Go.RowKit
theorem own_kept' {b e sz n:Nat} {v:Value} {xs:List Value} {w w':World} (h:w.ownsRow b e sz v n xs) {row:Option Nat} (hg:w.grownBy w' row) (hr:∀ k,row = some k -> k < b):w'.ownsRow b e sz v n xs:=by
 refine h.kept hg ?_
 cases hb:v.ownBlock with
 | none=>exact .inl rfl
 | some g=>exact .inr fun e=>by have:=(h.lt g hb).1;have:=hr g (by rw [<- e]);omega
theorem ty78:SliceTy Tryz.prog 68 67 2 48:=.mk' (z:=.agg #[.slice none 0 0,.slice none 0 0]) Tryz.underlying68 (by kernel_rfl) rfl (by decide)
section
variable {w0:World} {d:Nat} {A:Option Addr} {l:List Int} {c m:Nat} {wE W8:World} {B base p:Nat} {vS:Value} {S:Nat -> Prop} {ms:List Mean} {xs:List Value} {done:Nat -> Bool} {w w':World}
end
end Go.Proofs
end
section
/- Words for memory: append to a list that is used on. -/
namespace Go.Proofs
open Go.RowKit
theorem run_push2 {w:World} {base g n cap:Nat} {l:List Int} (ty:TypeId) (hown:w.ownsRow base 3 1 (.slice (some ⟨g,0,none⟩) n cap) n (l.map (Value.int .i64))) (hbase:base <= w.heap.size) {y:Int} {c b:Nat} (hb:w.cell? ⟨b,0,none⟩ = some (.int .i64 y)) (hl:n <= 1000000) :
  ∃ g' c' w',(Builtin.append_ #[24,24] ty #[.slice (some ⟨g,0,none⟩) n cap,.slice (some ⟨b,0,none⟩) 1 c]).run Tryz.prog w = .ok (.slice (some ⟨g',0,none⟩) (n + 1) c') w' /\
   w'.ownsRow base 3 1 (.slice (some ⟨g',0,none⟩) (n + 1) c') (n + 1) ((l ++ [y]).map (Value.int .i64)) /\ w.grownBy w' (some g) /\ ((g' = g /\ c' = cap) \/ (g' = w.heap.size /\ w.grownBy w' none)):=by
 obtain ⟨ht,⟨i,z,hi,hz,hsize,hby,hzs⟩,hsz⟩:=ty24
 have hnews:∀ j u,[Value.int .i64 y][j]? = some u -> w.cell? ((⟨b,0,none⟩:Addr).add j) = some u:=fun j u hj=>by
  match j,hj with
  | 0,hj=>simp at hj;subst hj;rw [Addr.add_lit];simpa using hb
 obtain ⟨v',w',hr',h2,h3,_,_⟩:=run_append_own_at (P:=Tryz.prog) w base 24 ty 3 i z 1 8 ht hi hz hsize hby hzs hsz _ n _ hown ⟨b,0,none⟩ 1 c [.int .i64 y] rfl hnews (one_int y) (by unfold maxLen;omega) (by omega) hbase;have h2':w'.ownsRow base 3 1 v' (n + 1) ((l ++ [y]).map (Value.int .i64)):=by simpa using h2
 rcases hown.2 with ⟨e,_⟩ | ⟨g1,cap1,cur,e,hbg,hg,hnc,hcm,hcs,htake⟩
 ·cases e
 ·cases e;by_cases hroom:n + 1 <= cap
  ·have hr:=run_append_room (P:=Tryz.prog) w 24 ty 3 i ht hi g n cap cur hg ⟨b,0,none⟩ 1 c [.int .i64 y] (by rw [hsize];rfl) hnews (one_int y) hroom (by rw [hsize,hcs];simp;omega);rw [hr'] at hr;injection hr with e1 e2
   subst e1;exact ⟨g,cap,w',hr',h2',h3,.inl ⟨rfl,rfl⟩⟩
  ·have hr:=run_append_grow (P:=Tryz.prog) w 24 ty 3 i z ht hi hz ⟨g,0,none⟩ n cap (l.map (Value.int .i64)) (by rw [hsize];exact hown.1) (hown.cells (g:=g) rfl) ⟨b,0,none⟩ 1 c [.int .i64 y] (by rw [hsize];rfl) hnews (by omega) (by omega) (by rw [hby];exact growslice_fits (by omega) (by omega));rw [hr'] at hr;injection hr with e1 e2
   subst e1;refine ⟨w.heap.size,_,w',hr',h2',h3,.inr ⟨rfl,?_⟩⟩;subst e2;exact ⟨rfl,rfl,rfl,by simp,fun k hk _=>Below.heap_alloc w.drew _ k hk⟩
theorem step_push2 {w:World} {ops:Array Oper} {o:Oper} {a:Act} {K:Act -> World -> Prop} {Q:Exit -> Act -> World -> Prop} {E:Prop}
  (hgd:o.guard = none) (s x:Operand) (ho:o.op = .call { callee:=.builtin .append,args:=#[s,x],argTypes:=#[24,24] })
  {base g n cap:Nat} {l:List Int} (hown:w.ownsRow base 3 1 (.slice (some ⟨g,0,none⟩) n cap) n (l.map (Value.int .i64))) (hbase:base <= w.heap.size) (hs:a.eval s = .slice (some ⟨g,0,none⟩) n cap)
  {y:Int} {c:Nat} {b:Nat} (hx:a.eval x = .slice (some ⟨b,0,none⟩) 1 c) (hb:w.cell? ⟨b,0,none⟩ = some (.int .i64 y)) (hl:n <= 1000000)
  (hn:∀ g' c' w',w'.ownsRow base 3 1 (.slice (some ⟨g',0,none⟩) (n + 1) c') (n + 1) ((l ++ [y]).map (Value.int .i64)) -> w.grownBy w' (some g) -> ((g' = g /\ c' = cap) \/ (g' = w.heap.size /\ w.grownBy w' none)) -> K (a.put o.dst (.slice (some ⟨g',0,none⟩) (n + 1) c')) w') :
  if Region.wanted o (yielded ops a.tmps) = true then Oper.wp Tryz.prog o a w K Q else E:=by
 have hw:Region.wanted o (yielded ops a.tmps) = true:=by simp [Region.wanted,hgd]
 rw [if_pos hw];obtain ⟨g',c',w',hr',h2,h3,h4⟩:=run_push2 o.type hown hbase (c:=c) hb hl;unfold Oper.wp execOp;simp only [ho,resolve,invoke,builtin,Sem.run_bind,Sem.run_pure,Result.andThen_ok,List.map_toArray,List.map_cons,List.map_nil,hs,hx,hr',Oper.upon];exact hn g' c' w' h2 h3 h4
theorem own_less {w:World} {base g n c:Nat} {l:List Int} {y:Int} (hn:n = l.length) (h:w.ownsRow base 3 1 (.slice (some ⟨g,0,none⟩) (n + 1) c) (n + 1) ((l ++ [y]).map (Value.int .i64))):w.ownsRow base 3 1 (.slice (some ⟨g,0,none⟩) n c) n (l.map (Value.int .i64)):=by
 rcases h.2 with ⟨e,_⟩ | ⟨g1,cap1,cur,e,hbg,hg,hnc,hcm,hcs,htake⟩
 ·cases e
 ·cases e;refine ⟨by simp [hn],.inr ⟨g,c,cur,rfl,hbg,hg,by omega,hcm,hcs,?_⟩⟩;rw [Nat.mul_one] at htake ⊢;have:(cur.toList.take (n + 1)).take n = ((l ++ [y]).map (Value.int .i64)).take n:=by rw [htake]
  rw [List.take_take,Nat.min_eq_left (by omega)] at this;rw [this,hn]
  simp
end Go.Proofs
end
section
/- Walks: opened. -/
namespace Go.Proofs
open Go.RowKit
def Opened (w:World) (T:Treaty) (a1 a2 a3 a4:Option Addr) (c1 c2 c3 c4:Nat) (R:List Int) (e:Ending) (w':World):Prop :=
 ∃ D cs,e = .returned (.pointer (some ⟨D,0,none⟩)) /\ w.heap.size <= D /\ Aft w w' /\ Blk w' D 154 cs /\ DGrid T a1 a2 a3 a4 c1 c2 c3 c4 cs (leadsF T R)
set_option maxRecDepth 100000 in
set_option maxHeartbeats 4000000 in
theorem opened_any (w:World) (T:Treaty) (a1 a2 a3 a4:Option Addr) (c1 c2 c3 c4:Nat) (R:List Int) (AR:Option Addr) (cR:Nat) (hT:TRep w T a1 a2 a3 a4) (hR:Ints w AR R) (ok:TOk T) (hr:ReadOk T R) :
  Calls Tryz.prog 49 #[.agg #[.int .i64 T.places,.slice a1 T.ways.length c1,.slice a2 T.words.length c2,.slice a3 T.starts.length c3,.slice a4 T.legs.length c4],.slice AR R.length cR] w (Opened w T a1 a2 a3 a4 c1 c2 c3 c4 R):=by
 have hl:=hT.legs.len (by decide);have hl2:=ok.nlegs;have OK:=Lib.hid ok;obtain ⟨p,hpp⟩:=Int.eq_ofNat_of_zero_le (show 0 <= T.places by have:=ok.p1;omega);have HPP:=Lib.hid hpp;have hp12:p <= 12:=by have:=ok.p2;omega
 clear hpp;have HRO:=Lib.hid hr;clear ok hr;go_enter Tryz.func49,Tryz.ntmps49;go_wp2_with fail
 have HZ:=Lib.hid (zeroDesk T a1 a2 a3 a4 c1 c2 c3 c4);generalize (((((Tryz.zeroCells154.setIfInBounds 0 (.int .i64 T.places)).setIfInBounds 1 (.slice a1 T.ways.length c1)).setIfInBounds 2 (.slice a2 T.words.length c2)).setIfInBounds 3 (.slice a3 T.starts.length c3)).setIfInBounds 4 (.slice a4 T.legs.length c4)) = z0 at *;go_loopw [21] (fun i wr=>∃ k:Nat,i = .int .i64 k /\ k <= T.legs.length /\ Aft w wr /\ Blk wr w.heap.size 27 #[.int .i64 T.places,.slice a1 T.ways.length c1,.slice a2 T.words.length c2,.slice a3 T.starts.length c3,.slice a4 T.legs.length c4] /\ ∃ cs f,Blk wr (w.heap.size + 1) 154 cs /\ DGrid T a1 a2 a3 a4 c1 c2 c3 c4 cs f /\ LInv T R k f) (fun i _=>T.legs.length - (intOf i).toNat)
 case atStart =>
  exact ⟨0,rfl,by omega,(Aft.alloc _ _).then_alloc _,(Blk.new w 27 _).alloc _,z0,_,by have:=Blk.new (w.alloc (.cells #[.int .i64 T.places,.slice a1 T.ways.length c1,.slice a2 T.words.length c2,.slice a3 T.starts.length c3,.slice a4 T.legs.length c4] 27)) 154 z0;rwa [World.size_alloc] at this,HZ.out,fun i a b _ _ _=>by simp⟩
 case round =>
  obtain ⟨k,rfl,hk,hw,hbt,cs,f,hb,hg,hf⟩:=hrel;have HF:=Lib.hid hf;clear hf;by_cases hlk:k < T.legs.length
  ·obtain ⟨bl,ol,rfl,hbl,hc⟩:=(hT.legs.aft LegR.mono hw).at hlk;obtain ⟨vs,hv1,hv2,hv3⟩:=hc k hlk;cases hv2;have cW:wr.cell? ⟨bl,ol + k * 2,none⟩ = some (.int .i64 T.legs[k].word):=hv3 0 (by simp);have cO:wr.cell? ⟨bl,ol + k * 2 + 1,none⟩ = some (.int .i64 T.legs[k].other):=hv3 1 (by simp);obtain ⟨l1,l2,l3⟩:=OK.out.legs _ (List.getElem_mem hlk);clear hc hv1 hv3;have HX:=Lib.hid (show T.legs[k]? = some T.legs[k] from List.getElem?_eq_getElem hlk);generalize T.legs[k] = x at *;obtain ⟨n,hn⟩:=Int.eq_ofNat_of_zero_le l1;rw [hn] at cW;have hnw:n < T.words.length:=by omega
   have hnr:n < R.length:=by rw [HRO.out.1];exact hnw
   have HN:=Lib.hid hn;obtain ⟨r1,r2⟩:=HRO.out.2 n hnr hnw;obtain ⟨r,hrr⟩:=Int.eq_ofNat_of_zero_le r1;have hrl:r < T.words[n].length:=by omega
   have HME:=Lib.hid (meanAt_eq hnw hnr hrr hrl);obtain ⟨br,or',rfl,hbr,hcr⟩:=(hR.aft hw).at hnr;have cR':=hcr n hnr;rw [hrr] at cR';obtain ⟨bw,ow,rfl,hbw,hcw⟩:=(hT.words.aft WordR.mono hw).at hnw;obtain ⟨vs,hv1,⟨Am,cm,rfl,hms⟩,hv3⟩:=hcw n hnw;have cM:wr.cell? ⟨bw,ow + n,none⟩ = some (.slice Am T.words[n].length cm):=by have:=hv3 0 (by simp);simpa using this
   obtain ⟨bm,om,rfl,hbm,hcm⟩:=hms.at hrl;obtain ⟨vs,hv4,⟨Ak,ck,Ae,ce,rfl,hik,hie⟩,hv6⟩:=hcm r hrl;have cK:wr.cell? ⟨bm,om + r * 2,none⟩ = some (.slice Ak T.words[n][r].kinds.length ck):=hv6 0 (by simp);have cE:wr.cell? ⟨bm,om + r * 2 + 1,none⟩ = some (.slice Ae T.words[n][r].ends.length ce):=hv6 1 (by simp);have hkl:=hik.len;have hel:=hie.len;have HKL:=Lib.hid hkl;have HEL:=Lib.hid hel;clear hkl hel;clear hv1 hv3 hv4 hv6 hcm hcw hcr l1 l2 hn r1 r2 hrr;generalize T.words[n][r] = me at *;have k0:wr.cell? ⟨w.heap.size,0,none⟩ = some (.int .i64 T.places):=hbt.cell 0;have k2:wr.cell? ⟨w.heap.size,2,none⟩ = some (.slice (some ⟨bw,ow,none⟩) T.words.length c2):=hbt.cell 2;have hlb:=hbt.lt;go_wp2_with fail
   go_region
   have hik5:=hik.aft (((Aft.alloc wr (.cells #[.int .i64 n,.int .i64 x.other] 70)).then_alloc (.cells #[.slice Ak me.kinds.length ck,.slice Ae me.ends.length ce] 67)).then_drew);have hie5:=hie.aft (((Aft.alloc wr (.cells #[.int .i64 n,.int .i64 x.other] 70)).then_alloc (.cells #[.slice Ak me.kinds.length ck,.slice Ae me.ends.length ce] 67)).then_drew);have hw5:=((hw.then_alloc (.cells #[.int .i64 n,.int .i64 x.other] 70)).then_alloc (.cells #[.slice Ak me.kinds.length ck,.slice Ae me.ends.length ce] 67)).then_drew;have hb5:=((hb.alloc (.cells #[.int .i64 n,.int .i64 x.other] 70)).alloc (.cells #[.slice Ak me.kinds.length ck,.slice Ae me.ends.length ce] 67)).drew;have hbt5:=((hbt.alloc (.cells #[.int .i64 n,.int .i64 x.other] 70)).alloc (.cells #[.slice Ak me.kinds.length ck,.slice Ae me.ends.length ce] 67)).drew;have s5:wr.heap.size + 2 <= (((wr.alloc (.cells #[.int .i64 n,.int .i64 x.other] 70)).alloc (.cells #[.slice Ak me.kinds.length ck,.slice Ae me.ends.length ce] 67)).drew).heap.size:=by simp
   have x5:(((wr.alloc (.cells #[.int .i64 n,.int .i64 x.other] 70)).alloc (.cells #[.slice Ak me.kinds.length ck,.slice Ae me.ends.length ce] 67)).drew).cell? ⟨wr.heap.size,1,none⟩ = some (.int .i64 x.other):=by simp [go_sem]
   have m5:(((wr.alloc (.cells #[.int .i64 n,.int .i64 x.other] 70)).alloc (.cells #[.slice Ak me.kinds.length ck,.slice Ae me.ends.length ce] 67)).drew).cell? ⟨wr.heap.size + 1,0,none⟩ = some (.slice Ak me.kinds.length ck):=by simp [go_sem]
   have n5:(((wr.alloc (.cells #[.int .i64 n,.int .i64 x.other] 70)).alloc (.cells #[.slice Ak me.kinds.length ck,.slice Ae me.ends.length ce] 67)).drew).cell? ⟨wr.heap.size + 1,1,none⟩ = some (.slice Ae me.ends.length ce):=by simp [go_sem]
   have hlt:=hb.lt;clear hik hie hw hb hbt cW cO cR' cM cK cE k0 k2 hbl hbr hbw hbm hms hlb;generalize ((wr.alloc (.cells #[.int .i64 n,.int .i64 x.other] 70)).alloc (.cells #[.slice Ak me.kinds.length ck,.slice Ae me.ends.length ce] 67)).drew = W5 at *;generalize wr.heap.size = B at *;clear wr;have HB5:=Lib.hid hb5;have HBT5:=Lib.hid hbt5;have HW5:=Lib.hid hw5;clear hb5 hbt5 hw5;have z5:B + 1 < W5.heap.size:=by omega
   have z6:B < W5.heap.size:=by omega
   have m5d:W5.drew.cell? ⟨B + 1,0,none⟩ = some (.slice Ak me.kinds.length ck):=m5;have n5d:W5.drew.cell? ⟨B + 1,1,none⟩ = some (.slice Ae me.ends.length ce):=n5;have s5d:B + 2 <= W5.drew.heap.size:=s5;have z5d:B + 1 < W5.drew.heap.size:=z5;go_wp2_with fail
   go_region_held3 (fun w'=>w'.cell? ⟨B + 1,0,none⟩ = some (.slice Ak me.kinds.length ck) /\ w'.cell? ⟨B + 1,1,none⟩ = some (.slice Ae me.ends.length ce)) (first | go_keep | exact ⟨lat_keep _ _ z5d m5d,lat_keep _ _ z5d n5d⟩)
    (first
     | (go_at_call_of 108 (Value.slice Ak me.kinds.length ck);refine (common_any Ak _ ck none [] 0 _ (hik5.aft (Aft.drew _)) (lists_nil _)).mono ?_;rintro e w' ⟨v1,rfl,hown1,u1,rfl⟩;obtain ⟨A1,d1,rfl,_,hi1⟩:=own_ints (l:=me.kinds) hown1 HKL.out;replace hown1:=World.ownsRow.mono hown1 (base':=B + 2) s5)
     | (go_at_call_of 108 (Value.slice Ae me.ends.length ce);refine (common_any Ae _ ce none [] 0 _ (hie5.aft ((Aft.drew _).then_lat _)) (lists_nil _)).mono ?_;rintro e w' ⟨v2,rfl,hown2,ha2⟩;obtain ⟨A2,d2,rfl,_,hi2⟩:=own_ints (l:=me.ends) hown2 HEL.out;replace hown2:=World.ownsRow.mono hown2 (base':=B + 2) (Nat.le_trans s5d (World.lat_size _ _));replace hown1:=own_aft hown1 ha2;replace hi1:=hi1.aft ha2;obtain ⟨u2,rfl⟩:=(Aft.lat _ _).trans ha2;clear ha2))
   have hw6:=(HW5.out.then_drew).then_lat u2;have hb6:=HB5.out.drew.lat u2;have hbt6:=HBT5.out.drew.lat u2;have x6:(W5.drew.lat u2).cell? ⟨B,1,none⟩ = some (.int .i64 x.other):=lat_keep _ _ (show B < W5.drew.heap.size from z6) x5;have s6:B + 2 <= (W5.drew.lat u2).heap.size:=Nat.le_trans s5d (World.lat_size _ _);have iK:(W5.drew.lat u2).ownsRow (w.heap.size + 2) 3 1 (.slice A1 me.kinds.length d1) me.kinds.length (me.kinds.map (Value.int .i64)):=World.ownsRow.mono hown1 (by omega);have iE:(W5.drew.lat u2).ownsRow (w.heap.size + 2) 3 1 (.slice A2 me.ends.length d2) me.ends.length (me.ends.map (Value.int .i64)):=World.ownsRow.mono hown2 (by omega);clear hik5 hie5 HW5 HB5 HBT5 x5 m5 n5 m5d n5d z5 z5d s5 s5d hown1 hown2;have hP:PInv w T a1 (some ⟨bw,ow,none⟩) a3 (some ⟨bl,ol,none⟩) c1 c2 c3 c4 R w.heap.size (w.heap.size + 1) (w.heap.size + 2) A1 d1 me.kinds A2 d2 me.ends k 0 (W5.drew.lat u2):=⟨hw6,by omega,hbt6,iK,iE,cs,f,hb6,hg,HF.out.start⟩;have z7:B < (W5.drew.lat u2).heap.size:=by omega
   generalize W5.drew.lat u2 = W6 at *;clear z6;have HP:=Lib.hid hP;clear hP hw6 hb6 hbt6 iK iE hg HF;go_upto_if 47 with (fail)
   go_cut [9,10] from 22 to 98 (fun s9 s10 wx=>∃ ks es,kindsAt T R x = ks /\ endsAt T R x = es /\ ks.length <= 17592186043904 /\ es.length <= 17592186043904 /\ JoinR w T a1 (some ⟨bw,ow,none⟩) a3 (some ⟨bl,ol,none⟩) c1 c2 c3 c4 R ks es k s9 s10 wx)
   case first =>
    by_cases ho:x.other = -1
    ·have HK:=Lib.hid (show kindsAt T R x = me.kinds by unfold kindsAt;rw [if_pos ho,HN.out,HME.out]);have HE:=Lib.hid (show endsAt T R x = me.ends by unfold endsAt;rw [if_pos ho,HN.out,HME.out]);have hbF:(x.other != (-1:Int)) = false:=by rw [ho];rfl
     clear ho;go_wp2_with fail
     go_meet;exact ⟨_,_,HK.out,HE.out,HKL.out,HEL.out,A1,d1,A2,d2,rfl,rfl,HP.out⟩
    ·have HBT:=Lib.hid (show (x.other != (-1:Int)) = true by simpa using ho);obtain ⟨o1,o2⟩:=l3.resolve_left ho;obtain ⟨n2,hn2⟩:=Int.eq_ofNat_of_zero_le o1;have hn2w:n2 < T.words.length:=by omega
     have hn2r:n2 < R.length:=by rw [HRO.out.1];exact hn2w
     obtain ⟨r1,r2⟩:=HRO.out.2 n2 hn2r hn2w;obtain ⟨q,hqq⟩:=Int.eq_ofNat_of_zero_le r1;have hql:q < T.words[n2].length:=by omega
     have HME2:=Lib.hid (meanAt_eq hn2w hn2r hqq hql);obtain ⟨b',o',e,hbr,hcr⟩:=(hR.aft HP.out.aft).at hn2r;cases e;have cR':=hcr n2 hn2r;rw [hqq] at cR';obtain ⟨b',o',e,hbw,hcw⟩:=(hT.words.aft WordR.mono HP.out.aft).at hn2w;cases e;obtain ⟨vs,hv1,⟨Am',cm',rfl,hms⟩,hv3⟩:=hcw n2 hn2w;have cM:W6.cell? ⟨bw,ow + n2,none⟩ = some (.slice Am' T.words[n2].length cm'):=by have:=hv3 0 (by simp);simpa using this
     obtain ⟨bm',om',rfl,hbm,hcm⟩:=hms.at hql;obtain ⟨vs,hv4,⟨Ak',ck',Ae',ce',rfl,hik,hie⟩,hv6⟩:=hcm q hql;have cK:W6.cell? ⟨bm',om' + q * 2,none⟩ = some (.slice Ak' T.words[n2][q].kinds.length ck'):=hv6 0 (by simp);have cE:W6.cell? ⟨bm',om' + q * 2 + 1,none⟩ = some (.slice Ae' T.words[n2][q].ends.length ce'):=hv6 1 (by simp);have k2:W6.cell? ⟨w.heap.size,2,none⟩ = some (.slice (some ⟨bw,ow,none⟩) T.words.length c2):=HP.out.box.cell 2;have HK:=Lib.hid (show kindsAt T R x = commonL me.kinds [T.words[n2][q].kinds] by unfold kindsAt;rw [if_neg ho,HN.out,HME.out,hn2,HME2.out]);have HE:=Lib.hid (show endsAt T R x = commonL me.ends [T.words[n2][q].ends] by unfold endsAt;rw [if_neg ho,HN.out,HME.out,hn2,HME2.out]);rw [hn2] at x6;have hx46:=Lib.hid hn2;have hml:T.words[n2].length <= 4:=(OK.out.wlen _ (List.getElem_mem hn2w)).2;clear hv1 hv3 hv4 hv6 hcm hcw hcr o1 o2 hn2 r1 r2 hqq ho l3 HME2;generalize T.words[n2][q] = me2 at *;have hlw:=hT.words.len (by decide);have hrl6:R.length <= 6:=by rw [HRO.out.1];exact OK.out.nwords
     refine wp_cond_true (congrArg Value.bool HBT.out) ?_;refine opened_both w T a1 a3 (some ⟨bl,ol,none⟩) c1 c2 c3 c4 R B A1 d1 me.kinds A2 d2 me.ends k bw ow br or' cR Ak' Ae' ck' ce' me2.kinds me2.ends n2 q bm' om' cm' _ hn2w hn2r hql _ _ _ _ _ _ _ _ _ _ _ _ _ _ _ _ _ _ _ _ _ _ _ _ _ _ _ _ _ _ _ _ _ _ _ _ _ _ _ _ _ _ _ _ _ _ _ _ _ _ _ _ _ _ _ _ _ _ _ _ _ _ _ _ _ _ _ _ _ _ _ _ _ _ _ _ _ _ _ _ _ _ _ _ _ _ _ _ _ _ _ _ _ _ _ _ _ W6 HP.out HKL.out HEL.out hlt z7 hbr hbw hbm x6 cR' cM cK cE hik hie OK.out.nwords hrl6 hml ?_;intro u9 u10 u11 u48 u49 u50 u51 u52 u53 u54 u55 u56 u57 u58 u59 u60 u61 u62 u63 u64 u65 u66 u67 u68 u69 u70 W' hJ;have HJ:=Lib.hid hJ;clear hJ;go_wp2_with fail
     go_meet;exact ⟨_,_,HK.out,HE.out,Nat.le_trans (commonL_le _ _) HKL.out,Nat.le_trans (commonL_le _ _) HEL.out,HJ.out⟩
   case rest =>
    obtain ⟨ks,es,hkx,hex,hks,hes,A1,d1,A2,d2,rfl,rfl,hPI⟩:=hcut;have HKX:=Lib.hid hkx;have HEX:=Lib.hid hex;have HKS:=Lib.hid hks;have HES:=Lib.hid hes;have HPI:=Lib.hid hPI;have t0:wc.cell? ⟨w.heap.size,0,none⟩ = some (.int .i64 p):=by rw [<- HPP.out];exact hPI.box.cell 0
    have t1:=hPI.box.lt;clear hkx hex hks hes hPI;go_wp2_with fail
    clear t0 t1;refine loop73 w T a1 (some ⟨bw,ow,none⟩) a3 (some ⟨bl,ol,none⟩) c1 c2 c3 c4 R w.heap.size (w.heap.size + 1) (w.heap.size + 2) A1 d1 ks A2 d2 es k p x (Nat.le_refl _) (by omega) (by omega) (by omega) hp12 HPP.out HKS.out HES.out OK.out hT.ways HX.out HKX.out HEX.out _ _ _ _ _ _ _ _ _ _ _ _ _ _ _ _ _ _ _ _ _ _ _ _ _ _ _ _ _ _ _ _ _ _ _ _ _ _ _ _ _ _ _ _ _ _ _ _ _ _ _ _ _ _ _ _ _ _ _ _ _ _ _ _ _ _ _ _ _ _ _ _ _ _ _ _ _ _ _ _ _ _ _ _ _ _ _ _ _ _ _ _ _ _ _ _ _ HPI.out ?_;intro u12 u14 u73 u74 u75 u76 u77 u78 u79 u80 u81 u82 u83 u84 u85 u86 u87 u88 u89 u90 u91 u92 u93 u94 u95 u96 u97 u98 W' hP8;have HP8:=Lib.hid hP8;clear hP8;go_wp2_with fail
    refine ⟨⟨k + 1,by go_num,by omega,HP8.out.aft,HP8.out.box,?_⟩,by simp [intOf];omega⟩;obtain ⟨cs,f,h1,h2,h3⟩:=HP8.out.desk;exact ⟨cs,f,h1,h2,h3.done (by rw [HPP.out];omega)⟩
  ·obtain rfl:k = T.legs.length:=by omega
   have HB:=Lib.hid hb;have HG:=Lib.hid hg;clear hb hg hbt;go_wp2_with fail
   go_ret;exact ⟨_,cs,rfl,by omega,hw,HB.out,HG.out.congr fun i a b hi ha hb=>leadsF_of HF.out hi ha hb⟩
end Go.Proofs
end
