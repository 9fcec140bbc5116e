/- Own texts, merged: Rl3 Aln Mln Uni Tol0 Tln Own5 Rbf Ren0. -/
import Derived.Test.YtobpdobneocckaaGreatDoorP17
import Derived.Test.YtobpdobneocckaaGreatDoorP20
import Derived.Shelf.Strconv.Itoa3
import Derived.Shelf.Strings.OnBuilder
import Derived.Lib.ItoaNum
import Derived.Lib.Join
import Derived.BigGuard
section
/- Walks: the drawn region of the law TreatyReadings. -/
namespace Go.Proofs
open Go.RowKit
noncomputable def opsRl (k:Nat):List Oper:=((regAt k (Tryz.f3.body.getD .skip)).getD #[]).toList
theorem put_otherR {a:Act} {s t:Nat} {v:Value} (h:s ≠ t):(a.put (some t) v).eval (.tmp s) = a.eval (.tmp s):=Act.eval_put (fun d hd e=>by cases hd;cases e;exact h rfl)
theorem put_noneR {a:Act} {v:Value}:a.put none v = a:=rfl
def SepR (e4 e5:Bool) (v3 v4:Value) (S:Nat -> Prop):Prop:=(∀ b,e4 = true -> v3 = .pointer (some ⟨b,0,none⟩) -> ¬ S b) /\ (∀ b,e5 = true -> v4 = .pointer (some ⟨b,0,none⟩) -> ¬ S b)
def ClnR (T:Treaty) (v:Value) (S:Nat -> Prop) (w:World):Prop:=∃ (d1 d2 d3 d4:Option Addr) (f1 f2 f3 f4:Nat),v = .agg #[.int .i64 T.places,.slice d1 T.ways.length f1,.slice d2 T.words.length f2,.slice d3 T.starts.length f3,.slice d4 T.legs.length f4] /\ Sup w S (fun W=>TRep W T d1 d2 d3 d4)
def RefK (T:Treaty) (v:Value) (S:Nat -> Prop) (w:World):Prop:=∃ (g1 g2 g3 g4:Option Addr) (h1 h2 h3 h4:Nat),v = .agg #[.int .i64 T.places,.slice g1 T.ways.length h1,.slice g2 T.words.length h2,.slice g3 T.starts.length h3,.slice g4 T.legs.length h4] /\ T.legs.length <= h4 /\ Sup w S (fun W=>TRep W T g1 g2 g3 g4)
def BoxR (X:World) (t:TypeId) (e:Bool) (v u:Value) (w:World):Prop:=∃ b,v = .pointer (some ⟨b,0,none⟩) /\ X.heap.size <= b /\ (e = false -> Blk w b t #[.int .i64 0,.slice none 0 0,.slice none 0 0,.slice none 0 0,.slice none 0 0]) /\ (e = true -> ∃ cs,u = .agg cs /\ Blk w b t cs)
structure W3 (X:World) (T:Treaty) (e1 e3 e4 e5 e6 e7:Bool) (v3 v4 v14 v16:Value) (w:World):Prop where
 aft:Aft X w
 c:e1 = true -> ∃ S,ClnR T v14 S w /\ SepR e4 e5 v3 v4 S
 r:e3 = true -> ∃ S,RefK T v16 S w /\ SepR e4 e5 v3 v4 S
 b3:e4 = true -> BoxR X 27 e6 v3 v14 w
 b4:e5 = true -> BoxR X 35 e7 v4 v16 w
section
variable {T:Treaty} {v u:Value} {S:Nat -> Prop} {w w' X:World} {t:TypeId} {e e1 e3 e4 e5 e6 e7:Bool} {v3 v4 v14 v16:Value}
theorem ClnR.aft (h:ClnR T v S w) (ha:Aft w w'):ClnR T v S w':=let ⟨A1,A2,A3,A4,C1,C2,C3,C4,e,hs⟩:=h;⟨A1,A2,A3,A4,C1,C2,C3,C4,e,Sup.grown hs (only_aft (only_refl w none) ha) (fun _ e=>by cases e)⟩
theorem RefK.aft (h:RefK T v S w) (ha:Aft w w'):RefK T v S w':=let ⟨A1,A2,A3,A4,C1,C2,C3,C4,e,hc,hs⟩:=h;⟨A1,A2,A3,A4,C1,C2,C3,C4,e,hc,Sup.grown hs (only_aft (only_refl w none) ha) (fun _ e=>by cases e)⟩
theorem ClnR.lt (h:ClnR T v S w) {k:Nat} (hk:S k):k < w.heap.size:=let ⟨_,_,_,_,_,_,_,_,_,hs⟩:=h;hs.1 k hk
theorem RefK.lt (h:RefK T v S w) {k:Nat} (hk:S k):k < w.heap.size:=let ⟨_,_,_,_,_,_,_,_,_,_,hs⟩:=h;hs.1 k hk
theorem ClnR.write (h:ClnR T v S w) {b:Nat} (hg:w.grownBy w' (some b)) (hb:¬ S b):ClnR T v S w':=let ⟨A1,A2,A3,A4,C1,C2,C3,C4,e,hs⟩:=h;⟨A1,A2,A3,A4,C1,C2,C3,C4,e,Sup.grown hs hg (fun k e=>by cases e;exact hb)⟩
theorem RefK.write (h:RefK T v S w) {b:Nat} (hg:w.grownBy w' (some b)) (hb:¬ S b):RefK T v S w':=let ⟨A1,A2,A3,A4,C1,C2,C3,C4,e,hc,hs⟩:=h;⟨A1,A2,A3,A4,C1,C2,C3,C4,e,hc,Sup.grown hs hg (fun k e=>by cases e;exact hb)⟩
theorem BoxR.aft (h:BoxR X t e v u w) (ha:Aft w w'):BoxR X t e v u w':=by
 obtain ⟨b,h1,h2,h3,h4⟩:=h;exact ⟨b,h1,h2,fun h=>(h3 h).aft ha,fun h=>let ⟨cs,q1,q2⟩:=h4 h;⟨cs,q1,q2.aft ha⟩⟩
theorem BoxR.lt (h:BoxR X t e v u w) {b:Nat} (hb:v = .pointer (some ⟨b,0,none⟩)):b < w.heap.size:=by
 obtain ⟨b',h1,h2,h3,h4⟩:=h;rw [hb] at h1;cases h1;cases e
 ·exact (h3 rfl).lt
 ·obtain ⟨cs,_,q⟩:=h4 rfl;exact q.lt
theorem W3.later (h:W3 X T e1 e3 e4 e5 e6 e7 v3 v4 v14 v16 w) (ha:Aft w w'):W3 X T e1 e3 e4 e5 e6 e7 v3 v4 v14 v16 w' :=
 ⟨h.aft.trans ha,fun h1=>let ⟨S,q1,q2⟩:=h.c h1;⟨S,q1.aft ha,q2⟩,fun h1=>let ⟨S,q1,q2⟩:=h.r h1;⟨S,q1.aft ha,q2⟩,fun h1=>(h.b3 h1).aft ha,fun h1=>(h.b4 h1).aft ha⟩
theorem W3.clone (h:W3 X T false e3 e4 e5 false e7 v3 v4 v14 v16 w) (ha:Aft w w') (hc:ClnR T u S w') (hS:∀ k,S k -> w.heap.size <= k):W3 X T true e3 e4 e5 false e7 v3 v4 u v16 w':=by
 refine ⟨h.aft.trans ha,fun _=>⟨S,hc,fun b h1 h2 hb=>?_,fun b h1 h2 hb=>?_⟩,fun h1=>let ⟨S,q1,q2⟩:=h.r h1;⟨S,q1.aft ha,q2⟩,fun h1=>?_,fun h1=>(h.b4 h1).aft ha⟩
 ·have:=(h.b3 h1).lt h2;have:=hS b hb;omega
 ·have:=(h.b4 h1).lt h2;have:=hS b hb;omega
 ·obtain ⟨b,q1,q2,q3,q4⟩:=h.b3 h1;exact ⟨b,q1,q2,fun h=>(q3 h).aft ha,fun h=>by cases h⟩
theorem W3.refs (h:W3 X T e1 false e4 e5 e6 false v3 v4 v14 v16 w) (ha:Aft w w') (hc:RefK T u S w') (hS:∀ k,S k -> w.heap.size <= k):W3 X T e1 true e4 e5 e6 false v3 v4 v14 u w':=by
 refine ⟨h.aft.trans ha,fun h1=>let ⟨S,q1,q2⟩:=h.c h1;⟨S,q1.aft ha,q2⟩,fun _=>⟨S,hc,fun b h1 h2 hb=>?_,fun b h1 h2 hb=>?_⟩,fun h1=>(h.b3 h1).aft ha,fun h1=>?_⟩
 ·have:=(h.b3 h1).lt h2;have:=hS b hb;omega
 ·have:=(h.b4 h1).lt h2;have:=hS b hb;omega
 ·obtain ⟨b,q1,q2,q3,q4⟩:=h.b4 h1;exact ⟨b,q1,q2,fun h=>(q3 h).aft ha,fun h=>by cases h⟩
theorem W3.box3 (h:W3 X T e1 e3 false e5 false e7 v3 v4 v14 v16 w):W3 X T e1 e3 true e5 false e7 (.pointer (some ⟨w.heap.size,0,none⟩)) v4 v14 v16 (w.alloc (.cells #[.int .i64 0,.slice none 0 0,.slice none 0 0,.slice none 0 0,.slice none 0 0] 27)):=by
 have ha:=Aft.alloc w (.cells #[.int .i64 0,.slice none 0 0,.slice none 0 0,.slice none 0 0,.slice none 0 0] 27);refine ⟨h.aft.trans ha,fun h1=>let ⟨S,q1,q2⟩:=h.c h1;⟨S,q1.aft ha,fun b _ hb hs=>?_,q2.2⟩,fun h1=>let ⟨S,q1,q2⟩:=h.r h1;⟨S,q1.aft ha,fun b _ hb hs=>?_,q2.2⟩,fun _=>⟨_,rfl,h.aft.size,fun _=>Blk.new _ _ _,fun h=>by cases h⟩,fun h1=>(h.b4 h1).aft ha⟩
 ·cases hb;have:=q1.lt hs;omega
 ·cases hb;have:=q1.lt hs;omega
theorem W3.box4 (h:W3 X T e1 e3 e4 false e6 false v3 v4 v14 v16 w):W3 X T e1 e3 e4 true e6 false v3 (.pointer (some ⟨w.heap.size,0,none⟩)) v14 v16 (w.alloc (.cells #[.int .i64 0,.slice none 0 0,.slice none 0 0,.slice none 0 0,.slice none 0 0] 35)):=by
 have ha:=Aft.alloc w (.cells #[.int .i64 0,.slice none 0 0,.slice none 0 0,.slice none 0 0,.slice none 0 0] 35);refine ⟨h.aft.trans ha,fun h1=>let ⟨S,q1,q2⟩:=h.c h1;⟨S,q1.aft ha,q2.1,fun b _ hb hs=>?_⟩,fun h1=>let ⟨S,q1,q2⟩:=h.r h1;⟨S,q1.aft ha,q2.1,fun b _ hb hs=>?_⟩,fun h1=>(h.b3 h1).aft ha,fun _=>⟨_,rfl,h.aft.size,fun _=>Blk.new _ _ _,fun h=>by cases h⟩⟩
 ·cases hb;have:=q1.lt hs;omega
 ·cases hb;have:=q1.lt hs;omega
theorem BoxR.other {t':TypeId} {b:Nat} {cs:Array Value} (h:BoxR X t e v u w) (hb:Blk w b t' cs) (ht:t ≠ t') (hg:w.grownBy w' (some b)):BoxR X t e v u w':=by
 obtain ⟨b',h1,h2,h3,h4⟩:=h
 have hne:∀ {cs'},Blk w b' t cs' -> some b' ≠ some b:=fun q e=>by
  cases e;have e1:w.heap[b]? = some (.cells _ t (0,0)):=q;have e2:w.heap[b]? = some (.cells _ t' (0,0)):=hb;rw [e1] at e2;injection e2 with e2
  injection e2 with _ e2 _
  exact ht e2
 exact ⟨b',h1,h2,fun h=>(h3 h).grown hg (hne (h3 h)),fun h=>let ⟨cs,q1,q2⟩:=h4 h;⟨cs,q1,q2.grown hg (hne q2)⟩⟩
theorem W3.put3 {b:Nat} {cs:Array Value} (h:W3 X T e1 e3 true e5 false e7 (.pointer (some ⟨b,0,none⟩)) v4 (.agg cs) v16 w) (hg:w.grownBy w' (some b)) (hb:Blk w' b 27 cs):W3 X T e1 e3 true e5 true e7 (.pointer (some ⟨b,0,none⟩)) v4 (.agg cs) v16 w':=by
 obtain ⟨b',q1,q2,q3,-⟩:=h.b3 rfl;cases q1;refine ⟨h.aft.grown hg (fun k e=>by cases e;exact q2),fun h1=>let ⟨S,p1,p2⟩:=h.c h1;⟨S,p1.write hg (p2.1 b rfl rfl),p2⟩,fun h1=>let ⟨S,p1,p2⟩:=h.r h1;⟨S,p1.write hg (p2.1 b rfl rfl),p2⟩,fun _=>⟨b,rfl,q2,(fun h=>by cases h),fun _=>⟨cs,rfl,hb⟩⟩,fun h1=>(h.b4 h1).other (q3 rfl) (by decide) hg⟩
theorem W3.put4 {b:Nat} {cs:Array Value} (h:W3 X T e1 e3 e4 true e6 false v3 (.pointer (some ⟨b,0,none⟩)) v14 (.agg cs) w) (hg:w.grownBy w' (some b)) (hb:Blk w' b 35 cs):W3 X T e1 e3 e4 true e6 true v3 (.pointer (some ⟨b,0,none⟩)) v14 (.agg cs) w':=by
 obtain ⟨b',q1,q2,q3,-⟩:=h.b4 rfl;cases q1;refine ⟨h.aft.grown hg (fun k e=>by cases e;exact q2),fun h1=>let ⟨S,p1,p2⟩:=h.c h1;⟨S,p1.write hg (p2.2 b rfl rfl),p2⟩,fun h1=>let ⟨S,p1,p2⟩:=h.r h1;⟨S,p1.write hg (p2.2 b rfl rfl),p2⟩,fun h1=>(h.b3 h1).other (q3 rfl) (by decide) hg,fun _=>⟨b,rfl,q2,(fun h=>by cases h),fun _=>⟨cs,rfl,hb⟩⟩⟩
end
def Wr3 (X:World) (T:Treaty) (done:Nat -> Bool) (a:Act) (w:World):Prop:=W3 X T (done 1) (done 3) (done 4) (done 5) (done 6) (done 7) (a.eval (.tmp 3)) (a.eval (.tmp 4)) (a.eval (.tmp 14)) (a.eval (.tmp 16)) w
def Fr3 (T:Treaty) (a1 a2 a3 a4:Option Addr) (c1 c2 c3 c4:Nat) (_:Nat -> Bool):Nat -> Value -> World -> Prop
 | 0,v,_=>v = .agg #[.int .i64 T.places,.slice a1 T.ways.length c1,.slice a2 T.words.length c2,.slice a3 T.starts.length c3,.slice a4 T.legs.length c4]
 | 2,v,_=>v = .agg #[.int .i64 T.places,.slice a1 T.ways.length c1,.slice a2 T.words.length c2,.slice a3 T.starts.length c3,.slice a4 T.legs.length c4]
 | _,_,_=>True
theorem Fr3.any {T:Treaty} (a1 a2 a3 a4:Option Addr) (c1 c2 c3 c4:Nat) {done done':Nat -> Bool} {i:Nat} {v:Value} {w w':World} (h:Fr3 T a1 a2 a3 a4 c1 c2 c3 c4 done i v w):Fr3 T a1 a2 a3 a4 c1 c2 c3 c4 done' i v w':=by
 unfold Fr3 at h ⊢;split at h <;> exact h
def ch3 (s:Nat):Bool:=decide (s = 3) || decide (s = 4) || decide (s = 13) || decide (s = 14) || decide (s = 15) || decide (s = 16)
theorem boxR5 {X:World} {g:Nat} {t:TypeId} {p v1 v2 v3 v4:Value} (h:Blk X g t #[p,v1,v2,v3,v4]):X.cell? ⟨g,0,none⟩ = some p /\ X.cell? ⟨g,1,none⟩ = some v1 /\ X.cell? ⟨g,2,none⟩ = some v2 /\ X.cell? ⟨g,3,none⟩ = some v3 /\ X.cell? ⟨g,4,none⟩ = some v4 :=
 ⟨h.cell 0,h.cell 1,h.cell 2,h.cell 3,h.cell 4⟩
theorem blk_fiveR {w:World} {b:Nat} {t:TypeId} (h:Blk w b t #[.int .i64 0,.slice none 0 0,.slice none 0 0,.slice none 0 0,.slice none 0 0]) (p v1 v2 v3 v4:Value) :
  Blk (((((w.setCell ⟨b,0,none⟩ p).setCell ⟨b,1,none⟩ v1).setCell ⟨b,2,none⟩ v2).setCell ⟨b,3,none⟩ v3).setCell ⟨b,4,none⟩ v4) b t #[p,v1,v2,v3,v4] /\ w.grownBy (((((w.setCell ⟨b,0,none⟩ p).setCell ⟨b,1,none⟩ v1).setCell ⟨b,2,none⟩ v2).setCell ⟨b,3,none⟩ v3).setCell ⟨b,4,none⟩ v4) (some b) :=
 ⟨((((h.store 0 p).store 1 v1).store 2 v2).store 3 v3).store 4 v4,only_setCell (only_setCell (only_setCell (only_setCell (only_setCell (only_refl w (some b)) (.inl rfl) p) (.inl rfl) v1) (.inl rfl) v2) (.inl rfl) v3) (.inl rfl) v4⟩
set_option maxRecDepth 100000 in
set_option maxHeartbeats 2000000 in
theorem region3_rl (T:Treaty) (a1 a2 a3 a4:Option Addr) (c1 c2 c3 c4:Nat) (D:Nat) (a0:Act) (Q0:Exit -> Act -> World -> Prop) (X:World) (hz:a0.tmps.size = 81) (s1:a0.eval (.tmp 1) = .pointer (some ⟨D,0,none⟩))
  (hT:TRep X T a1 a2 a3 a4) (hbx:Blk X D 27 #[.int .i64 T.places,.slice a1 T.ways.length c1,.slice a2 T.words.length c2,.slice a3 T.starts.length c3,.slice a4 T.legs.length c4]) (hl1:T.ways.length <= 1000) (hl2:T.words.length <= 100) (hl3:T.starts.length <= 1000) (hl4:T.legs.length <= 1000) (hwl:∀ l ∈ T.words,l.length <= 100)
  (hexit:∀ a W',a.tmps.size = 81 -> a.defers = a0.defers -> (∀ s:Nat,ch3 s = false -> a.eval (.tmp s) = a0.eval (.tmp s)) -> W3 X T true true true true true true (a.eval (.tmp 3)) (a.eval (.tmp 4)) (a.eval (.tmp 14)) (a.eval (.tmp 16)) W' -> Q0 .normal a W') :
  Code.wp Tryz.prog (Code.region 3 (opsRl 3).toArray true) Q0 a0 X:=by
 have HEX:=Lib.hid hexit;clear hexit;refine wp_region_factsF (by kernel_rfl) 81 hz (by kernel_rfl) (Fr3 T a1 a2 a3 a4 c1 c2 c3 c4) (Wr3 X T) ⟨Aft.drew _,(fun h=>by cases h),(fun h=>by cases h),(fun h=>by cases h),(fun h=>by cases h)⟩ ?step ?fin
 case step =>
  intro i o ho done a w hH hd hp K hK;have hW:=hH.wd
  have hold:∀ s:Nat,ch3 s = false -> a.eval (.tmp s) = a0.eval (.tmp s):=fun s h=>hH.old s fun k ok hk hs=>by
   match k,hk with
   | 0,hk=>cases hk;cases hs;exact absurd h (by decide)
   | 1,hk=>cases hk;cases hs;exact absurd h (by decide)
   | 2,hk=>cases hk;cases hs;exact absurd h (by decide)
   | 3,hk=>cases hk;cases hs;exact absurd h (by decide)
   | 4,hk=>cases hk;cases hs;exact absurd h (by decide)
   | 5,hk=>cases hk;cases hs;exact absurd h (by decide)
   | 6,hk=>cases hk;cases hs
   | 7,hk=>cases hk;cases hs
   | _ + 8,hk=>cases hk
  match i,ho,hd,hp,hK with
  | 0,ho,hd,hp,hK =>
   cases ho;have e:a.eval (.tmp 1) = .pointer (some ⟨D,0,none⟩):=(hold 1 (by decide)).trans s1;obtain ⟨k0,k1,k2,k3,k4⟩:=boxR5 (hbx.aft hW.aft);refine op_value (v:=.agg #[.int .i64 T.places,.slice a1 T.ways.length c1,.slice a2 T.words.length c2,.slice a3 T.starts.length c3,.slice a4 T.legs.length c4]) (by simp [go_sem,ev e,k0,k1,k2,k3,k4]) (hK _ _ rfl ?_ fun j _ _ _ _ _ hu=>hu.any);unfold Wr3;rw [put_otherR (by decide),put_otherR (by decide),put_otherR (by decide),put_otherR (by decide)];exact hW
  | 1,ho,hd,hp,hK =>
   cases ho
   have h6:done 6 = false:=by
    cases hdk:done 6 with
    | false=>rfl
    | true=>have:=hH.closed 6 _ rfl hdk 1 (by decide);rw [hd] at this;cases this
   have e:a.eval (.tmp 13) = .agg #[.int .i64 T.places,.slice a1 T.ways.length c1,.slice a2 T.words.length c2,.slice a3 T.starts.length c3,.slice a4 T.legs.length c4]:=hH.fact 0 _ 13 rfl rfl (hp 0 (by decide));refine op_call1 Tryz.func10 (by kernel_rfl) (by kernel_rfl) _ rfl e (cloneTreaty_any w T a1 a2 a3 a4 c1 c2 c3 c4 (hT.aft hW.aft) (by omega) (by omega) (by omega) (by omega) hwl) ?_;rintro e w' ⟨A1,A2,A3,A4,C1,C2,C3,C4,S,rfl,hc,ha,hs,hn,hS⟩;refine ⟨_,rfl,hK _ _ trivial ?_ fun j _ _ _ _ _ hu=>hu.any⟩;unfold Wr3 at hW ⊢;rw [put_otherR (by decide),put_otherR (by decide),Act.eval_put_same _ _ _ (by rw [hH.size,hz];decide),put_otherR (by decide)];rw [hd,h6] at hW;show W3 X T true (done 3) (done 4) (done 5) (done 6) (done 7) _ _ _ _ w';rw [h6];exact hW.clone ha ⟨A1,A2,A3,A4,C1,C2,C3,C4,rfl,hs⟩ hS
  | 2,ho,hd,hp,hK =>
   cases ho;have e:a.eval (.tmp 1) = .pointer (some ⟨D,0,none⟩):=(hold 1 (by decide)).trans s1;obtain ⟨k0,k1,k2,k3,k4⟩:=boxR5 (hbx.aft hW.aft);refine op_value (v:=.agg #[.int .i64 T.places,.slice a1 T.ways.length c1,.slice a2 T.words.length c2,.slice a3 T.starts.length c3,.slice a4 T.legs.length c4]) (by simp [go_sem,ev e,k0,k1,k2,k3,k4]) (hK _ _ rfl ?_ fun j _ _ _ _ _ hu=>hu.any);unfold Wr3;rw [put_otherR (by decide),put_otherR (by decide),put_otherR (by decide),put_otherR (by decide)];exact hW
  | 3,ho,hd,hp,hK =>
   cases ho
   have h7:done 7 = false:=by
    cases hdk:done 7 with
    | false=>rfl
    | true=>have:=hH.closed 7 _ rfl hdk 3 (by decide);rw [hd] at this;cases this
   have e:a.eval (.tmp 15) = .agg #[.int .i64 T.places,.slice a1 T.ways.length c1,.slice a2 T.words.length c2,.slice a3 T.starts.length c3,.slice a4 T.legs.length c4]:=hH.fact 2 _ 15 rfl rfl (hp 2 (by decide));refine op_call1 Tryz.func11 (by kernel_rfl) (by kernel_rfl) _ rfl e (treatyRef_sup w T a1 a2 a3 a4 c1 c2 c3 c4 (hT.aft hW.aft) (by omega) (by omega) (by omega) (by omega) hwl) ?_;rintro e w' ⟨A1,A2,A3,A4,C1,C2,C3,C4,S,rfl,ha,hs,hc,hS⟩;refine ⟨_,rfl,hK _ _ trivial ?_ fun j _ _ _ _ _ hu=>hu.any⟩;unfold Wr3 at hW ⊢;rw [put_otherR (by decide),put_otherR (by decide),put_otherR (by decide),Act.eval_put_same _ _ _ (by rw [hH.size,hz];decide)];rw [hd,h7] at hW;show W3 X T (done 1) true (done 4) (done 5) (done 6) (done 7) _ _ _ _ w';rw [h7];exact hW.refs ha ⟨A1,A2,A3,A4,C1,C2,C3,C4,rfl,hc,hs⟩ hS
  | 4,ho,hd,hp,hK =>
   cases ho
   have h6:done 6 = false:=by
    cases hdk:done 6 with
    | false=>rfl
    | true=>have:=hH.closed 6 _ rfl hdk 4 (by decide);rw [hd] at this;cases this
   have:=hK (.pointer (some ⟨w.heap.size,0,none⟩)) (w.alloc (.cells #[.int .i64 0,.slice none 0 0,.slice none 0 0,.slice none 0 0,.slice none 0 0] 27)) trivial (by
    unfold Wr3 at hW ⊢;rw [Act.eval_put_same _ _ _ (by rw [hH.size,hz];decide),put_otherR (by decide),put_otherR (by decide),put_otherR (by decide)];rw [hd,h6] at hW;show W3 X T (done 1) (done 3) true (done 5) (done 6) (done 7) _ _ _ _ _;rw [h6];exact hW.box3) fun j _ _ _ _ _ hu=>hu.any
   unfold Oper.wp;simpa [go_sem] using this
  | 5,ho,hd,hp,hK =>
   cases ho
   have h7:done 7 = false:=by
    cases hdk:done 7 with
    | false=>rfl
    | true=>have:=hH.closed 7 _ rfl hdk 5 (by decide);rw [hd] at this;cases this
   have:=hK (.pointer (some ⟨w.heap.size,0,none⟩)) (w.alloc (.cells #[.int .i64 0,.slice none 0 0,.slice none 0 0,.slice none 0 0,.slice none 0 0] 35)) trivial (by
    unfold Wr3 at hW ⊢;rw [put_otherR (by decide),Act.eval_put_same _ _ _ (by rw [hH.size,hz];decide),put_otherR (by decide),put_otherR (by decide)];rw [hd,h7] at hW;show W3 X T (done 1) (done 3) (done 4) true (done 6) (done 7) _ _ _ _ _;rw [h7];exact hW.box4) fun j _ _ _ _ _ hu=>hu.any
   unfold Oper.wp;simpa [go_sem] using this
  | 6,ho,hd,hp,hK =>
   cases ho;have g1:done 1 = true:=hp 1 (by decide);have g4:done 4 = true:=hp 4 (by decide);have hW':W3 X T (done 1) (done 3) (done 4) (done 5) (done 6) (done 7) (a.eval (.tmp 3)) (a.eval (.tmp 4)) (a.eval (.tmp 14)) (a.eval (.tmp 16)) w:=hW;obtain ⟨S,⟨A1,A2,A3,A4,C1,C2,C3,C4,e,hs⟩,hsep⟩:=hW'.c g1;obtain ⟨b,e2,hbb,hbl,-⟩:=hW'.b3 g4;have hb0:=hbl hd;obtain ⟨h5,hg5⟩:=blk_fiveR hb0 (.int .i64 T.places) (.slice A1 T.ways.length C1) (.slice A2 T.words.length C2) (.slice A3 T.starts.length C3) (.slice A4 T.legs.length C4);have:=hK undef _ trivial (by
    rw [put_noneR];show W3 X T (done 1) (done 3) (done 4) (done 5) true (done 7) _ _ _ _ _;rw [e,e2,g4] at hW' ⊢;rw [hd] at hW';exact hW'.put3 hg5 h5) fun j _ _ _ _ _ hu=>hu.any
   have hlt:=hb0.lt;have hf:∀ i,w.frozen? ⟨b,i,none⟩ = false:=fun i=>hb0.frozen i
   have j0:w.cell? ⟨b,0,none⟩ = some (.int .i64 0):=hb0.cell 0;have j1:w.cell? ⟨b,1,none⟩ = some (.slice none 0 0):=hb0.cell 1;have j2:w.cell? ⟨b,2,none⟩ = some (.slice none 0 0):=hb0.cell 2;have j3:w.cell? ⟨b,3,none⟩ = some (.slice none 0 0):=hb0.cell 3;have j4:w.cell? ⟨b,4,none⟩ = some (.slice none 0 0):=hb0.cell 4;unfold Oper.wp;simpa [go_sem,ev e,ev e2,hf,j0,j1,j2,j3,j4,hlt] using this
  | 7,ho,hd,hp,hK =>
   cases ho;have g1:done 3 = true:=hp 3 (by decide);have g4:done 5 = true:=hp 5 (by decide);have hW':W3 X T (done 1) (done 3) (done 4) (done 5) (done 6) (done 7) (a.eval (.tmp 3)) (a.eval (.tmp 4)) (a.eval (.tmp 14)) (a.eval (.tmp 16)) w:=hW;obtain ⟨S,⟨A1,A2,A3,A4,C1,C2,C3,C4,e,hc,hs⟩,hsep⟩:=hW'.r g1;obtain ⟨b,e2,hbb,hbl,-⟩:=hW'.b4 g4;have hb0:=hbl hd;obtain ⟨h5,hg5⟩:=blk_fiveR hb0 (.int .i64 T.places) (.slice A1 T.ways.length C1) (.slice A2 T.words.length C2) (.slice A3 T.starts.length C3) (.slice A4 T.legs.length C4);have:=hK undef _ trivial (by
    rw [put_noneR];show W3 X T (done 1) (done 3) (done 4) (done 5) (done 6) true _ _ _ _ _;rw [e,e2,g4] at hW' ⊢;rw [hd] at hW';exact hW'.put4 hg5 h5) fun j _ _ _ _ _ hu=>hu.any
   have hlt:=hb0.lt;have hf:∀ i,w.frozen? ⟨b,i,none⟩ = false:=fun i=>hb0.frozen i
   have j0:w.cell? ⟨b,0,none⟩ = some (.int .i64 0):=hb0.cell 0;have j1:w.cell? ⟨b,1,none⟩ = some (.slice none 0 0):=hb0.cell 1;have j2:w.cell? ⟨b,2,none⟩ = some (.slice none 0 0):=hb0.cell 2;have j3:w.cell? ⟨b,3,none⟩ = some (.slice none 0 0):=hb0.cell 3;have j4:w.cell? ⟨b,4,none⟩ = some (.slice none 0 0):=hb0.cell 4;unfold Oper.wp;simpa [go_sem,ev e,ev e2,hf,j0,j1,j2,j3,j4,hlt] using this
  | _ + 8,ho,_,_,_=>cases ho
 case fin =>
  intro done a w hall hH;have hdone:∀ i,i < 8 -> done i = true:=fun i hi=>hall i (by exact hi)
  have hold:∀ s:Nat,ch3 s = false -> a.eval (.tmp s) = a0.eval (.tmp s):=fun s h=>hH.old s fun k ok hk hs=>by
   match k,hk with
   | 0,hk=>cases hk;cases hs;exact absurd h (by decide)
   | 1,hk=>cases hk;cases hs;exact absurd h (by decide)
   | 2,hk=>cases hk;cases hs;exact absurd h (by decide)
   | 3,hk=>cases hk;cases hs;exact absurd h (by decide)
   | 4,hk=>cases hk;cases hs;exact absurd h (by decide)
   | 5,hk=>cases hk;cases hs;exact absurd h (by decide)
   | 6,hk=>cases hk;cases hs
   | 7,hk=>cases hk;cases hs
   | _ + 8,hk=>cases hk
  have hW:Wr3 X T done a w:=hH.wd;unfold Wr3 at hW;rw [hdone 1 (by decide),hdone 3 (by decide),hdone 4 (by decide),hdone 5 (by decide),hdone 6 (by decide),hdone 7 (by decide)] at hW;exact HEX.out a w (hH.size.trans hz) hH.defers hold hW
set_option maxRecDepth 100000 in
set_option maxHeartbeats 2000000 in
theorem region3_rllit (T:Treaty) (a1 a2 a3 a4:Option Addr) (c1 c2 c3 c4:Nat) (D:Nat) (X:World)
  (hT:TRep X T a1 a2 a3 a4) (hbx:Blk X D 27 #[.int .i64 T.places,.slice a1 T.ways.length c1,.slice a2 T.words.length c2,.slice a3 T.starts.length c3,.slice a4 T.legs.length c4]) (hl1:T.ways.length <= 1000) (hl2:T.words.length <= 100) (hl3:T.starts.length <= 1000) (hl4:T.legs.length <= 1000) (hwl:∀ l ∈ T.words,l.length <= 100)
  (q0 q2 q3 q4 q5 q6 q7 q8 q9 q10 q11 q12 q13 q14 q15 q16 q17 q18 q19 q20 q21 q22 q23 q24 q25 q26 q27 q28 q29 q30 q31 q32 q33 q34 q35 q36 q37 q38 q39 q40 q41 q42 q43 q44 q45 q46 q47 q48 q49 q50 q51 q52 q53 q54 q55 q56 q57 q58 q59 q60 q61 q62 q63 q64 q65 q66 q67 q68 q69 q70 q71 q72 q73 q74 q75 q76 q77 q78 q79 q80:Value) (Q0:Exit -> Act -> World -> Prop)
  (hexit:∀ (u13 u15:Value) (b b2:Nat) (d1 d2 d3 d4:Option Addr) (f1 f2 f3 f4:Nat) (g1 g2 g3 g4:Option Addr) (h1 h2 h3 h4:Nat) W',Blk W' b 27 #[.int .i64 T.places,.slice d1 T.ways.length f1,.slice d2 T.words.length f2,.slice d3 T.starts.length f3,.slice d4 T.legs.length f4] -> Blk W' b2 35 #[.int .i64 T.places,.slice g1 T.ways.length h1,.slice g2 T.words.length h2,.slice g3 T.starts.length h3,.slice g4 T.legs.length h4] -> TRep W' T d1 d2 d3 d4 -> TRep W' T g1 g2 g3 g4 -> T.legs.length <= h4 -> Aft X W' -> Q0 .normal ⟨(List.toArray (q0 :: .pointer (some ⟨D,0,none⟩) :: q2 :: .pointer (some ⟨b,0,none⟩) :: .pointer (some ⟨b2,0,none⟩) :: q5 :: q6 :: q7 :: q8 :: q9 :: q10 :: q11 :: q12 :: u13 :: .agg #[.int .i64 T.places,.slice d1 T.ways.length f1,.slice d2 T.words.length f2,.slice d3 T.starts.length f3,.slice d4 T.legs.length f4] :: u15 :: .agg #[.int .i64 T.places,.slice g1 T.ways.length h1,.slice g2 T.words.length h2,.slice g3 T.starts.length h3,.slice g4 T.legs.length h4] :: q17 :: q18 :: q19 :: q20 :: q21 :: q22 :: q23 :: q24 :: q25 :: q26 :: q27 :: q28 :: q29 :: q30 :: q31 :: q32 :: q33 :: q34 :: q35 :: q36 :: q37 :: q38 :: q39 :: q40 :: q41 :: q42 :: q43 :: q44 :: q45 :: q46 :: q47 :: q48 :: q49 :: q50 :: q51 :: q52 :: q53 :: q54 :: q55 :: q56 :: q57 :: q58 :: q59 :: q60 :: q61 :: q62 :: q63 :: q64 :: q65 :: q66 :: q67 :: q68 :: q69 :: q70 :: q71 :: q72 :: q73 :: q74 :: q75 :: q76 :: q77 :: q78 :: q79 :: q80 :: [])),[]⟩ W') :
  Code.wp Tryz.prog (Code.region 3 (opsRl 3).toArray true) Q0 ⟨(List.toArray (q0 :: .pointer (some ⟨D,0,none⟩) :: q2 :: q3 :: q4 :: q5 :: q6 :: q7 :: q8 :: q9 :: q10 :: q11 :: q12 :: q13 :: q14 :: q15 :: q16 :: q17 :: q18 :: q19 :: q20 :: q21 :: q22 :: q23 :: q24 :: q25 :: q26 :: q27 :: q28 :: q29 :: q30 :: q31 :: q32 :: q33 :: q34 :: q35 :: q36 :: q37 :: q38 :: q39 :: q40 :: q41 :: q42 :: q43 :: q44 :: q45 :: q46 :: q47 :: q48 :: q49 :: q50 :: q51 :: q52 :: q53 :: q54 :: q55 :: q56 :: q57 :: q58 :: q59 :: q60 :: q61 :: q62 :: q63 :: q64 :: q65 :: q66 :: q67 :: q68 :: q69 :: q70 :: q71 :: q72 :: q73 :: q74 :: q75 :: q76 :: q77 :: q78 :: q79 :: q80 :: [])),[]⟩ X:=by
 refine region3_rl T a1 a2 a3 a4 c1 c2 c3 c4 D _ Q0 X rfl rfl hT hbx hl1 hl2 hl3 hl4 hwl ?_;intro a W' hz hd hs hW;obtain ⟨S,⟨d1,d2,d3,d4,f1,f2,f3,f4,e14,hs1⟩,-⟩:=hW.c rfl;obtain ⟨S',⟨g1,g2,g3,g4,h1,h2,h3,h4,e16,hc,hs2⟩,-⟩:=hW.r rfl;obtain ⟨b,e3,-,-,hb⟩:=hW.b3 rfl;obtain ⟨b2,e4,-,-,hb2⟩:=hW.b4 rfl;obtain ⟨cs,e5,hb⟩:=hb rfl;obtain ⟨cs2,e6,hb2⟩:=hb2 rfl;rw [e14] at e5;rw [e16] at e6;cases e5;cases e6;have e:=frame_act 81 a _ hz hd ch3 (fun s hp=>hs s hp);have e2:a = ⟨(List.toArray (q0 :: .pointer (some ⟨D,0,none⟩) :: q2 :: a.eval (.tmp 3) :: a.eval (.tmp 4) :: q5 :: q6 :: q7 :: q8 :: q9 :: q10 :: q11 :: q12 :: a.eval (.tmp 13) :: a.eval (.tmp 14) :: a.eval (.tmp 15) :: a.eval (.tmp 16) :: q17 :: q18 :: q19 :: q20 :: q21 :: q22 :: q23 :: q24 :: q25 :: q26 :: q27 :: q28 :: q29 :: q30 :: q31 :: q32 :: q33 :: q34 :: q35 :: q36 :: q37 :: q38 :: q39 :: q40 :: q41 :: q42 :: q43 :: q44 :: q45 :: q46 :: q47 :: q48 :: q49 :: q50 :: q51 :: q52 :: q53 :: q54 :: q55 :: q56 :: q57 :: q58 :: q59 :: q60 :: q61 :: q62 :: q63 :: q64 :: q65 :: q66 :: q67 :: q68 :: q69 :: q70 :: q71 :: q72 :: q73 :: q74 :: q75 :: q76 :: q77 :: q78 :: q79 :: q80 :: [])),[]⟩:=e;have h:=hexit (a.eval (.tmp 13)) (a.eval (.tmp 15)) b b2 d1 d2 d3 d4 f1 f2 f3 f4 g1 g2 g3 g4 h1 h2 h3 h4 W' hb hb2 hs1.self hs2.self hc hW.aft;rw [e3,e4,e14,e16] at e2;rw [<- e2] at h;exact h
end Go.Proofs
end
section
/- Plain: the lines of all readings,each once,in their order. -/
namespace Go.Proofs
def lexB:List Int -> List Int -> Bool
 | a :: x,b :: y=>if a = b then lexB x y else decide (a < b)
 | _,_=>false
theorem lexB_irrefl:∀ l,lexB l l = false
 | []=>rfl
 | a :: x=>by unfold lexB;rw [if_pos rfl];exact lexB_irrefl x
theorem lexB_trans:∀ {x y z:List Int},lexB x y = true -> lexB y z = true -> lexB x z = true
 | [],_,_,h,_=>by cases h
 | _ :: _,[],_,h,_=>by cases h
 | _ :: _,_ :: _,[],_,h=>by cases h
 | a :: x,b :: y,c :: z,h1,h2=>by
  unfold lexB at h1 h2 ⊢;by_cases e1:a = b
  ·subst e1;rw [if_pos rfl] at h1;by_cases e2:a = c
   ·rw [if_pos e2] at h2 ⊢;exact lexB_trans h1 h2
   ·rw [if_neg e2] at h2 ⊢;exact h2
  ·rw [if_neg e1] at h1;have h1':=of_decide_eq_true h1;by_cases e2:b = c
   ·subst e2;rw [if_neg e1];exact h1
   ·rw [if_neg e2] at h2;have h2':=of_decide_eq_true h2;rw [if_neg (by omega)];exact decide_eq_true (by omega)
theorem lexB_asymm {x y:List Int} (h:lexB x y = true):lexB y x = false:=by
 cases h2:lexB y x with
 | false=>rfl
 | true=>have:=lexB_trans h h2;rw [lexB_irrefl] at this;cases this
theorem lexB_total:∀ {x y:List Int},x.length = y.length -> lexB x y = false -> lexB y x = false -> x = y
 | [],[],_,_,_=>rfl
 | [],_ :: _,h,_,_=>by simp at h
 | _ :: _,[],h,_,_=>by simp at h
 | a :: x,b :: y,h,h1,h2=>by
  unfold lexB at h1 h2;by_cases e:a = b
  ·subst e;rw [if_pos rfl] at h1 h2;rw [lexB_total (by simpa using h) h1 h2]
  ·rw [if_neg e] at h1;rw [if_neg (Ne.symm e)] at h2;have h1':=of_decide_eq_false h1;have h2':=of_decide_eq_false h2;omega
def SortedL (l:List (List Int)):Prop:=l.Pairwise fun x y=>lexB x y = true
theorem SortedL.nodup {l:List (List Int)} (h:SortedL l):l.Nodup:=List.Pairwise.imp (fun h e=>by subst e;rw [lexB_irrefl] at h;cases h) h
theorem sorted_unique {l m:List (List Int)} (h1:SortedL l) (h2:SortedL m) (h:∀ x,x ∈ l ↔ x ∈ m):l = m :=
 List.Perm.eq_of_pairwise (fun a b _ _ h1 h2=>by rw [lexB_asymm h1] at h2;cases h2) h1 h2 ((List.perm_ext_iff_of_nodup h1.nodup h2.nodup).2 h)
def insL (l:List Int):List (List Int) -> List (List Int)
 | []=>[l]
 | x :: r=>if lexB x l = true then x :: insL l r else if lexB l x = true then l :: x :: r else x :: r
theorem mem_insL {n:Nat} {l:List Int} (hl:l.length = n):∀ {out:List (List Int)},(∀ x ∈ out,x.length = n) -> ∀ y,y ∈ insL l out ↔ y = l \/ y ∈ out
 | [],_,y=>by simp [insL]
 | x :: r,h,y=>by
  unfold insL;split
  ·rw [List.mem_cons,mem_insL hl (fun z hz=>h z (List.mem_cons_of_mem _ hz)),List.mem_cons];constructor
   ·rintro (h | h | h)
    ·exact .inr (.inl h)
    ·exact .inl h
    ·exact .inr (.inr h)
   ·rintro (h | h | h)
    ·exact .inr (.inl h)
    ·exact .inl h
    ·exact .inr (.inr h)
  ·rename_i h1
   split
   ·simp
   ·rename_i h2
    have e:x = l:=lexB_total ((h x (List.mem_cons_self)).trans hl.symm) (by simpa using h1) (by simpa using h2);subst e
    simp
theorem sorted_insL {n:Nat} {l:List Int} (hl:l.length = n):∀ {out:List (List Int)},(∀ x ∈ out,x.length = n) -> SortedL out -> SortedL (insL l out)
 | [],_,_=>List.pairwise_singleton _ _
 | x :: r,h,hs=>by
  obtain ⟨h1,h2⟩:=List.pairwise_cons.1 hs;unfold insL;split
  ·rename_i hx
   refine List.pairwise_cons.2 ⟨fun y hy=>?_,sorted_insL hl (fun z hz=>h z (List.mem_cons_of_mem _ hz)) h2⟩;rcases (mem_insL hl (fun z hz=>h z (List.mem_cons_of_mem _ hz)) y).1 hy with rfl | hy
   ·exact hx
   ·exact h1 y hy
  ·split
   ·rename_i hx
    refine List.pairwise_cons.2 ⟨fun y hy=>?_,hs⟩;rcases List.mem_cons.1 hy with rfl | hy
    ·exact hx
    ·exact lexB_trans hx (h1 y hy)
   ·exact hs
def allIn (ls:List (List Int)):List (List Int):=ls.foldl (fun out l=>insL l out) []
theorem allIn_snoc (ls:List (List Int)) (l:List Int):allIn (ls ++ [l]) = insL l (allIn ls):=by unfold allIn;rw [List.foldl_append];rfl
theorem allIn_spec {n:Nat} (ls:List (List Int)) (h:∀ x ∈ ls,x.length = n):SortedL (allIn ls) /\ ∀ y,y ∈ allIn ls ↔ y ∈ ls:=by
 have key:∀ k,k <= ls.length -> SortedL (allIn (ls.take k)) /\ ∀ y,y ∈ allIn (ls.take k) ↔ y ∈ ls.take k:=by
  intro k
  induction k with
  | zero=>intro _;exact ⟨List.Pairwise.nil,fun y=>by simp [allIn]⟩
  | succ k ih =>
   intro hk;obtain ⟨h1,h2⟩:=ih (by omega);have ht:ls.take (k + 1) = ls.take k ++ [ls[k]]:=List.take_succ_eq_append_getElem (by omega);have hlk:=h _ (List.getElem_mem (show k < ls.length by omega));have hall:∀ x ∈ allIn (ls.take k),x.length = n:=fun x hx=>h x (List.mem_of_mem_take ((h2 x).1 hx))
   rw [ht,allIn_snoc];refine ⟨sorted_insL hlk hall h1,fun y=>?_⟩;rw [mem_insL hlk hall,h2,List.mem_append,List.mem_singleton,Or.comm]
 have:=key ls.length (Nat.le_refl _)
 rwa [List.take_length] at this
theorem linesFrom_cons {T:Treaty} {f:Nat -> Nat -> Nat -> Bool} (k leg a:Nat):∀ l ∈ linesFrom T f k leg a,∃ r,l = (a:Int) :: r:=by
 intro l hl
 cases k with
 | zero=>simp [linesFrom] at hl;exact ⟨[],hl⟩
 | succ k =>
  unfold linesFrom at hl;rw [List.mem_flatMap] at hl;obtain ⟨b,_,h⟩:=hl;by_cases hf:f leg a b = true
  ·rw [if_pos hf,List.mem_map] at h;obtain ⟨l',_,rfl⟩:=h;exact ⟨l',rfl⟩
  ·rw [if_neg hf] at h;cases h
theorem linesFrom_sorted {T:Treaty} {f:Nat -> Nat -> Nat -> Bool}:∀ (k leg a:Nat),SortedL (linesFrom T f k leg a)
 | 0,leg,a=>by unfold linesFrom;exact List.pairwise_singleton _ _
 | k + 1,leg,a=>by
  unfold linesFrom SortedL;rw [List.pairwise_flatMap];refine ⟨fun b _=>?_,?_⟩
  ·split
   ·rw [List.pairwise_map];exact (linesFrom_sorted k (leg + 1) b).imp fun h=>by unfold lexB;rw [if_pos rfl];exact h
   ·exact List.Pairwise.nil
  ·refine (List.pairwise_lt_range (n:=T.places.toNat)).imp fun {b c} hbc x hx y hy=>?_
   split at hx
   ·split at hy
    ·rw [List.mem_map] at hx hy;obtain ⟨x',hx',rfl⟩:=hx;obtain ⟨y',hy',rfl⟩:=hy;obtain ⟨rx,rfl⟩:=linesFrom_cons _ _ _ _ hx';obtain ⟨ry,rfl⟩:=linesFrom_cons _ _ _ _ hy';unfold lexB;rw [if_pos rfl];unfold lexB;rw [if_neg (by omega)];exact decide_eq_true (by omega)
    ·cases hy
   ·cases hx
theorem linesL_sorted {T:Treaty} (hs:T.starts.Pairwise (fun x y=>x < y)) (hp:∀ x ∈ T.starts,0 <= x) (f:Nat -> Nat -> Nat -> Bool):SortedL (linesL T f):=by
 unfold linesL SortedL;rw [List.pairwise_flatMap];refine ⟨fun s _=>linesFrom_sorted _ _ _,?_⟩;refine List.Pairwise.imp_of_mem (fun {s t} hs' ht' hst x hx y hy=>?_) hs;obtain ⟨rx,rfl⟩:=linesFrom_cons _ _ _ _ hx;obtain ⟨ry,rfl⟩:=linesFrom_cons _ _ _ _ hy;have:=hp s hs';have:=hp t ht';unfold lexB;rw [if_neg (by omega)];exact decide_eq_true (by omega)
noncomputable def unionL (T:Treaty):List (List Int):=(readingsL T).flatMap fun R=>linesL T (leadsF T R)
noncomputable def allL (T:Treaty):List (List Int):=allIn (unionL T)
noncomputable def allE (T:Treaty):Int:=if checkE T = 0 then (if (allL T).length <= 200 then 0 else 11) else checkE T
noncomputable def allX (T:Treaty):List (List Int):=if allE T = 0 then allL T else []
end Go.Proofs
end
section
/- Plain: which lines are listed;in which reading a line agrees first. -/
namespace Go.Proofs
theorem keepsTo_iff {f:Nat -> Nat -> Nat -> Bool} {l:List Int} {k:Nat}:keepsTo f l k = true ↔ ∀ i,i < k -> f i (l.getD i 0).toNat (l.getD (i + 1) 0).toNat = true:=by
 unfold keepsTo;simp only [List.all_eq_true,List.mem_range]
theorem mem_linesFrom {T:Treaty} {f:Nat -> Nat -> Nat -> Bool}:∀ (k leg a:Nat) (l:List Int),l ∈ linesFrom T f k leg a ↔ ∃ r,l = (a:Int) :: r /\ r.length = k /\ (∀ x ∈ r,0 <= x /\ x < T.places) /\ ∀ i,i < k -> f (leg + i) (l.getD i 0).toNat (l.getD (i + 1) 0).toNat = true
 | 0,leg,a,l=>by
  unfold linesFrom;rw [List.mem_singleton];constructor
  ·rintro rfl;exact ⟨[],rfl,rfl,by simp,fun i hi=>absurd hi (Nat.not_lt_zero _)⟩
  ·rintro ⟨r,rfl,hr,-,-⟩;rw [List.eq_nil_of_length_eq_zero hr]
 | k + 1,leg,a,l=>by
  unfold linesFrom;rw [List.mem_flatMap];constructor
  ·rintro ⟨b,hb,h⟩;have hb':=List.mem_range.1 hb;by_cases hf:f leg a b = true
   ·rw [if_pos hf,List.mem_map] at h;obtain ⟨l',h',rfl⟩:=h;obtain ⟨r,rfl,hr,hx,hk⟩:=(mem_linesFrom k (leg + 1) b l').1 h';refine ⟨(b:Int) :: r,rfl,by simp [hr],fun x hx'=>?_,fun i hi=>?_⟩
    ·rcases List.mem_cons.1 hx' with rfl | hx'
     ·omega
     ·exact hx x hx'
    ·cases i with
     | zero=>simpa using hf
     | succ i =>
      have:=hk i (by omega);rw [show leg + (i + 1) = leg + 1 + i by omega];simpa using this
   ·rw [if_neg hf] at h;cases h
  ·rintro ⟨r,rfl,hr,hx,hk⟩
   match r,hr with
   | y :: r,hr =>
    have hy:=hx y List.mem_cons_self;obtain ⟨b,rfl⟩:=Int.eq_ofNat_of_zero_le hy.1;refine ⟨b,List.mem_range.2 (by omega),?_⟩;have hf:f leg a b = true:=by have:=hk 0 (by omega);simpa using this
    rw [if_pos hf,List.mem_map];refine ⟨(b:Int) :: r,(mem_linesFrom k (leg + 1) b _).2 ⟨r,rfl,by simpa using hr,fun x hx'=>hx x (List.mem_cons_of_mem _ hx'),fun i hi=>?_⟩,rfl⟩;have:=hk (i + 1) (by omega);rw [show leg + (i + 1) = leg + 1 + i by omega] at this;simpa using this
theorem mem_linesL {T:Treaty} (hs:∀ x ∈ T.starts,0 <= x /\ x < T.places) {f:Nat -> Nat -> Nat -> Bool} {l:List Int}:l ∈ linesL T f ↔ linedB T l = true /\ hasB T.starts (l.getD 0 0) = true /\ keepsTo f l T.legs.length = true:=by
 unfold linesL;rw [List.mem_flatMap,linedB_iff,hasB_iff,keepsTo_iff];constructor
 ·rintro ⟨s,hsm,h⟩;have hb:=hs s hsm;obtain ⟨r,rfl,hr,hx,hk⟩:=(mem_linesFrom _ _ _ _).1 h;have es:((s.toNat:Nat):Int) = s:=Int.toNat_of_nonneg hb.1;refine ⟨⟨by simp [hr],fun x hx'=>?_⟩,by simpa [es] using hsm,fun i hi=>by have:=hk i hi;rwa [Nat.zero_add] at this⟩;rcases List.mem_cons.1 hx' with rfl | hx'
  ·rw [es];exact hb
  ·exact hx x hx'
 ·rintro ⟨⟨hl,hx⟩,hst,hk⟩
  match l,hl with
  | s :: r,hl =>
   have hsm:s ∈ T.starts:=by simpa using hst
   have hb:=hs s hsm;have es:((s.toNat:Nat):Int) = s:=Int.toNat_of_nonneg hb.1;refine ⟨s,hsm,(mem_linesFrom _ _ _ _).2 ⟨r,by rw [es],by simpa using hl,fun x hx'=>hx x (List.mem_cons_of_mem _ hx'),fun i hi=>?_⟩⟩;rw [Nat.zero_add];exact hk i hi
theorem unionL_len {T:Treaty}:∀ l ∈ unionL T,l.length = T.legs.length + 1:=fun l hl=>by
 unfold unionL at hl;obtain ⟨R,_,h⟩:=List.mem_flatMap.1 hl;unfold linesL at h;obtain ⟨s,_,h⟩:=List.mem_flatMap.1 h;exact linesFrom_len _ _ _ l h
theorem allL_spec (T:Treaty):SortedL (allL T) /\ ∀ y,y ∈ allL T ↔ y ∈ unionL T:=allIn_spec _ unionL_len
theorem starts_rise {T:Treaty} (ok:TOk T):T.starts.Pairwise (fun x y=>x < y):=by
 have h:=ok.rstarts
 revert h
 generalize T.starts = l;intro h;rw [List.pairwise_iff_getElem]
 have step:∀ k,(hk:k + 1 < l.length) -> l[k] < l[k + 1]:=fun k hk=>by
  apply Decidable.byContradiction;intro hn;have:=risesB_false l k hk (by omega);rw [this] at h;cases h
 intro i j hi hj hij;obtain ⟨d,rfl⟩:∃ d,j = i + 1 + d:=⟨j - (i + 1),by omega⟩;clear hij
 induction d with
 | zero=>exact step i hj
 | succ d ih =>
  have h1:=ih (by omega);have h2:=step (i + 1 + d) (by omega);have e:l[i + 1 + (d + 1)] = l[i + 1 + d + 1]:=rfl;rw [e];omega
theorem linesL_ok {T:Treaty} (ok:TOk T) (f:Nat -> Nat -> Nat -> Bool):SortedL (linesL T f):=linesL_sorted (starts_rise ok) (fun x hx=>(ok.starts x hx).1) f
end Go.Proofs
end
section
/- The law on readings: what the program's functions and the reference's answer,in the same words. -/
namespace Go.Proofs
open Go.RowKit
noncomputable def redX (T:Treaty):List (List Int):=if checkE T = 0 then readK T (prodN (lensOf T)) else []
def ReadingsU (w:World) (T:Treaty) (e:Ending) (w':World):Prop :=
 Aft w w' /\ ∃ A c,e = .returned (.tuple #[.slice A (redX T).length c,.int .i64 (checkE T)]) /\ Lists w' A (redX T)
theorem readK_sub {T:Treaty} {k:Nat} {R:List Int} (h:R ∈ readK T k):R ∈ readingsL T:=by
 unfold readK at h;exact List.mem_of_mem_take (List.mem_filter.1 h).1
theorem readingsR_uni {w w':World} {T:Treaty} {e:Ending} (h:ReadingsR w T e w'):ReadingsU w T e w':=by
 obtain ⟨ha,⟨h1,rfl⟩ | ⟨h1,v,rfl,hown⟩⟩:=h
 ·have:redX T = []:=by unfold redX;rw [if_neg h1]
  rw [ReadingsU,this];exact ⟨ha,none,0,rfl,lists_nil _⟩
 ·have hx:redX T = readK T (prodN (lensOf T)):=by unfold redX;rw [if_pos h1]
  have ok:=checkE_ok h1;have hl:=readK_len T (prodN (lensOf T));have hm:=(readings_many ok).1;rw [readingsL_len] at hm;have hw:=ok.nwords;obtain ⟨A,c,rfl,_,hi⟩:=hown.lists (by omega) (fun l hl'=>by have:=((mem_readings ok).1 (readK_sub hl')).1;omega);rw [ReadingsU,hx,h1];exact ⟨ha,A,c,rfl,hi⟩
noncomputable def endsAllB (T:Treaty):Bool:=(List.range (T.legs.length + 1)).all fun leg=>decide (endRow T leg ≠ [])
theorem endsAllB_iff {T:Treaty}:endsAllB T = true ↔ ∀ leg,leg <= T.legs.length -> endRow T leg ≠ []:=by
 unfold endsAllB;simp only [List.all_eq_true,List.mem_range,decide_eq_true_eq];exact ⟨fun h leg hl=>h leg (by omega),fun h leg hl=>h leg (by omega)⟩
noncomputable def endE (T:Treaty):Int:=if checkE T = 0 then (if endsAllB T = true then 0 else 7) else checkE T
noncomputable def endX (T:Treaty):List (List Int):=if endE T = 0 then endRows T (T.legs.length + 1) else []
def EndsU (w:World) (T:Treaty) (e:Ending) (w':World):Prop :=
 Aft w w' /\ ∃ A c,e = .returned (.tuple #[.slice A (endX T).length c,.int .i64 (endE T)]) /\ Lists w' A (endX T)
theorem endRow_len (T:Treaty) (leg:Nat):(endRow T leg).length <= T.places.toNat:=by
 unfold endRow;rw [List.length_map];exact Nat.le_trans (List.length_filter_le _ _) (by simp)
theorem endsU_err {w w':World} {T:Treaty} {e:Ending} {E:Int} (hE:endE T = E) (h0:E ≠ 0) (h:e = .returned (.tuple #[.slice none 0 0,.int .i64 E])) (ha:Aft w w'):EndsU w T e w':=by
 have hx:endX T = []:=by unfold endX;rw [if_neg (by rw [hE];exact h0)]
 rw [EndsU,hx,hE];exact ⟨ha,none,0,h,lists_nil _⟩
theorem endsU_own {w w':World} {T:Treaty} {e:Ending} {v:Value} {b:Nat} (ok:TOk T) (hE:endE T = 0) (h:e = .returned (.tuple #[v,.int .i64 0])) (hown:OwnLists w' b v (endRows T (T.legs.length + 1))) (ha:Aft w w'):EndsU w T e w':=by
 have hx:endX T = endRows T (T.legs.length + 1):=by unfold endX;rw [if_pos hE]
 have hn:=ok.nlegs;have hp:=ok.p2
 obtain ⟨A,c,rfl,_,hi⟩:=hown.lists (by rw [endRows_len];omega) (fun l hl=>by
  unfold endRows at hl;obtain ⟨leg,_,rfl⟩:=List.mem_map.1 hl;have:=endRow_len T leg;omega)
 rw [EndsU,hx,hE];exact ⟨ha,A,c,h,hi⟩
theorem endsG_uni {w w':World} {T:Treaty} {e:Ending} (hc:checkE T = 0) (h:EndsG w T e w'):EndsU w T e w':=by
 obtain ⟨ha,⟨h1,rfl⟩ | ⟨h1,v,rfl,hown⟩⟩:=h
 ·refine endsU_err (E:=7) ?_ (by decide) rfl ha;unfold endE;rw [if_pos hc,if_neg (fun h=>h1 (endsAllB_iff.1 h))]
 ·refine endsU_own (checkE_ok hc) ?_ rfl hown ha;unfold endE;rw [if_pos hc,if_pos (endsAllB_iff.2 h1)]
def AllU (w:World) (T:Treaty) (e:Ending) (w':World):Prop :=
 Aft w w' /\ ∃ A c,e = .returned (.tuple #[.slice A (allX T).length c,.int .i64 (allE T)]) /\ Lists w' A (allX T)
theorem allU_err {w w':World} {T:Treaty} {e:Ending} {E:Int} (hE:allE T = E) (h0:E ≠ 0) (h:e = .returned (.tuple #[.slice none 0 0,.int .i64 E])) (ha:Aft w w'):AllU w T e w':=by
 have hx:allX T = []:=by unfold allX;rw [if_neg (by rw [hE];exact h0)]
 rw [AllU,hx,hE];exact ⟨ha,none,0,h,lists_nil _⟩
end Go.Proofs
end
section
/- Where the library's strconv.Itoa and strings.Join lie. -/
namespace Go.Proofs
open Go.RowKit Go.Shelf
set_option maxRecDepth 100000
def renItoa:Go.Shelf.Ren:=⟨fun | 171=>117 | 243=>146 | 246=>165 | 283=>173 | 284=>174 | 285=>175 | 286=>176 | 129=>159 | 317=>180 | 318=>181 | 319=>182 | 320=>183 | 337=>184 | 338=>185 | n=>n,fun | 3=>3 | 9=>9 | 2=>2 | 4=>4 | 171=>209 | 0=>0 | 53=>199 | 37=>45 | 5=>5 | 173=>211 | 212=>220 | 51=>118 | 20=>20 | 213=>221 | 46=>166 | 232=>222 | 233=>223 | n=>n,fun | 17=>0 | 18=>2 | 19=>3 | n=>n⟩
theorem layItoa:Lays.n171 Tryz.prog renItoa:={
 mixed:=by kernel_rfl
 f129:=Tryz.func159.trans (congrArg some (by kernel_rfl))
 f171:=Tryz.func117.trans (congrArg some (by kernel_rfl))
 f243:=Tryz.func146.trans (congrArg some (by kernel_rfl))
 f246:=Tryz.func165.trans (congrArg some (by kernel_rfl))
 f283:=Tryz.func173.trans (congrArg some (by kernel_rfl))
 f284:=Tryz.func174.trans (congrArg some (by kernel_rfl))
 f285:=Tryz.func175.trans (congrArg some (by kernel_rfl))
 f286:=Tryz.func176.trans (congrArg some (by kernel_rfl))
 f317:=Tryz.func180.trans (congrArg some (by kernel_rfl))
 f318:=Tryz.func181.trans (congrArg some (by kernel_rfl))
 f319:=Tryz.func182.trans (congrArg some (by kernel_rfl))
 f320:=Tryz.func183.trans (congrArg some (by kernel_rfl))
 f337:=Tryz.func184.trans (congrArg some (by kernel_rfl))
 f338:=Tryz.func185.trans (congrArg some (by kernel_rfl))
 t0:=Tryz.underlying0
 a0:=Tryz.isAgg0
 z0:=Tryz.sizeOf0
 v0:=Tryz.zeroValue0
 t2:=Tryz.underlying2
 a2:=Tryz.isAgg2
 z2:=Tryz.sizeOf2
 v2:=Tryz.zeroValue2
 t3:=Tryz.underlying3
 a3:=Tryz.isAgg3
 z3:=Tryz.sizeOf3
 v3:=Tryz.zeroValue3
 t4:=Tryz.underlying4
 a4:=Tryz.isAgg4
 z4:=Tryz.sizeOf4
 v4:=Tryz.zeroValue4
 t5:=Tryz.underlying5
 a5:=Tryz.isAgg5
 z5:=Tryz.sizeOf5
 v5:=Tryz.zeroValue5
 t9:=Tryz.underlying9
 a9:=Tryz.isAgg9
 z9:=Tryz.sizeOf9
 v9:=Tryz.zeroValue9
 t20:=Tryz.underlying20
 a20:=Tryz.isAgg20
 z20:=Tryz.sizeOf20
 v20:=Tryz.zeroValue20
 t37:=Tryz.underlying45
 a37:=Tryz.isAgg45
 z37:=Tryz.sizeOf45
 v37:=Tryz.zeroValue45
 t46:=Tryz.underlying166
 a46:=Tryz.isAgg166
 z46:=Tryz.sizeOf166
 v46:=Tryz.zeroValue166
 t51:=Tryz.underlying118
 a51:=Tryz.isAgg118
 z51:=Tryz.sizeOf118
 v51:=Tryz.zeroValue118
 t53:=Tryz.underlying199
 a53:=Tryz.isAgg199
 z53:=Tryz.sizeOf199
 v53:=Tryz.zeroValue199
 t171:=Tryz.underlying209
 a171:=Tryz.isAgg209
 z171:=Tryz.sizeOf209
 v171:=Tryz.zeroValue209
 t173:=Tryz.underlying211
 a173:=Tryz.isAgg211
 z173:=Tryz.sizeOf211
 v173:=Tryz.zeroValue211
 t212:=Tryz.underlying220
 a212:=Tryz.isAgg220
 z212:=Tryz.sizeOf220
 v212:=Tryz.zeroValue220
 t213:=Tryz.underlying221
 a213:=Tryz.isAgg221
 z213:=Tryz.sizeOf221
 t232:=Tryz.underlying222
 a232:=Tryz.isAgg222
 z232:=Tryz.sizeOf222
 v232:=Tryz.zeroValue222
 t233:=Tryz.underlying223
 a233:=Tryz.isAgg223
 z233:=Tryz.sizeOf223
 v233:=Tryz.zeroValue223
 g17:=by kernel_rfl
 g18:=by kernel_rfl
 g19:=by kernel_rfl }
def renJoin:Go.Shelf.Ren:=⟨fun | 156=>118 | 165=>147 | 166=>148 | 169=>149 | 240=>166 | 241=>167 | 276=>177 | 277=>178 | n=>n,fun | 31=>161 | 9=>9 | 3=>3 | 4=>4 | 0=>0 | 20=>20 | 72=>184 | 76=>187 | 70=>182 | 37=>45 | 75=>186 | 127=>203 | 164=>213 | 5=>5 | 80=>189 | n=>n,fun n=>n⟩
theorem layJoin:Lays.n156 Tryz.prog renJoin:={
 mixed:=by kernel_rfl
 f156:=Tryz.func118.trans (congrArg some (by kernel_rfl))
 f165:=Tryz.func147.trans (congrArg some (by kernel_rfl))
 f166:=Tryz.func148.trans (congrArg some (by kernel_rfl))
 f169:=Tryz.func149.trans (congrArg some (by kernel_rfl))
 f240:=Tryz.func166.trans (congrArg some (by kernel_rfl))
 f241:=Tryz.func167.trans (congrArg some (by kernel_rfl))
 f276:=Tryz.func177.trans (congrArg some (by kernel_rfl))
 f277:=Tryz.func178.trans (congrArg some (by kernel_rfl))
 t0:=Tryz.underlying0
 a0:=Tryz.isAgg0
 z0:=Tryz.sizeOf0
 v0:=Tryz.zeroValue0
 t3:=Tryz.underlying3
 a3:=Tryz.isAgg3
 z3:=Tryz.sizeOf3
 v3:=Tryz.zeroValue3
 t4:=Tryz.underlying4
 a4:=Tryz.isAgg4
 z4:=Tryz.sizeOf4
 v4:=Tryz.zeroValue4
 t9:=Tryz.underlying9
 a9:=Tryz.isAgg9
 z9:=Tryz.sizeOf9
 v9:=Tryz.zeroValue9
 t20:=Tryz.underlying20
 a20:=Tryz.isAgg20
 z20:=Tryz.sizeOf20
 v20:=Tryz.zeroValue20
 t31:=Tryz.underlying161
 a31:=Tryz.isAgg161
 z31:=Tryz.sizeOf161
 v31:=Tryz.zeroValue161
 t37:=Tryz.underlying45
 a37:=Tryz.isAgg45
 z37:=Tryz.sizeOf45
 v37:=Tryz.zeroValue45
 t70:=Tryz.underlying182
 a70:=Tryz.isAgg182
 z70:=Tryz.sizeOf182
 v70:=Tryz.zeroValue182
 t72:=Tryz.underlying184
 a72:=Tryz.isAgg184
 z72:=Tryz.sizeOf184
 v72:=Tryz.zeroValue184
 t75:=Tryz.underlying186
 a75:=Tryz.isAgg186
 z75:=Tryz.sizeOf186
 v75:=Tryz.zeroValue186
 t76:=Tryz.underlying187
 a76:=Tryz.isAgg187
 z76:=Tryz.sizeOf187
 v76:=Tryz.zeroValue187
 t127:=Tryz.underlying203
 a127:=Tryz.isAgg203
 z127:=Tryz.sizeOf203
 v127:=Tryz.zeroValue203
 t164:=Tryz.underlying213
 a164:=Tryz.isAgg213
 z164:=Tryz.sizeOf213
 v164:=Tryz.zeroValue213 }
theorem extraJoin:Builder.Extra Tryz.prog renJoin:={
 sizeBuilder:=by kernel_rfl
 liesBuilder:=by kernel_rfl
 t5:=Tryz.underlying5
 a5:=Tryz.isAgg5
 z5:=Tryz.sizeOf5
 v5:=Tryz.zeroValue5
 infoByte:=by kernel_rfl
 cellsByte:=by kernel_rfl
 sizeByte:=by kernel_rfl
 neB5:=by decide }
end Go.Proofs
end
section
/- Plain: a line told by its numbers with blanks between. -/
namespace Go.Proofs
open Go
def toldL (l:List Int):List UInt8:=Lib.join (l.map fun x=>Lib.decDigits x.toNat) [32]
theorem decD_ne (u:Nat):∀ c ∈ Lib.decDigits u,c ≠ 32:=by
 induction u using Nat.strongRecOn with
 | ind u ih =>
  intro c hc;rw [Lib.decDigits] at hc
  have key:∀ d,d < 10 -> UInt8.ofNat (48 + d) ≠ 32:=fun d hd e=>by
   have:=congrArg UInt8.toNat e;rw [UInt8.toNat_ofNat',Nat.mod_eq_of_lt (by omega)] at this;have h32:(32:UInt8).toNat = 32:=rfl;omega
  split at hc
  ·rename_i h
   rw [List.mem_singleton] at hc;rw [hc];exact key u h
  ·rename_i h
   rw [List.mem_append,List.mem_singleton] at hc;rcases hc with hc | hc
   ·exact ih (u / 10) (by omega) c hc
   ·rw [hc];exact key _ (by omega)
theorem decD_len {u:Nat} (h:u < 100):(Lib.decDigits u).length <= 2:=by
 rw [Lib.decDigits];split
 ·simp
 ·rw [Lib.decDigits,dif_pos (by omega)];simp
theorem ofNat_inj {a b:Nat} (ha:a < 256) (hb:b < 256) (h:UInt8.ofNat a = UInt8.ofNat b):a = b:=by
 have:=congrArg UInt8.toNat h
 rwa [UInt8.toNat_ofNat',UInt8.toNat_ofNat',Nat.mod_eq_of_lt ha,Nat.mod_eq_of_lt hb] at this
theorem decD_inj {u v:Nat} (hu:u < 100) (hv:v < 100) (h:Lib.decDigits u = Lib.decDigits v):u = v:=by
 by_cases h1:u < 10
 ·by_cases h2:v < 10
  ·rw [Lib.decDigits_one h1,Lib.decDigits_one h2] at h;have:=ofNat_inj (by omega) (by omega) (List.cons.inj h).1;omega
  ·rw [Lib.decDigits_one h1,Lib.decDigits_two h2 hv] at h;have:=congrArg List.length h;simp at this
 ·by_cases h2:v < 10
  ·rw [Lib.decDigits_two h1 hu,Lib.decDigits_one h2] at h;have:=congrArg List.length h;simp at this
  ·rw [Lib.decDigits_two h1 hu,Lib.decDigits_two h2 hv] at h;have e1:=ofNat_inj (by omega) (by omega) (List.cons.inj h).1;have e2:=ofNat_inj (by omega) (by omega) (List.cons.inj (List.cons.inj h).2).1;omega
theorem cut_blank {t t':List UInt8} (ht:t = [] \/ ∃ r,t = 32 :: r) (ht':t' = [] \/ ∃ r,t' = 32 :: r):∀ {p q:List UInt8},(∀ c ∈ p,c ≠ 32) -> (∀ c ∈ q,c ≠ 32) -> p ++ t = q ++ t' -> p = q /\ t = t'
 | [],[],_,_,h=>⟨rfl,h⟩
 | [],c :: q,_,hq,h=>by
  rcases ht with rfl | ⟨r,rfl⟩
  ·simp at h
  ·exact absurd (List.cons.inj h).1.symm (hq c (by simp))
 | c :: p,[],hp,_,h=>by
  rcases ht' with rfl | ⟨r,rfl⟩
  ·simp at h
  ·exact absurd (List.cons.inj h).1 (hp c (by simp))
 | c :: p,d :: q,hp,hq,h=>by
  obtain ⟨e1,e2⟩:=List.cons.inj h;obtain ⟨e3,e4⟩:=cut_blank ht ht' (fun x hx=>hp x (by simp [hx])) (fun x hx=>hq x (by simp [hx])) e2;exact ⟨by rw [e1,e3],e4⟩
theorem tail_shape (r:List (List UInt8)):Lib.joinTail [32] r = [] \/ ∃ s,Lib.joinTail [32] r = 32 :: s:=by
 cases r with
 | nil=>exact .inl rfl
 | cons x r=>exact .inr ⟨x ++ Lib.joinTail [32] r,by simp [Lib.joinTail]⟩
theorem tail_inj:∀ {l l':List Int},(∀ x ∈ l,0 <= x /\ x < 100) -> (∀ x ∈ l',0 <= x /\ x < 100) -> Lib.joinTail [32] (l.map fun x=>Lib.decDigits x.toNat) = Lib.joinTail [32] (l'.map fun x=>Lib.decDigits x.toNat) -> l = l'
 | [],[],_,_,_=>rfl
 | [],x :: l,_,_,h=>by simp [Lib.joinTail] at h
 | x :: l,[],_,_,h=>by simp [Lib.joinTail] at h
 | x :: l,y :: l',hl,hl',h=>by
  have e:∀ (z:Int) (k:List Int),Lib.joinTail [32] ((z :: k).map fun x=>Lib.decDigits x.toNat) = 32 :: (Lib.decDigits z.toNat ++ Lib.joinTail [32] (k.map fun x=>Lib.decDigits x.toNat)):=fun z k=>by simp [Lib.joinTail]
  rw [e,e] at h;obtain ⟨h1,h2⟩:=cut_blank (tail_shape _) (tail_shape _) (decD_ne _) (decD_ne _) (List.cons.inj h).2;have hx:=hl x (by simp);have hy:=hl' y (by simp);have:=decD_inj (u:=x.toNat) (v:=y.toNat) (by omega) (by omega) h1;have hxy:x = y:=by omega
  rw [hxy,tail_inj (fun z hz=>hl z (by simp [hz])) (fun z hz=>hl' z (by simp [hz])) h2]
theorem told_inj {l l':List Int} (hl:∀ x ∈ l,0 <= x /\ x < 100) (hl':∀ x ∈ l',0 <= x /\ x < 100) (h0:l ≠ []) (h0':l' ≠ []) (h:toldL l = toldL l'):l = l':=by
 rcases l with _ | ⟨x,l⟩
 ·exact absurd rfl h0
 rcases l' with _ | ⟨y,l'⟩
 ·exact absurd rfl h0'
 unfold toldL at h;rw [List.map_cons,List.map_cons,Lib.join_cons,Lib.join_cons] at h;obtain ⟨h1,h2⟩:=cut_blank (tail_shape _) (tail_shape _) (decD_ne _) (decD_ne _) h;have hx:=hl x (by simp);have hy:=hl' y (by simp);have:=decD_inj (u:=x.toNat) (v:=y.toNat) (by omega) (by omega) h1;have hxy:x = y:=by omega
 rw [hxy,tail_inj (fun z hz=>hl z (by simp [hz])) (fun z hz=>hl' z (by simp [hz])) h2]
theorem tail_len:∀ (l:List Int),(∀ x ∈ l,0 <= x /\ x < 100) -> (Lib.joinTail [32] (l.map fun x=>Lib.decDigits x.toNat)).length <= 3 * l.length
 | [],_=>by simp [Lib.joinTail]
 | x :: l,h=>by
  have ih:=tail_len l fun z hz=>h z (by simp [hz])
  have hx:=h x (by simp);have:=decD_len (u:=x.toNat) (by omega);have e:Lib.joinTail [32] ((x :: l).map fun x=>Lib.decDigits x.toNat) = 32 :: (Lib.decDigits x.toNat ++ Lib.joinTail [32] (l.map fun x=>Lib.decDigits x.toNat)):=by simp [Lib.joinTail]
  rw [e,List.length_cons,List.length_append,List.length_cons];omega
theorem told_len {l:List Int} (h:∀ x ∈ l,0 <= x /\ x < 100):(toldL l).length <= 3 * l.length:=by
 rcases l with _ | ⟨x,l⟩
 ·simp [toldL,Lib.join_nil]
 ·unfold toldL;rw [List.map_cons,Lib.join_cons,List.length_append,List.length_cons];have:=tail_len l fun z hz=>h z (by simp [hz])
  have hx:=h x (by simp);have:=decD_len (u:=x.toNat) (by omega);omega
end Go.Proofs
end
section
/- Own lists whose rows lie in memory that stands. -/
namespace Go.Proofs
open Go.RowKit
def RowsIn (Y:World) (L:List (List Int)) (vs:List Value):Prop:=vs.length = L.length /\ ∀ i,(hi:i < L.length) -> ∃ A c,vs[i]? = some (.slice A L[i].length c) /\ Ints Y A L[i]
theorem RowsIn.nil (Y:World):RowsIn Y [] []:=⟨rfl,fun i hi=>absurd hi (Nat.not_lt_zero _)⟩
theorem RowsIn.aft {Y Z:World} {L:List (List Int)} {vs:List Value} (h:RowsIn Y L vs) (ha:Aft Y Z):RowsIn Z L vs:=⟨h.1,fun i hi=>let ⟨A,c,h1,h2⟩:=h.2 i hi;⟨A,c,h1,h2.aft ha⟩⟩
theorem RowsIn.push {Y:World} {L:List (List Int)} {vs:List Value} {l:List Int} {A:Option Addr} {c:Nat} (h:RowsIn Y L vs) (hl:Ints Y A l):RowsIn Y (L ++ [l]) (vs ++ [.slice A l.length c]):=by
 refine ⟨by simp [h.1],fun i hi=>?_⟩;by_cases e:i < L.length
 ·obtain ⟨A',c',h1,h2⟩:=h.2 i e;rw [List.getElem?_append_left (by rw [h.1];exact e),List.getElem_append_left e];exact ⟨A',c',h1,h2⟩
 ·have e2:i = L.length:=by simp at hi;omega
  subst e2;rw [List.getElem_append_right (Nat.le_refl _)];simp only [Nat.sub_self,List.getElem_cons_zero];refine ⟨A,c,?_,hl⟩;rw [List.getElem?_append_right (by rw [h.1];exact Nat.le_refl _),h.1,Nat.sub_self];rfl
theorem own_lists {W:World} {base:Nat} {v:Value} {L:List (List Int)} {vs:List Value} (h:W.ownsRow base 24 1 v L.length vs) (hr:RowsIn W L vs) (hl:L.length <= 17592186043904):∃ A c,v = .slice A L.length c /\ Lists W A L:=by
 rcases h.2 with ⟨rfl,h0⟩ | ⟨gg,cap,cur,rfl,hg,hh,hc,hm,hs,ht⟩
 ·have:L = []:=List.eq_nil_of_length_eq_zero h0;subst this;exact ⟨none,0,rfl,lists_nil _⟩
 ·refine ⟨_,_,rfl,by omega,?_⟩;by_cases h0:L = []
  ·exact .inl h0
  ·refine .inr ⟨gg,0,rfl,(Array.getElem?_eq_some_iff.1 hh).1,fun i hi=>?_⟩;obtain ⟨A,c,h1,h2⟩:=hr.2 i hi;refine ⟨[.slice A L[i].length c],rfl,⟨A,c,rfl,h2⟩,fun j hj=>?_⟩
   match j,hj with
   | 0,_ =>
    have:=h.cells (g:=gg) rfl i _ h1;rw [Addr.add_lit] at this;simpa using this
theorem opens_lines {T:Treaty} {f:Nat -> Nat -> Nat -> Bool}:opens T f = false ↔ linesL T f = []:=by
 unfold opens linesL;rw [List.any_eq_false,List.flatMap_eq_nil_iff];refine forall_congr' fun s=>forall_congr' fun _=>?_
 rw [<- linesFrom_nil]
 simp
end Go.Proofs
end
section
/- Walks: the reference's before. -/
namespace Go.Proofs
open Go.RowKit
attribute [local go_sem] Oper.semAt_some
theorem lexB_from {x y:List Int} {k:Nat} (h:x.length = y.length) (hk:k < x.length) (he:∀ i,i < k -> x.getD i 0 = y.getD i 0):lexB x y = lexB (x.drop k) (y.drop k):=by
 induction k generalizing x y with
 | zero=>rfl
 | succ k ih =>
  match x,y,h with
  | [],[],_=>simp at hk
  | a :: x,b :: y,h =>
   have e0:a = b:=by have:=he 0 (by omega);simpa using this
   subst e0;rw [lexB,if_pos rfl,List.drop_succ_cons,List.drop_succ_cons];exact ih (by simpa using h) (by simpa using hk) fun i hi=>by have:=he (i + 1) (by omega);simpa using this
theorem lexB_at {x y:List Int} {k:Nat} (h:x.length = y.length) (hk:k < x.length) (he:∀ i,i < k -> x.getD i 0 = y.getD i 0) (hne:x.getD k 0 ≠ y.getD k 0):lexB x y = decide (x.getD k 0 < y.getD k 0):=by
 rw [lexB_from h hk he];have hk':k < y.length:=by omega
 have e1:x.getD k 0 = x[k]:=by rw [List.getD_eq_getElem?_getD,List.getElem?_eq_getElem hk];rfl
 have e2:y.getD k 0 = y[k]:=by rw [List.getD_eq_getElem?_getD,List.getElem?_eq_getElem hk'];rfl
 rw [e1,e2] at hne ⊢;rw [List.drop_eq_getElem_cons hk,List.drop_eq_getElem_cons hk',lexB,if_neg hne]
theorem lexB_same {x y:List Int} (h:x.length = y.length) (he:∀ i,i < x.length -> x.getD i 0 = y.getD i 0):lexB x y = false:=by
 have:x = y:=by
  refine List.ext_getElem h fun i h1 h2=>?_
  have:=he i h1
  rwa [List.getD_eq_getElem?_getD,List.getElem?_eq_getElem h1,List.getD_eq_getElem?_getD,List.getElem?_eq_getElem h2] at this
 rw [this,lexB_irrefl]
set_option maxRecDepth 100000 in
set_option maxHeartbeats 4000000 in
theorem beforeRef_any (w:World) (x y:List Int) (A B:Option Addr) (c d:Nat) (hA:Ints w A x) (hB:Ints w B y) (hl:x.length = y.length) :
  Calls Tryz.prog 59 #[.slice A x.length c,.slice B y.length d] w fun e w'=>e = .returned (.bool (lexB x y)) /\ Aft w w':=by
 have HA:=Lib.hid hA;have HB:=Lib.hid hB;have hal:=hA.len;have HLL:=Lib.hid hl;have HAT:Hid (∀ k,k < x.length -> (∀ i,i < k -> x.getD i 0 = y.getD i 0) -> x.getD k 0 ≠ y.getD k 0 -> lexB x y = decide (x.getD k 0 < y.getD k 0)):=Lib.hid fun k hk he hne=>lexB_at hl hk he hne
 have HSM:Hid ((∀ i,i < x.length -> x.getD i 0 = y.getD i 0) -> lexB x y = false):=Lib.hid (lexB_same hl);obtain ⟨r,hr⟩:∃ r,lexB x y = r:=⟨_,rfl⟩;rw [hr] at HAT HSM ⊢;rw [<- hl];clear hA hB hl hr;go_enter Tryz.func59,Tryz.ntmps59;(repeat (first | go_big_skip | go_big_want | go_big_move | go_big_op | go_step | go_upon | go_back));go_loopw [5] (fun i wr=>∃ k:Nat,i = .int .i64 k /\ k <= x.length /\ Aft w wr /\ ∀ i,i < k -> x.getD i 0 = y.getD i 0) (fun i _=>x.length - (intOf i).toNat)
 case atStart=>exact ⟨0,rfl,by omega,Aft.refl _,fun i hi=>absurd hi (Nat.not_lt_zero _)⟩
 case round =>
  obtain ⟨k,rfl,hk,haw,heq⟩:=hrel;have HAW:=Lib.hid haw;have HEQ:=Lib.hid heq;clear haw heq;by_cases hkn:k < x.length
  ·have hdec:decide (k < x.length) = true:=decide_eq_true hkn;have hky:k < y.length:=by have:=HLL.out;omega
   obtain ⟨bx,ox,rfl,-,hx⟩:=(HA.out.aft HAW.out).at hkn;obtain ⟨bY,oY,rfl,-,hy⟩:=(HB.out.aft HAW.out).at hky;have x0:=hx k hkn;have y0:=hy k hky;have ex:x.getD k 0 = x[k]:=by rw [List.getD_eq_getElem?_getD,List.getElem?_eq_getElem hkn];rfl
   have ey:y.getD k 0 = y[k]:=by rw [List.getD_eq_getElem?_getD,List.getElem?_eq_getElem hky];rfl
   rw [<- ex] at x0;rw [<- ey] at y0;have HR:=Lib.hid (HAT.out k hkn HEQ.out)
   have HNX:Hid (x.getD k 0 = y.getD k 0 -> ∀ i,i < k + 1 -> x.getD i 0 = y.getD i 0):=Lib.hid fun h i hi=>by
    by_cases e:i = k
    ·rw [e];exact h
    ·exact HEQ.out i (by omega)
   have i1:(0:Int) <= (k:Int) /\ (k:Int) < (x.length:Int):=by omega
   clear hx hy ex ey;generalize x.getD k 0 = u at *;generalize y.getD k 0 = v at *;by_cases huv:u = v
   ·have hq:(u != v) = false:=by simp [huv]
    have HN2:=Lib.hid (HNX.out huv);clear huv HNX;(repeat (first | go_big_skip | go_big_want | go_big_move | go_big_op | go_step | go_upon | go_back));go_quiet (fail);(repeat (first | go_big_skip | go_big_want | go_big_move | go_big_op | go_step | go_upon | go_back));exact ⟨⟨k + 1,by go_num,by omega,HAW.out.then_drewN _,HN2.out⟩,by simp [intOf];omega⟩
   ·have hq:(u != v) = true:=by simpa using huv
    have hrr:=HR.out huv;have HRR:=Lib.hid hrr.symm;clear huv HNX hrr;(repeat (first | go_big_skip | go_big_want | go_big_move | go_big_op | go_step | go_upon | go_back));go_quiet (fail);(repeat (first | go_big_skip | go_big_want | go_big_move | go_big_op | go_step | go_upon | go_back));go_quiet (fail);(repeat (first | go_big_skip | go_big_want | go_big_move | go_big_op | go_step | go_upon | go_back));go_ret;exact ⟨by rw [<- HRR.out];rfl,(HAW.out.then_drewN _).then_drewN _⟩
  ·have hdec:decide (k < x.length) = false:=decide_eq_false hkn;have hr0:=HSM.out (fun i hi=>HEQ.out i (by omega));subst hr0;(repeat (first | go_big_skip | go_big_want | go_big_move | go_big_op | go_step | go_upon | go_back));go_ret;exact ⟨rfl,HAW.out⟩
end Go.Proofs
end
section
/- Plain: which places can be reached if some legs yield;legs of all sets. -/
namespace Go.Proofs
def nowF (T:Treaty) (f:Nat -> Nat -> Nat -> Bool) (S:Nat -> Bool):Nat -> Nat -> Bool
 | 0,b=>hasB T.starts b
 | i + 1,b=>(List.range T.places.toNat).any fun a=>nowF T f S i a && (S i || f i a b)
def enB (T:Treaty) (f:Nat -> Nat -> Nat -> Bool) (S:Nat -> Bool):Bool:=(List.range T.places.toNat).any (nowF T f S T.legs.length)
def nextF (T:Treaty) (f:Nat -> Nat -> Nat -> Bool) (S:Nat -> Bool) (i k b:Nat):Bool:=(List.range k).any fun a=>nowF T f S i a && (S i || f i a b)
theorem nextF_succ (T:Treaty) (f:Nat -> Nat -> Nat -> Bool) (S:Nat -> Bool) (i k b:Nat):nextF T f S i (k + 1) b = (nextF T f S i k b || nowF T f S i k && (S i || f i k b)):=by
 unfold nextF;rw [List.range_succ,List.any_append];simp
theorem nextF_all (T:Treaty) (f:Nat -> Nat -> Nat -> Bool) (S:Nat -> Bool) (i b:Nat):nextF T f S i T.places.toNat b = nowF T f S (i + 1) b:=rfl
theorem enB_opens {T:Treaty} (ok:TOk T) {f f':Nat -> Nat -> Nat -> Bool} {S:Nat -> Bool} (hf:∀ i a b,i < T.legs.length -> a < T.places.toNat -> b < T.places.toNat -> f' i a b = (S i || f i a b)):enB T f S = opens T f':=by
 have key:∀ i,i <= T.legs.length -> (opens T f' = true ↔ ∃ a,a < T.places.toNat /\ nowF T f S i a = true /\ ahd T f' (T.legs.length - i) i a = true):=by
  intro i
  induction i with
  | zero =>
   intro _;unfold opens;rw [List.any_eq_true];constructor
   ·rintro ⟨s,hs,h⟩;have hb:=ok.starts s hs;refine ⟨s.toNat,by omega,?_,by simpa using h⟩;show hasB T.starts _ = true;rw [hasB_iff,Int.toNat_of_nonneg hb.1];exact hs
   ·rintro ⟨a,ha,hn,h⟩;exact ⟨a,hasB_iff.1 hn,by simpa using h⟩
  | succ i ih =>
   intro hi;rw [ih (by omega)];have hk:T.legs.length - i = (T.legs.length - (i + 1)) + 1:=by omega
   rw [hk];constructor
   ·rintro ⟨a,ha,hn,h⟩;unfold ahd at h;rw [List.any_eq_true] at h;obtain ⟨b,hb,h⟩:=h;rw [Bool.and_eq_true] at h;have hb':=List.mem_range.1 hb;refine ⟨b,hb',?_,h.2⟩;unfold nowF;rw [List.any_eq_true];refine ⟨a,List.mem_range.2 ha,?_⟩;rw [hn,Bool.true_and,<- hf i a b (by omega) ha hb'];exact h.1
   ·rintro ⟨b,hb,hn,h⟩;unfold nowF at hn;rw [List.any_eq_true] at hn;obtain ⟨a,ha,hn⟩:=hn;have ha':=List.mem_range.1 ha;rw [Bool.and_eq_true,<- hf i a b (by omega) ha' hb] at hn;refine ⟨a,ha',hn.1,?_⟩;unfold ahd;rw [List.any_eq_true];exact ⟨b,List.mem_range.2 hb,by rw [hn.2,h];rfl⟩
 have h:=key T.legs.length (Nat.le_refl _);rw [Nat.sub_self] at h;rw [Bool.eq_iff_iff,h];unfold enB;rw [List.any_eq_true];constructor
 ·rintro ⟨a,ha,hn⟩;exact ⟨a,List.mem_range.1 ha,hn,rfl⟩
 ·rintro ⟨a,ha,hn,-⟩;exact ⟨a,List.mem_range.2 ha,hn⟩
end Go.Proofs
end
