/- Own texts, merged: CtSm1 CtSm3 CtSm4 CtSm2 CtSm5 CtSm6 CtL5s. -/
import Derived.Test.YtbchfakfdikkjaaGreatS18
import Derived.Test.YtbchfakfdikkjaaGreatS20
set_option linter.unusedSimpArgs false
set_option linter.unusedVariables false
set_option linter.unnecessarySimpa false
section
/- The closed law's first loop: what its boxes hold;the laws' contracts with lengths that are known. -/
namespace Go.Proofs
open Go.RowKit
theorem rows_q {α:Type} {w:World} {A:Option Addr} {sz:Nat} {R R':World -> α -> List Value -> Prop} {l:List α} (h:RowsP w A sz R l) (h0:0 < sz) (hR:∀ x vs,R w x vs -> R' w x vs):RowsQ w A sz R' l:=by
 refine ⟨?_,?_⟩
 ·have h1:=h.1;have:l.length * 1 <= l.length * sz:=Nat.mul_le_mul_left _ h0;omega
 ·rcases h.2 with h | ⟨b,o,rfl,hb,hc⟩
  ·exact .inl h
  ·refine .inr ⟨b,o,rfl,hb,fun i hi=>?_⟩;obtain ⟨vs,h1,h2,h3⟩:=hc i hi;exact ⟨vs,h1,hR _ _ h2,h3⟩
theorem ints_q {w:World} {A:Option Addr} {l:List Int} (h:Ints w A l):IntsQ w A l:=rows_q h (by decide) fun _ _ h=>h
theorem lists_q {w:World} {A:Option Addr} {l:List (List Int)} (h:Lists w A l):ListsQ w A l:=rows_q h (by decide) fun _ _ ⟨A,c,h1,h2⟩=>⟨A,c,h1,ints_q h2⟩
theorem crep_q {w:World} {C:CaseL} {a1 a2:Option Addr} (h:CRep w C a1 a2):CRepQ w C a1 a2:=⟨rows_q h.strikes (by decide) fun _ _ h=>h,lists_q h.surveys⟩
def YesA (w:World) (e:Ending) (w':World):Prop:=e = .returned (.bool true) /\ Aft w w'
theorem hear_n {w:World} {C:CaseL} {a1 a2:Option Addr} {c1 c2:Nat} (hC:CRep w C a1 a2) {R O F K:List Int} {AR AO AF AK:Option Addr} (hR:Ints w AR R) (hO:Ints w AO O) (hF:Ints w AF F) (hK:Ints w AK K) (cR cO cF cK:Nat)
  {N:Int} {n1 n2 r o f k:Nat} (eN:C.claims = N) (e1:C.strikes.length = n1) (e2:C.surveys.length = n2) (er:R.length = r) (eo:O.length = o) (ef:F.length = f) (ek:K.length = k) :
  Calls Tryz.prog 33 #[.agg #[.int .i64 N,.slice a1 n1 c1,.slice a2 n2 c2],.slice AR r cR,.slice AO o cO,.slice AF f cF,.slice AK k cK] w (YesA w):=by
 subst eN e1 e2 er eo ef ek;exact hearingsLaw_any C a1 a2 c1 c2 R AR cR O AO cO F AF cF K AK cK w (crep_q hC) (ints_q hR) (ints_q hO) (ints_q hF) (ints_q hK)
theorem stand_n {w:World} {C:CaseL} {a1 a2:Option Addr} {c1 c2:Nat} (hC:CRep w C a1 a2) {R L:List Int} {AR AL:Option Addr} (hR:Ints w AR R) (hL:Ints w AL L) (cR cL:Nat)
  {N:Int} {n1 n2 r l:Nat} (eN:C.claims = N) (e1:C.strikes.length = n1) (e2:C.surveys.length = n2) (er:R.length = r) (el:L.length = l) :
  Calls Tryz.prog 4 #[.agg #[.int .i64 N,.slice a1 n1 c1,.slice a2 n2 c2],.slice AR r cR,.slice AL l cL] w (YesA w):=by
 subst eN e1 e2 er el;exact standsLaw_any C a1 a2 c1 c2 R AR cR L AL cL w (crep_q hC) (ints_q hR) (ints_q hL)
theorem surv_n {w:World} {C:CaseL} {a1 a2:Option Addr} {c1 c2:Nat} (hC:CRep w C a1 a2) (s q:Int) {N:Int} {n1 n2:Nat} (eN:C.claims = N) (e1:C.strikes.length = n1) (e2:C.surveys.length = n2) :
  Calls Tryz.prog 3 #[.agg #[.int .i64 N,.slice a1 n1 c1,.slice a2 n2 c2],.int .i64 s,.int .i64 q] w (YesA w):=by
 subst eN e1 e2;exact surveysLaw_any C a1 a2 c1 c2 s q w (crep_q hC)
structure SmAt (W0 W:World) (h b1 c1 g:Nat):Prop where
 r:Blk W h 3 #[.int .i64 1,.int .i64 3]
 o:Blk W (h + 1) 3 #[.int .i64 4,.int .i64 3,.int .i64 2,.int .i64 1,.int .i64 0,.int .i64 2,.int .i64 4]
 f:Blk W (h + 1 + 1) 3 #[.int .i64 1,.int .i64 2,.int .i64 0,.int .i64 0,.int .i64 0]
 k:Blk W (h + 1 + 1 + 1) 3 #[.int .i64 1,.int .i64 2,.int .i64 0,.int .i64 0,.int .i64 0]
 c:Blk W (h + 1 + 1 + 1 + 1) 3 #[.int .i64 0,.int .i64 3]
 b:Blk W (h + 1 + 1 + 1 + 1 + 1) 25 #[.int .i64 5,.slice (some ⟨b1,0,none⟩) 5 c1,.slice (some ⟨g + 1 + 1,0,none⟩) 2 2]
 s:Blk W (h + 1 + 1 + 1 + 1 + 1 + 1) 3 #[.int .i64 1]
 q:Blk W (h + 1 + 1 + 1 + 1 + 1 + 1 + 1) 3 #[.int .i64 4]
 five:FiveAt W0 W b1 c1 g
 base:W0.heap.size <= h
theorem SmAt.on {W0 W W':World} {h b1 c1 g:Nat} (x:SmAt W0 W h b1 c1 g) (ha:Aft W W'):SmAt W0 W' h b1 c1 g :=
 ⟨x.r.aft ha,x.o.aft ha,x.f.aft ha,x.k.aft ha,x.c.aft ha,x.b.aft ha,x.s.aft ha,x.q.aft ha,x.five.on ha,x.base⟩
theorem sm_made {W0 W:World} {b1 c1 g:Nat} (hF:FiveAt W0 W b1 c1 g):SmAt W0 ((((((((W.alloc (.cells #[.int .i64 1,.int .i64 3] 3)).alloc (.cells #[.int .i64 4,.int .i64 3,.int .i64 2,.int .i64 1,.int .i64 0,.int .i64 2,.int .i64 4] 3)).alloc (.cells #[.int .i64 1,.int .i64 2,.int .i64 0,.int .i64 0,.int .i64 0] 3)).alloc (.cells #[.int .i64 1,.int .i64 2,.int .i64 0,.int .i64 0,.int .i64 0] 3)).alloc (.cells #[.int .i64 0,.int .i64 3] 3)).alloc (.cells #[.int .i64 5,.slice (some ⟨b1,0,none⟩) 5 c1,.slice (some ⟨g + 1 + 1,0,none⟩) 2 2] 25)).alloc (.cells #[.int .i64 1] 3)).alloc (.cells #[.int .i64 4] 3)) W.heap.size b1 c1 g:=by
 refine ⟨?_,?_,?_,?_,?_,?_,?_,?_,?_,?_⟩
 ·exact ((((((((Blk.new W _ _).alloc _).alloc _).alloc _).alloc _).alloc _).alloc _).alloc _)
 ·have:=(((((((Blk.new (W.alloc (.cells #[.int .i64 1,.int .i64 3] 3)) 3 #[.int .i64 4,.int .i64 3,.int .i64 2,.int .i64 1,.int .i64 0,.int .i64 2,.int .i64 4]).alloc (.cells #[.int .i64 1,.int .i64 2,.int .i64 0,.int .i64 0,.int .i64 0] 3)).alloc (.cells #[.int .i64 1,.int .i64 2,.int .i64 0,.int .i64 0,.int .i64 0] 3)).alloc (.cells #[.int .i64 0,.int .i64 3] 3)).alloc (.cells #[.int .i64 5,.slice (some ⟨b1,0,none⟩) 5 c1,.slice (some ⟨g + 1 + 1,0,none⟩) 2 2] 25)).alloc (.cells #[.int .i64 1] 3)).alloc (.cells #[.int .i64 4] 3));simpa only [World.size_alloc] using this
 ·have:=((((((Blk.new ((W.alloc (.cells #[.int .i64 1,.int .i64 3] 3)).alloc (.cells #[.int .i64 4,.int .i64 3,.int .i64 2,.int .i64 1,.int .i64 0,.int .i64 2,.int .i64 4] 3)) 3 #[.int .i64 1,.int .i64 2,.int .i64 0,.int .i64 0,.int .i64 0]).alloc (.cells #[.int .i64 1,.int .i64 2,.int .i64 0,.int .i64 0,.int .i64 0] 3)).alloc (.cells #[.int .i64 0,.int .i64 3] 3)).alloc (.cells #[.int .i64 5,.slice (some ⟨b1,0,none⟩) 5 c1,.slice (some ⟨g + 1 + 1,0,none⟩) 2 2] 25)).alloc (.cells #[.int .i64 1] 3)).alloc (.cells #[.int .i64 4] 3));simpa only [World.size_alloc] using this
 ·have:=(((((Blk.new (((W.alloc (.cells #[.int .i64 1,.int .i64 3] 3)).alloc (.cells #[.int .i64 4,.int .i64 3,.int .i64 2,.int .i64 1,.int .i64 0,.int .i64 2,.int .i64 4] 3)).alloc (.cells #[.int .i64 1,.int .i64 2,.int .i64 0,.int .i64 0,.int .i64 0] 3)) 3 #[.int .i64 1,.int .i64 2,.int .i64 0,.int .i64 0,.int .i64 0]).alloc (.cells #[.int .i64 0,.int .i64 3] 3)).alloc (.cells #[.int .i64 5,.slice (some ⟨b1,0,none⟩) 5 c1,.slice (some ⟨g + 1 + 1,0,none⟩) 2 2] 25)).alloc (.cells #[.int .i64 1] 3)).alloc (.cells #[.int .i64 4] 3));simpa only [World.size_alloc] using this
 ·have:=((((Blk.new ((((W.alloc (.cells #[.int .i64 1,.int .i64 3] 3)).alloc (.cells #[.int .i64 4,.int .i64 3,.int .i64 2,.int .i64 1,.int .i64 0,.int .i64 2,.int .i64 4] 3)).alloc (.cells #[.int .i64 1,.int .i64 2,.int .i64 0,.int .i64 0,.int .i64 0] 3)).alloc (.cells #[.int .i64 1,.int .i64 2,.int .i64 0,.int .i64 0,.int .i64 0] 3)) 3 #[.int .i64 0,.int .i64 3]).alloc (.cells #[.int .i64 5,.slice (some ⟨b1,0,none⟩) 5 c1,.slice (some ⟨g + 1 + 1,0,none⟩) 2 2] 25)).alloc (.cells #[.int .i64 1] 3)).alloc (.cells #[.int .i64 4] 3));simpa only [World.size_alloc] using this
 ·have:=(((Blk.new (((((W.alloc (.cells #[.int .i64 1,.int .i64 3] 3)).alloc (.cells #[.int .i64 4,.int .i64 3,.int .i64 2,.int .i64 1,.int .i64 0,.int .i64 2,.int .i64 4] 3)).alloc (.cells #[.int .i64 1,.int .i64 2,.int .i64 0,.int .i64 0,.int .i64 0] 3)).alloc (.cells #[.int .i64 1,.int .i64 2,.int .i64 0,.int .i64 0,.int .i64 0] 3)).alloc (.cells #[.int .i64 0,.int .i64 3] 3)) 25 #[.int .i64 5,.slice (some ⟨b1,0,none⟩) 5 c1,.slice (some ⟨g + 1 + 1,0,none⟩) 2 2]).alloc (.cells #[.int .i64 1] 3)).alloc (.cells #[.int .i64 4] 3));simpa only [World.size_alloc] using this
 ·have:=((Blk.new ((((((W.alloc (.cells #[.int .i64 1,.int .i64 3] 3)).alloc (.cells #[.int .i64 4,.int .i64 3,.int .i64 2,.int .i64 1,.int .i64 0,.int .i64 2,.int .i64 4] 3)).alloc (.cells #[.int .i64 1,.int .i64 2,.int .i64 0,.int .i64 0,.int .i64 0] 3)).alloc (.cells #[.int .i64 1,.int .i64 2,.int .i64 0,.int .i64 0,.int .i64 0] 3)).alloc (.cells #[.int .i64 0,.int .i64 3] 3)).alloc (.cells #[.int .i64 5,.slice (some ⟨b1,0,none⟩) 5 c1,.slice (some ⟨g + 1 + 1,0,none⟩) 2 2] 25)) 3 #[.int .i64 1]).alloc (.cells #[.int .i64 4] 3));simpa only [World.size_alloc] using this
 ·have:=(Blk.new (((((((W.alloc (.cells #[.int .i64 1,.int .i64 3] 3)).alloc (.cells #[.int .i64 4,.int .i64 3,.int .i64 2,.int .i64 1,.int .i64 0,.int .i64 2,.int .i64 4] 3)).alloc (.cells #[.int .i64 1,.int .i64 2,.int .i64 0,.int .i64 0,.int .i64 0] 3)).alloc (.cells #[.int .i64 1,.int .i64 2,.int .i64 0,.int .i64 0,.int .i64 0] 3)).alloc (.cells #[.int .i64 0,.int .i64 3] 3)).alloc (.cells #[.int .i64 5,.slice (some ⟨b1,0,none⟩) 5 c1,.slice (some ⟨g + 1 + 1,0,none⟩) 2 2] 25)).alloc (.cells #[.int .i64 1] 3)) 3 #[.int .i64 4]);simpa only [World.size_alloc] using this
 ·exact hF.on ((((((((Aft.alloc W _).then_alloc _).then_alloc _).then_alloc _).then_alloc _).then_alloc _).then_alloc _).then_alloc _)
 ·exact hF.aft.size
def smP (h b1 g:Nat):List (Nat × Nat):=[(h + 1 + 1 + 1 + 1 + 1,0),(b1,0),(b1,3),(b1,8),(g,0),(g + 1,0),(h,0),(h,1),(h + 1,0),(h + 1,5),(h + 1 + 1,0),(h + 1 + 1,2),(h + 1 + 1 + 1,1),(h + 1 + 1 + 1,4),(h + 1 + 1 + 1 + 1,0),(h + 1 + 1 + 1 + 1,1),(h + 1 + 1 + 1 + 1 + 1 + 1,0),(h + 1 + 1 + 1 + 1 + 1 + 1 + 1,0)]
def smV (h b1 g:Nat):Array Value:=((smP h b1 g).map fun p=>Value.pointer (some ⟨p.1,p.2,none⟩)).toArray
theorem SmAt.ptr {W0 W:World} {h b1 c1 g:Nat} (x:SmAt W0 W h b1 c1 g) {i:Nat} (hi:i < 18):∃ b o,(smV h b1 g)[i]? = some (.pointer (some ⟨b,o,none⟩)) /\ W0.heap.size <= b /\ (∃ z,W.cell? ⟨b,o,none⟩ = some (.int .i64 z)) /\ W.frozen? ⟨b,o,none⟩ = false:=by
 have hb:=x.base;have hg:=x.five.base;have h1:W0.heap.size <= b1:=own_ge x.five.st b1 rfl;have s:=x.five.st
 match i,hi with
 | 0,_=>exact ⟨_,_,rfl,by omega,⟨_,x.b.cell 0⟩,x.b.frozen 0⟩
 | 1,_=>exact ⟨_,_,rfl,h1,⟨0,s.cellAt 0 (by decide)⟩,s.frozenAt 0⟩
 | 2,_=>exact ⟨_,_,rfl,h1,⟨2,s.cellAt 3 (by decide)⟩,s.frozenAt 3⟩
 | 3,_=>exact ⟨_,_,rfl,h1,⟨3,s.cellAt 8 (by decide)⟩,s.frozenAt 8⟩
 | 4,_=>exact ⟨_,_,rfl,by omega,⟨_,x.five.r0.cell 0⟩,x.five.r0.frozen 0⟩
 | 5,_=>exact ⟨_,_,rfl,by omega,⟨_,x.five.r1.cell 0⟩,x.five.r1.frozen 0⟩
 | 6,_=>exact ⟨_,_,rfl,by omega,⟨_,x.r.cell 0⟩,x.r.frozen 0⟩
 | 7,_=>exact ⟨_,_,rfl,by omega,⟨_,x.r.cell 1⟩,x.r.frozen 1⟩
 | 8,_=>exact ⟨_,_,rfl,by omega,⟨_,x.o.cell 0⟩,x.o.frozen 0⟩
 | 9,_=>exact ⟨_,_,rfl,by omega,⟨_,x.o.cell 5⟩,x.o.frozen 5⟩
 | 10,_=>exact ⟨_,_,rfl,by omega,⟨_,x.f.cell 0⟩,x.f.frozen 0⟩
 | 11,_=>exact ⟨_,_,rfl,by omega,⟨_,x.f.cell 2⟩,x.f.frozen 2⟩
 | 12,_=>exact ⟨_,_,rfl,by omega,⟨_,x.k.cell 1⟩,x.k.frozen 1⟩
 | 13,_=>exact ⟨_,_,rfl,by omega,⟨_,x.k.cell 4⟩,x.k.frozen 4⟩
 | 14,_=>exact ⟨_,_,rfl,by omega,⟨_,x.c.cell 0⟩,x.c.frozen 0⟩
 | 15,_=>exact ⟨_,_,rfl,by omega,⟨_,x.c.cell 1⟩,x.c.frozen 1⟩
 | 16,_=>exact ⟨_,_,rfl,by omega,⟨_,x.s.cell 0⟩,x.s.frozen 0⟩
 | 17,_=>exact ⟨_,_,rfl,by omega,⟨_,x.q.cell 0⟩,x.q.frozen 0⟩
 | _ + 18,hi=>omega
structure SmNew (W:World) (h b1 c1 g:Nat) (C:CaseL) (R O F K L:List Int) (s q:Int):Prop where
 rep:CRep W C (some ⟨b1,0,none⟩) (some ⟨g + 1 + 1,0,none⟩)
 n1:C.strikes.length = 5
 n2:C.surveys.length = 2
 r:Ints W (some ⟨h,0,none⟩) R /\ R.length = 2
 o:Ints W (some ⟨h + 1,0,none⟩) O /\ O.length = 7
 f:Ints W (some ⟨h + 1 + 1,0,none⟩) F /\ F.length = 5
 k:Ints W (some ⟨h + 1 + 1 + 1,0,none⟩) K /\ K.length = 5
 l:Ints W (some ⟨h + 1 + 1 + 1 + 1,0,none⟩) L /\ L.length = 2
 b0:W.cell? ⟨h + 1 + 1 + 1 + 1 + 1,0,none⟩ = some (.int .i64 C.claims)
 b1:W.cell? ⟨h + 1 + 1 + 1 + 1 + 1,1,none⟩ = some (.slice (some ⟨b1,0,none⟩) 5 c1)
 b2:W.cell? ⟨h + 1 + 1 + 1 + 1 + 1,2,none⟩ = some (.slice (some ⟨g + 1 + 1,0,none⟩) 2 2)
 s:W.cell? ⟨h + 1 + 1 + 1 + 1 + 1 + 1,0,none⟩ = some (.int .i64 s)
 q:W.cell? ⟨h + 1 + 1 + 1 + 1 + 1 + 1 + 1,0,none⟩ = some (.int .i64 q)
 lt:h + 1 + 1 + 1 + 1 + 1 + 1 + 1 < W.heap.size
theorem SmNew.on {W W':World} {h b1 c1 g:Nat} {C:CaseL} {R O F K L:List Int} {s q:Int} (x:SmNew W h b1 c1 g C R O F K L s q) (ha:Aft W W'):SmNew W' h b1 c1 g C R O F K L s q:=by
 have:=x.lt;exact ⟨x.rep.aft ha,x.n1,x.n2,⟨x.r.1.aft ha,x.r.2⟩,⟨x.o.1.aft ha,x.o.2⟩,⟨x.f.1.aft ha,x.f.2⟩,⟨x.k.1.aft ha,x.k.2⟩,⟨x.l.1.aft ha,x.l.2⟩,cell_of_aft x.b0 (by omega) ha,cell_of_aft x.b1 (by omega) ha,cell_of_aft x.b2 (by omega) ha,cell_of_aft x.s (by omega) ha,cell_of_aft x.q (by omega) ha,Nat.lt_of_lt_of_le x.lt ha.size⟩
theorem SmAt.jolt {W0 W W':World} {h b1 c1 g:Nat} (x:SmAt W0 W h b1 c1 g) (j:Jolt W W'):∃ C R O F K L s q,SmNew W' h b1 c1 g C R O F K L s q:=by
 obtain ⟨N,hN⟩:=j.num (x.b.cell 0);obtain ⟨S,T,h1,h2,hC⟩:=j.case x.five.rep N;obtain ⟨R,r1,r2⟩:=j.ints (Nums.ints x.r (nums_self [1,3]) (by decide));obtain ⟨O,o1,o2⟩:=j.ints (Nums.ints x.o (nums_self [4,3,2,1,0,2,4]) (by decide));obtain ⟨F,f1,f2⟩:=j.ints (Nums.ints x.f (nums_self [1,2,0,0,0]) (by decide));obtain ⟨K,k1,k2⟩:=j.ints (Nums.ints x.k (nums_self [1,2,0,0,0]) (by decide));obtain ⟨L,l1,l2⟩:=j.ints (Nums.ints x.c (nums_self [0,3]) (by decide));obtain ⟨s,hs⟩:=j.num (x.s.cell 0);obtain ⟨q,hq⟩:=j.num (x.q.cell 0);have hlt:=x.q.lt;exact ⟨⟨N,S,T⟩,R,O,F,K,L,s,q,hC,h1,h2,⟨r2,r1⟩,⟨o2,o1⟩,⟨f2,f1⟩,⟨k2,k1⟩,⟨l2,l1⟩,hN,j.sli (x.b.cell 1),j.sli (x.b.cell 2),hs,hq,by rw [j.1];exact hlt⟩
end Go.Proofs
end
section
/- The closed law's lists of claims,and cases that are put together strike by strike. -/
namespace Go.Proofs
open Go.RowKit
def lists8:List (List Int):=[[],[0],[1],[0,1],[2],[0,2],[1,2],[0,1,2]]
theorem lists8_made (W:World):Lists ((((((((W.alloc (.cells #[.int .i64 0] 3)).alloc (.cells #[.int .i64 1] 3)).alloc (.cells #[.int .i64 0,.int .i64 1] 3)).alloc (.cells #[.int .i64 2] 3)).alloc (.cells #[.int .i64 0,.int .i64 2] 3)).alloc (.cells #[.int .i64 1,.int .i64 2] 3)).alloc (.cells #[.int .i64 0,.int .i64 1,.int .i64 2] 3)).alloc (.cells #[.slice none 0 0,.slice (some ⟨W.heap.size,0,none⟩) 1 1,.slice (some ⟨W.heap.size + 1,0,none⟩) 1 1,.slice (some ⟨W.heap.size + 1 + 1,0,none⟩) 2 2,.slice (some ⟨W.heap.size + 1 + 1 + 1,0,none⟩) 1 1,.slice (some ⟨W.heap.size + 1 + 1 + 1 + 1,0,none⟩) 2 2,.slice (some ⟨W.heap.size + 1 + 1 + 1 + 1 + 1,0,none⟩) 2 2,.slice (some ⟨W.heap.size + 1 + 1 + 1 + 1 + 1 + 1,0,none⟩) 3 3] 33)) (some ⟨W.heap.size + 1 + 1 + 1 + 1 + 1 + 1 + 1,0,none⟩) lists8 /\ Aft W ((((((((W.alloc (.cells #[.int .i64 0] 3)).alloc (.cells #[.int .i64 1] 3)).alloc (.cells #[.int .i64 0,.int .i64 1] 3)).alloc (.cells #[.int .i64 2] 3)).alloc (.cells #[.int .i64 0,.int .i64 2] 3)).alloc (.cells #[.int .i64 1,.int .i64 2] 3)).alloc (.cells #[.int .i64 0,.int .i64 1,.int .i64 2] 3)).alloc (.cells #[.slice none 0 0,.slice (some ⟨W.heap.size,0,none⟩) 1 1,.slice (some ⟨W.heap.size + 1,0,none⟩) 1 1,.slice (some ⟨W.heap.size + 1 + 1,0,none⟩) 2 2,.slice (some ⟨W.heap.size + 1 + 1 + 1,0,none⟩) 1 1,.slice (some ⟨W.heap.size + 1 + 1 + 1 + 1,0,none⟩) 2 2,.slice (some ⟨W.heap.size + 1 + 1 + 1 + 1 + 1,0,none⟩) 2 2,.slice (some ⟨W.heap.size + 1 + 1 + 1 + 1 + 1 + 1,0,none⟩) 3 3] 33)):=by
 have b0:=((((((((Blk.new W 3 #[.int .i64 0]).alloc (.cells #[.int .i64 1] 3)).alloc (.cells #[.int .i64 0,.int .i64 1] 3)).alloc (.cells #[.int .i64 2] 3)).alloc (.cells #[.int .i64 0,.int .i64 2] 3)).alloc (.cells #[.int .i64 1,.int .i64 2] 3)).alloc (.cells #[.int .i64 0,.int .i64 1,.int .i64 2] 3)).alloc (.cells #[.slice none 0 0,.slice (some ⟨W.heap.size,0,none⟩) 1 1,.slice (some ⟨W.heap.size + 1,0,none⟩) 1 1,.slice (some ⟨W.heap.size + 1 + 1,0,none⟩) 2 2,.slice (some ⟨W.heap.size + 1 + 1 + 1,0,none⟩) 1 1,.slice (some ⟨W.heap.size + 1 + 1 + 1 + 1,0,none⟩) 2 2,.slice (some ⟨W.heap.size + 1 + 1 + 1 + 1 + 1,0,none⟩) 2 2,.slice (some ⟨W.heap.size + 1 + 1 + 1 + 1 + 1 + 1,0,none⟩) 3 3] 33));have b1:=(((((((Blk.new (W.alloc (.cells #[.int .i64 0] 3)) 3 #[.int .i64 1]).alloc (.cells #[.int .i64 0,.int .i64 1] 3)).alloc (.cells #[.int .i64 2] 3)).alloc (.cells #[.int .i64 0,.int .i64 2] 3)).alloc (.cells #[.int .i64 1,.int .i64 2] 3)).alloc (.cells #[.int .i64 0,.int .i64 1,.int .i64 2] 3)).alloc (.cells #[.slice none 0 0,.slice (some ⟨W.heap.size,0,none⟩) 1 1,.slice (some ⟨W.heap.size + 1,0,none⟩) 1 1,.slice (some ⟨W.heap.size + 1 + 1,0,none⟩) 2 2,.slice (some ⟨W.heap.size + 1 + 1 + 1,0,none⟩) 1 1,.slice (some ⟨W.heap.size + 1 + 1 + 1 + 1,0,none⟩) 2 2,.slice (some ⟨W.heap.size + 1 + 1 + 1 + 1 + 1,0,none⟩) 2 2,.slice (some ⟨W.heap.size + 1 + 1 + 1 + 1 + 1 + 1,0,none⟩) 3 3] 33))
 have b2:=((((((Blk.new ((W.alloc (.cells #[.int .i64 0] 3)).alloc (.cells #[.int .i64 1] 3)) 3 #[.int .i64 0,.int .i64 1]).alloc (.cells #[.int .i64 2] 3)).alloc (.cells #[.int .i64 0,.int .i64 2] 3)).alloc (.cells #[.int .i64 1,.int .i64 2] 3)).alloc (.cells #[.int .i64 0,.int .i64 1,.int .i64 2] 3)).alloc (.cells #[.slice none 0 0,.slice (some ⟨W.heap.size,0,none⟩) 1 1,.slice (some ⟨W.heap.size + 1,0,none⟩) 1 1,.slice (some ⟨W.heap.size + 1 + 1,0,none⟩) 2 2,.slice (some ⟨W.heap.size + 1 + 1 + 1,0,none⟩) 1 1,.slice (some ⟨W.heap.size + 1 + 1 + 1 + 1,0,none⟩) 2 2,.slice (some ⟨W.heap.size + 1 + 1 + 1 + 1 + 1,0,none⟩) 2 2,.slice (some ⟨W.heap.size + 1 + 1 + 1 + 1 + 1 + 1,0,none⟩) 3 3] 33));have b3:=(((((Blk.new (((W.alloc (.cells #[.int .i64 0] 3)).alloc (.cells #[.int .i64 1] 3)).alloc (.cells #[.int .i64 0,.int .i64 1] 3)) 3 #[.int .i64 2]).alloc (.cells #[.int .i64 0,.int .i64 2] 3)).alloc (.cells #[.int .i64 1,.int .i64 2] 3)).alloc (.cells #[.int .i64 0,.int .i64 1,.int .i64 2] 3)).alloc (.cells #[.slice none 0 0,.slice (some ⟨W.heap.size,0,none⟩) 1 1,.slice (some ⟨W.heap.size + 1,0,none⟩) 1 1,.slice (some ⟨W.heap.size + 1 + 1,0,none⟩) 2 2,.slice (some ⟨W.heap.size + 1 + 1 + 1,0,none⟩) 1 1,.slice (some ⟨W.heap.size + 1 + 1 + 1 + 1,0,none⟩) 2 2,.slice (some ⟨W.heap.size + 1 + 1 + 1 + 1 + 1,0,none⟩) 2 2,.slice (some ⟨W.heap.size + 1 + 1 + 1 + 1 + 1 + 1,0,none⟩) 3 3] 33))
 have b4:=((((Blk.new ((((W.alloc (.cells #[.int .i64 0] 3)).alloc (.cells #[.int .i64 1] 3)).alloc (.cells #[.int .i64 0,.int .i64 1] 3)).alloc (.cells #[.int .i64 2] 3)) 3 #[.int .i64 0,.int .i64 2]).alloc (.cells #[.int .i64 1,.int .i64 2] 3)).alloc (.cells #[.int .i64 0,.int .i64 1,.int .i64 2] 3)).alloc (.cells #[.slice none 0 0,.slice (some ⟨W.heap.size,0,none⟩) 1 1,.slice (some ⟨W.heap.size + 1,0,none⟩) 1 1,.slice (some ⟨W.heap.size + 1 + 1,0,none⟩) 2 2,.slice (some ⟨W.heap.size + 1 + 1 + 1,0,none⟩) 1 1,.slice (some ⟨W.heap.size + 1 + 1 + 1 + 1,0,none⟩) 2 2,.slice (some ⟨W.heap.size + 1 + 1 + 1 + 1 + 1,0,none⟩) 2 2,.slice (some ⟨W.heap.size + 1 + 1 + 1 + 1 + 1 + 1,0,none⟩) 3 3] 33));have b5:=(((Blk.new (((((W.alloc (.cells #[.int .i64 0] 3)).alloc (.cells #[.int .i64 1] 3)).alloc (.cells #[.int .i64 0,.int .i64 1] 3)).alloc (.cells #[.int .i64 2] 3)).alloc (.cells #[.int .i64 0,.int .i64 2] 3)) 3 #[.int .i64 1,.int .i64 2]).alloc (.cells #[.int .i64 0,.int .i64 1,.int .i64 2] 3)).alloc (.cells #[.slice none 0 0,.slice (some ⟨W.heap.size,0,none⟩) 1 1,.slice (some ⟨W.heap.size + 1,0,none⟩) 1 1,.slice (some ⟨W.heap.size + 1 + 1,0,none⟩) 2 2,.slice (some ⟨W.heap.size + 1 + 1 + 1,0,none⟩) 1 1,.slice (some ⟨W.heap.size + 1 + 1 + 1 + 1,0,none⟩) 2 2,.slice (some ⟨W.heap.size + 1 + 1 + 1 + 1 + 1,0,none⟩) 2 2,.slice (some ⟨W.heap.size + 1 + 1 + 1 + 1 + 1 + 1,0,none⟩) 3 3] 33))
 have b6:=((Blk.new ((((((W.alloc (.cells #[.int .i64 0] 3)).alloc (.cells #[.int .i64 1] 3)).alloc (.cells #[.int .i64 0,.int .i64 1] 3)).alloc (.cells #[.int .i64 2] 3)).alloc (.cells #[.int .i64 0,.int .i64 2] 3)).alloc (.cells #[.int .i64 1,.int .i64 2] 3)) 3 #[.int .i64 0,.int .i64 1,.int .i64 2]).alloc (.cells #[.slice none 0 0,.slice (some ⟨W.heap.size,0,none⟩) 1 1,.slice (some ⟨W.heap.size + 1,0,none⟩) 1 1,.slice (some ⟨W.heap.size + 1 + 1,0,none⟩) 2 2,.slice (some ⟨W.heap.size + 1 + 1 + 1,0,none⟩) 1 1,.slice (some ⟨W.heap.size + 1 + 1 + 1 + 1,0,none⟩) 2 2,.slice (some ⟨W.heap.size + 1 + 1 + 1 + 1 + 1,0,none⟩) 2 2,.slice (some ⟨W.heap.size + 1 + 1 + 1 + 1 + 1 + 1,0,none⟩) 3 3] 33));have b7:=Blk.new (((((((W.alloc (.cells #[.int .i64 0] 3)).alloc (.cells #[.int .i64 1] 3)).alloc (.cells #[.int .i64 0,.int .i64 1] 3)).alloc (.cells #[.int .i64 2] 3)).alloc (.cells #[.int .i64 0,.int .i64 2] 3)).alloc (.cells #[.int .i64 1,.int .i64 2] 3)).alloc (.cells #[.int .i64 0,.int .i64 1,.int .i64 2] 3)) 33 #[.slice none 0 0,.slice (some ⟨W.heap.size,0,none⟩) 1 1,.slice (some ⟨W.heap.size + 1,0,none⟩) 1 1,.slice (some ⟨W.heap.size + 1 + 1,0,none⟩) 2 2,.slice (some ⟨W.heap.size + 1 + 1 + 1,0,none⟩) 1 1,.slice (some ⟨W.heap.size + 1 + 1 + 1 + 1,0,none⟩) 2 2,.slice (some ⟨W.heap.size + 1 + 1 + 1 + 1 + 1,0,none⟩) 2 2,.slice (some ⟨W.heap.size + 1 + 1 + 1 + 1 + 1 + 1,0,none⟩) 3 3];simp only [World.size_alloc] at b0 b1 b2 b3 b4 b5 b6 b7;refine ⟨⟨by decide,.inr ⟨_,0,rfl,b7.lt,fun i hi=>?_⟩⟩,(((((((Aft.alloc W _).then_alloc _).then_alloc _).then_alloc _).then_alloc _).then_alloc _).then_alloc _).then_alloc _⟩
 match i,hi with
 | 0,_=>exact ⟨[.slice none 0 0],rfl,⟨none,0,rfl,ints_none _⟩,fun j hj=>by
   have:j = 0:=by simpa using hj
   subst this;exact b7.cell 0⟩
 | 1,_=>exact ⟨[.slice (some ⟨W.heap.size,0,none⟩) 1 1],rfl,⟨_,1,rfl,Nums.ints b0 (nums_self [0]) (by show 1 <= 17592186043904;decide)⟩,fun j hj=>by
   have:j = 0:=by simpa using hj
   subst this;exact b7.cell 1⟩
 | 2,_=>exact ⟨[.slice (some ⟨W.heap.size + 1,0,none⟩) 1 1],rfl,⟨_,1,rfl,Nums.ints b1 (nums_self [1]) (by show 1 <= 17592186043904;decide)⟩,fun j hj=>by
   have:j = 0:=by simpa using hj
   subst this;exact b7.cell 2⟩
 | 3,_=>exact ⟨[.slice (some ⟨W.heap.size + 1 + 1,0,none⟩) 2 2],rfl,⟨_,2,rfl,Nums.ints b2 (nums_self [0,1]) (by show 2 <= 17592186043904;decide)⟩,fun j hj=>by
   have:j = 0:=by simpa using hj
   subst this;exact b7.cell 3⟩
 | 4,_=>exact ⟨[.slice (some ⟨W.heap.size + 1 + 1 + 1,0,none⟩) 1 1],rfl,⟨_,1,rfl,Nums.ints b3 (nums_self [2]) (by show 1 <= 17592186043904;decide)⟩,fun j hj=>by
   have:j = 0:=by simpa using hj
   subst this;exact b7.cell 4⟩
 | 5,_=>exact ⟨[.slice (some ⟨W.heap.size + 1 + 1 + 1 + 1,0,none⟩) 2 2],rfl,⟨_,2,rfl,Nums.ints b4 (nums_self [0,2]) (by show 2 <= 17592186043904;decide)⟩,fun j hj=>by
   have:j = 0:=by simpa using hj
   subst this;exact b7.cell 5⟩
 | 6,_=>exact ⟨[.slice (some ⟨W.heap.size + 1 + 1 + 1 + 1 + 1,0,none⟩) 2 2],rfl,⟨_,2,rfl,Nums.ints b5 (nums_self [1,2]) (by show 2 <= 17592186043904;decide)⟩,fun j hj=>by
   have:j = 0:=by simpa using hj
   subst this;exact b7.cell 6⟩
 | 7,_=>exact ⟨[.slice (some ⟨W.heap.size + 1 + 1 + 1 + 1 + 1 + 1,0,none⟩) 3 3],rfl,⟨_,3,rfl,Nums.ints b6 (nums_self [0,1,2]) (by show 3 <= 17592186043904;decide)⟩,fun j hj=>by
   have:j = 0:=by simpa using hj
   subst this;exact b7.cell 7⟩
 | _ + 8,hi=>exact absurd hi (by simp [lists8])
structure CsAt (Ws W:World) (gC:Nat) (N:Int) (vS:Value) (L:List (Int × Int)) (vT:Value):Prop where
 box:Blk W gC 25 #[.int .i64 N,vS,vT]
 st:W.ownsRow Ws.heap.size 57 2 vS L.length (strC L)
 base:Ws.heap.size <= gC
 aft:Aft Ws W
theorem CsAt.on {Ws W W':World} {gC:Nat} {N:Int} {vS:Value} {L:List (Int × Int)} {vT:Value} (h:CsAt Ws W gC N vS L vT) (ha:Aft W W'):CsAt Ws W' gC N vS L vT:=⟨h.box.aft ha,own_aft h.st ha,h.base,h.aft.trans ha⟩
theorem CsAt.apart {Ws W:World} {gC:Nat} {N:Int} {vS:Value} {L:List (Int × Int)} {vT:Value} (h:CsAt Ws W gC N vS L vT):some gC ≠ vS.ownBlock:=by
 intro e;rcases h.st.2 with ⟨rfl,_⟩ | ⟨g,cap,cur,rfl,_,hh,_⟩
 ·cases e
 ·cases e;have:=h.box;unfold Blk at this;rw [hh] at this;cases this
theorem CsAt.rep {Ws W:World} {gC:Nat} {N:Int} {vS:Value} {L:List (Int × Int)} {vT:Value} (h:CsAt Ws W gC N vS L vT) (hl:L.length <= 1000000) {aT:Option Addr} {T:List (List Int)} (hT:Lists Ws aT T):∃ A c,vS = .slice A L.length c /\ CRep W ⟨N,L,T⟩ A aT:=by
 obtain ⟨A,c,h1,h2,-⟩:=own_strs h.st hl;exact ⟨A,c,h1,h2,hT.aft h.aft⟩
theorem CsAt.push {Ws W W2:World} {gC:Nat} {N:Int} {vS vS':Value} {L L':List (Int × Int)} {vT:Value} (h:CsAt Ws W gC N vS L vT) (h1:W2.ownsRow Ws.heap.size 57 2 vS' L'.length (strC L')) (hg:W.grownBy W2 vS.ownBlock):CsAt Ws (W2.setCell ⟨gC,1,none⟩ vS') gC N vS' L' vT:=by
 have hb:=h.box.grown hg h.apart;have ha:=h.aft.grown hg fun k e=>own_ge h.st k e
 have hs:=hb.store 1 vS';have h2:CsAt Ws W2 gC N vS L' vT -> True:=fun _=>trivial
 refine ⟨hs,?_,h.base,ha.then_setCell h.base vS'⟩;refine h1.kept (row:=some gC) ⟨rfl,rfl,rfl,by simp,fun k _ hk=>heap_setCell_other _ ⟨gC,1,none⟩ k _ (fun e=>hk (by simp [e]))⟩ ?_;rcases h1.2 with ⟨rfl,_⟩ | ⟨g,cap,cur,rfl,_,hh,_⟩
 ·exact .inl rfl
 ·refine .inr fun e=>?_
  cases e;unfold Blk at hb;rw [hh] at hb;cases hb
theorem cs_made (W:World) (N:Int) (vT:Value):CsAt W (W.alloc (.cells #[.int .i64 N,.slice none 0 0,vT] 25)) W.heap.size N (.slice none 0 0) [] vT :=
 ⟨Blk.new _ _ _,World.ownsRow_nil _ _ _ _,Nat.le_refl _,Aft.alloc _ _⟩
theorem tdv (n k:Nat):((n:Int).tdiv (k:Int)) = ((n / k:Nat):Int):=rfl
theorem tmd (n k:Nat):((n:Int).tmod (k:Int)) = ((n % k:Nat):Int):=rfl
theorem lists_two (W:World) (x y z:Int):Lists (((W.alloc (.cells #[.int .i64 x] 3)).alloc (.cells #[.int .i64 y,.int .i64 z] 3)).alloc (.cells #[.slice (some ⟨W.heap.size,0,none⟩) 1 1,.slice (some ⟨W.heap.size + 1,0,none⟩) 2 2] 33)) (some ⟨W.heap.size + 1 + 1,0,none⟩) [[x],[y,z]]:=by
 have b0:=((Blk.new W 3 #[.int .i64 x]).alloc (.cells #[.int .i64 y,.int .i64 z] 3)).alloc (.cells #[.slice (some ⟨W.heap.size,0,none⟩) 1 1,.slice (some ⟨W.heap.size + 1,0,none⟩) 2 2] 33);have b1:=(Blk.new (W.alloc (.cells #[.int .i64 x] 3)) 3 #[.int .i64 y,.int .i64 z]).alloc (.cells #[.slice (some ⟨W.heap.size,0,none⟩) 1 1,.slice (some ⟨W.heap.size + 1,0,none⟩) 2 2] 33);have b2:=Blk.new ((W.alloc (.cells #[.int .i64 x] 3)).alloc (.cells #[.int .i64 y,.int .i64 z] 3)) 33 #[.slice (some ⟨W.heap.size,0,none⟩) 1 1,.slice (some ⟨W.heap.size + 1,0,none⟩) 2 2];simp only [World.size_alloc] at b0 b1 b2;refine ⟨by show 2 * 1 <= 17592186043904;decide,.inr ⟨_,0,rfl,b2.lt,fun i hi=>?_⟩⟩
 match i,hi with
 | 0,_=>exact ⟨[.slice (some ⟨W.heap.size,0,none⟩) 1 1],rfl,⟨_,1,rfl,Nums.ints b0 (nums_self [x]) (by show 1 <= 17592186043904;decide)⟩,fun j hj=>by
   have:j = 0:=by simpa using hj
   subst this;exact b2.cell 0⟩
 | 1,_=>exact ⟨[.slice (some ⟨W.heap.size + 1,0,none⟩) 2 2],rfl,⟨_,2,rfl,Nums.ints b1 (nums_self [y,z]) (by show 2 <= 17592186043904;decide)⟩,fun j hj=>by
   have:j = 0:=by simpa using hj
   subst this;exact b2.cell 1⟩
theorem lists_one (W:World) (x:Int):Lists ((W.alloc (.cells #[.int .i64 x] 3)).alloc (.cells #[.slice (some ⟨W.heap.size,0,none⟩) 1 1] 33)) (some ⟨W.heap.size + 1,0,none⟩) [[x]]:=by
 have b0:=(Blk.new W 3 #[.int .i64 x]).alloc (.cells #[.slice (some ⟨W.heap.size,0,none⟩) 1 1] 33);have b2:=Blk.new (W.alloc (.cells #[.int .i64 x] 3)) 33 #[.slice (some ⟨W.heap.size,0,none⟩) 1 1];simp only [World.size_alloc] at b0 b2;refine ⟨by show 1 * 1 <= 17592186043904;decide,.inr ⟨_,0,rfl,b2.lt,fun i hi=>?_⟩⟩
 match i,hi with
 | 0,_=>exact ⟨[.slice (some ⟨W.heap.size,0,none⟩) 1 1],rfl,⟨_,1,rfl,Nums.ints b0 (nums_self [x]) (by show 1 <= 17592186043904;decide)⟩,fun j hj=>by
   have:j = 0:=by simpa using hj
   subst this;exact b2.cell 0⟩
end Go.Proofs
end
section
/- The closed law's lists,made in whatever order. -/
namespace Go.Proofs
open Go.RowKit
theorem quo_ex (n k hi:Nat) (h:n <= hi) (hh:hi <= 1000000):∃ v:Nat,Hid ((n:Int).tdiv (k:Int) = (v:Int)) /\ v <= hi /\ Hid (IntKind.i64.wrap (v:Int) = (v:Int)):=by
 have h1:n / k <= n:=Nat.div_le_self n k;have h2:=tdv n k;generalize n / k = v at h1 h2;exact ⟨v,Lib.hid h2,Nat.le_trans h1 h,Lib.hid (by rw [IntKind.wrap_i64];omega)⟩
theorem rem_ex (n k:Nat) (hk:0 < k):∃ v:Nat,Hid ((n:Int).tmod (k:Int) = (v:Int)) /\ v < k:=⟨n % k,Lib.hid (tmd n k),Nat.mod_lt _ hk⟩
theorem _root_.Go.Proofs.Lists.at8 {W:World} {b:Nat} (h:Lists W (some ⟨b,0,none⟩) lists8) {j:Nat} (hj:j < 8):∃ A l c,W.cell? ⟨b,j,none⟩ = some (.slice A (l:List Int).length c) /\ Ints W A l:=by
 obtain ⟨b',o',e,-,hc⟩:=h.at (k:=j) hj;cases e;obtain ⟨A,c,h1,h2⟩:=hc j hj;rw [Nat.zero_add] at h1;exact ⟨A,_,c,h1,h2⟩
theorem _root_.Go.Proofs.Lists.at8_lt {W:World} {b:Nat} (h:Lists W (some ⟨b,0,none⟩) lists8):b < W.heap.size:=by
 obtain ⟨b',o',e,hb,-⟩:=h.at (k:=0) (by decide);cases e;exact hb
structure Sa33 (W0:World) (l1 l2 l3:List Int) (n1 n2 n3:Nat) (done:Nat -> Bool) (a:Act) (W:World):Prop where
 aft:Aft W0 W
 o18:done 18 = true -> ∃ g,a.eval (.tmp 249) = .slice (some ⟨g,0,none⟩) n1 n1 /\ Ints W (some ⟨g,0,none⟩) l1
 o27:done 27 = true -> ∃ g,a.eval (.tmp 258) = .slice (some ⟨g,0,none⟩) n2 n2 /\ Ints W (some ⟨g,0,none⟩) l2
 o36:done 36 = true -> ∃ g,a.eval (.tmp 267) = .slice (some ⟨g,0,none⟩) n3 n3 /\ Ints W (some ⟨g,0,none⟩) l3
section
variable {W0 W W':World} {l1 l2 l3:List Int} {n1 n2 n3:Nat} {done:Nat -> Bool} {a:Act}
theorem Sa33.start:Sa33 W0 l1 l2 l3 n1 n2 n3 (fun _=>false) a W0.drew:=⟨Aft.drew _,(fun h=>by cases h),(fun h=>by cases h),(fun h=>by cases h)⟩
theorem Sa33.keep (h:Sa33 W0 l1 l2 l3 n1 n2 n3 done a W) {i:Nat} {dst:Option Tmp} {v:Value} (hi:i ≠ 18 /\ i ≠ 27 /\ i ≠ 36) (hd:dst ≠ some 249 /\ dst ≠ some 258 /\ dst ≠ some 267):Sa33 W0 l1 l2 l3 n1 n2 n3 (Go.upd done i) (a.put dst v) W:=by
 refine ⟨h.aft,fun p=>?_,fun p=>?_,fun p=>?_⟩
 ·rw [upd_ne' (Ne.symm hi.1)] at p;obtain ⟨g,e,hs⟩:=h.o18 p;exact ⟨g,by rw [evne hd.1];exact e,hs⟩
 ·rw [upd_ne' (Ne.symm hi.2.1)] at p;obtain ⟨g,e,hs⟩:=h.o27 p;exact ⟨g,by rw [evne hd.2.1];exact e,hs⟩
 ·rw [upd_ne' (Ne.symm hi.2.2)] at p;obtain ⟨g,e,hs⟩:=h.o36 p;exact ⟨g,by rw [evne hd.2.2];exact e,hs⟩
theorem Sa33.step18 (h:Sa33 W0 l1 l2 l3 n1 n2 n3 done a W) (ha:Aft W W') {g:Nat} (hs:Ints W' (some ⟨g,0,none⟩) l1) (hz:249 < a.tmps.size):Sa33 W0 l1 l2 l3 n1 n2 n3 (Go.upd done 18) (a.put (some 249) (.slice (some ⟨g,0,none⟩) n1 n1)) W':=by
 refine ⟨h.aft.trans ha,fun _=>⟨g,Act.eval_put_same _ _ _ hz,hs⟩,fun p=>?_,fun p=>?_⟩
 ·rw [upd_ne' (by decide)] at p;obtain ⟨g,e,hs⟩:=h.o27 p;exact ⟨g,by rw [evne (by decide)];exact e,hs.aft ha⟩
 ·rw [upd_ne' (by decide)] at p;obtain ⟨g,e,hs⟩:=h.o36 p;exact ⟨g,by rw [evne (by decide)];exact e,hs.aft ha⟩
theorem Sa33.step27 (h:Sa33 W0 l1 l2 l3 n1 n2 n3 done a W) (ha:Aft W W') {g:Nat} (hs:Ints W' (some ⟨g,0,none⟩) l2) (hz:258 < a.tmps.size):Sa33 W0 l1 l2 l3 n1 n2 n3 (Go.upd done 27) (a.put (some 258) (.slice (some ⟨g,0,none⟩) n2 n2)) W':=by
 refine ⟨h.aft.trans ha,fun p=>?_,fun _=>⟨g,Act.eval_put_same _ _ _ hz,hs⟩,fun p=>?_⟩
 ·rw [upd_ne' (by decide)] at p;obtain ⟨g,e,hs⟩:=h.o18 p;exact ⟨g,by rw [evne (by decide)];exact e,hs.aft ha⟩
 ·rw [upd_ne' (by decide)] at p;obtain ⟨g,e,hs⟩:=h.o36 p;exact ⟨g,by rw [evne (by decide)];exact e,hs.aft ha⟩
theorem Sa33.step36 (h:Sa33 W0 l1 l2 l3 n1 n2 n3 done a W) (ha:Aft W W') {g:Nat} (hs:Ints W' (some ⟨g,0,none⟩) l3) (hz:267 < a.tmps.size):Sa33 W0 l1 l2 l3 n1 n2 n3 (Go.upd done 36) (a.put (some 267) (.slice (some ⟨g,0,none⟩) n3 n3)) W':=by
 refine ⟨h.aft.trans ha,fun p=>?_,fun p=>?_,fun _=>⟨g,Act.eval_put_same _ _ _ hz,hs⟩⟩
 ·rw [upd_ne' (by decide)] at p;obtain ⟨g,e,hs⟩:=h.o18 p;exact ⟨g,by rw [evne (by decide)];exact e,hs.aft ha⟩
 ·rw [upd_ne' (by decide)] at p;obtain ⟨g,e,hs⟩:=h.o27 p;exact ⟨g,by rw [evne (by decide)];exact e,hs.aft ha⟩
theorem Sa33.later (h:Sa33 W0 l1 l2 l3 n1 n2 n3 done a W) (ha:Aft W W'):Sa33 W0 l1 l2 l3 n1 n2 n3 done a W':=by
 refine ⟨h.aft.trans ha,fun p=>?_,fun p=>?_,fun p=>?_⟩
 ·obtain ⟨g,e,hs⟩:=h.o18 p;exact ⟨g,e,hs.aft ha⟩
 ·obtain ⟨g,e,hs⟩:=h.o27 p;exact ⟨g,e,hs.aft ha⟩
 ·obtain ⟨g,e,hs⟩:=h.o36 p;exact ⟨g,e,hs.aft ha⟩
end
structure Sa46 (W0:World) (l1 l2 l3:List Int) (n1 n2 n3:Nat) (done:Nat -> Bool) (a:Act) (W:World):Prop where
 aft:Aft W0 W
 o17:done 17 = true -> ∃ g,a.eval (.tmp 320) = .slice (some ⟨g,0,none⟩) n1 n1 /\ Ints W (some ⟨g,0,none⟩) l1
 o23:done 23 = true -> ∃ g,a.eval (.tmp 326) = .slice (some ⟨g,0,none⟩) n2 n2 /\ Ints W (some ⟨g,0,none⟩) l2
 o29:done 29 = true -> ∃ g,a.eval (.tmp 332) = .slice (some ⟨g,0,none⟩) n3 n3 /\ Ints W (some ⟨g,0,none⟩) l3
section
variable {W0 W W':World} {l1 l2 l3:List Int} {n1 n2 n3:Nat} {done:Nat -> Bool} {a:Act}
theorem Sa46.start:Sa46 W0 l1 l2 l3 n1 n2 n3 (fun _=>false) a W0.drew:=⟨Aft.drew _,(fun h=>by cases h),(fun h=>by cases h),(fun h=>by cases h)⟩
theorem Sa46.keep (h:Sa46 W0 l1 l2 l3 n1 n2 n3 done a W) {i:Nat} {dst:Option Tmp} {v:Value} (hi:i ≠ 17 /\ i ≠ 23 /\ i ≠ 29) (hd:dst ≠ some 320 /\ dst ≠ some 326 /\ dst ≠ some 332):Sa46 W0 l1 l2 l3 n1 n2 n3 (Go.upd done i) (a.put dst v) W:=by
 refine ⟨h.aft,fun p=>?_,fun p=>?_,fun p=>?_⟩
 ·rw [upd_ne' (Ne.symm hi.1)] at p;obtain ⟨g,e,hs⟩:=h.o17 p;exact ⟨g,by rw [evne hd.1];exact e,hs⟩
 ·rw [upd_ne' (Ne.symm hi.2.1)] at p;obtain ⟨g,e,hs⟩:=h.o23 p;exact ⟨g,by rw [evne hd.2.1];exact e,hs⟩
 ·rw [upd_ne' (Ne.symm hi.2.2)] at p;obtain ⟨g,e,hs⟩:=h.o29 p;exact ⟨g,by rw [evne hd.2.2];exact e,hs⟩
theorem Sa46.step17 (h:Sa46 W0 l1 l2 l3 n1 n2 n3 done a W) (ha:Aft W W') {g:Nat} (hs:Ints W' (some ⟨g,0,none⟩) l1) (hz:320 < a.tmps.size):Sa46 W0 l1 l2 l3 n1 n2 n3 (Go.upd done 17) (a.put (some 320) (.slice (some ⟨g,0,none⟩) n1 n1)) W':=by
 refine ⟨h.aft.trans ha,fun _=>⟨g,Act.eval_put_same _ _ _ hz,hs⟩,fun p=>?_,fun p=>?_⟩
 ·rw [upd_ne' (by decide)] at p;obtain ⟨g,e,hs⟩:=h.o23 p;exact ⟨g,by rw [evne (by decide)];exact e,hs.aft ha⟩
 ·rw [upd_ne' (by decide)] at p;obtain ⟨g,e,hs⟩:=h.o29 p;exact ⟨g,by rw [evne (by decide)];exact e,hs.aft ha⟩
theorem Sa46.step23 (h:Sa46 W0 l1 l2 l3 n1 n2 n3 done a W) (ha:Aft W W') {g:Nat} (hs:Ints W' (some ⟨g,0,none⟩) l2) (hz:326 < a.tmps.size):Sa46 W0 l1 l2 l3 n1 n2 n3 (Go.upd done 23) (a.put (some 326) (.slice (some ⟨g,0,none⟩) n2 n2)) W':=by
 refine ⟨h.aft.trans ha,fun p=>?_,fun _=>⟨g,Act.eval_put_same _ _ _ hz,hs⟩,fun p=>?_⟩
 ·rw [upd_ne' (by decide)] at p;obtain ⟨g,e,hs⟩:=h.o17 p;exact ⟨g,by rw [evne (by decide)];exact e,hs.aft ha⟩
 ·rw [upd_ne' (by decide)] at p;obtain ⟨g,e,hs⟩:=h.o29 p;exact ⟨g,by rw [evne (by decide)];exact e,hs.aft ha⟩
theorem Sa46.step29 (h:Sa46 W0 l1 l2 l3 n1 n2 n3 done a W) (ha:Aft W W') {g:Nat} (hs:Ints W' (some ⟨g,0,none⟩) l3) (hz:332 < a.tmps.size):Sa46 W0 l1 l2 l3 n1 n2 n3 (Go.upd done 29) (a.put (some 332) (.slice (some ⟨g,0,none⟩) n3 n3)) W':=by
 refine ⟨h.aft.trans ha,fun p=>?_,fun p=>?_,fun _=>⟨g,Act.eval_put_same _ _ _ hz,hs⟩⟩
 ·rw [upd_ne' (by decide)] at p;obtain ⟨g,e,hs⟩:=h.o17 p;exact ⟨g,by rw [evne (by decide)];exact e,hs.aft ha⟩
 ·rw [upd_ne' (by decide)] at p;obtain ⟨g,e,hs⟩:=h.o23 p;exact ⟨g,by rw [evne (by decide)];exact e,hs.aft ha⟩
theorem Sa46.later (h:Sa46 W0 l1 l2 l3 n1 n2 n3 done a W) (ha:Aft W W'):Sa46 W0 l1 l2 l3 n1 n2 n3 done a W':=by
 refine ⟨h.aft.trans ha,fun p=>?_,fun p=>?_,fun p=>?_⟩
 ·obtain ⟨g,e,hs⟩:=h.o17 p;exact ⟨g,e,hs.aft ha⟩
 ·obtain ⟨g,e,hs⟩:=h.o23 p;exact ⟨g,e,hs.aft ha⟩
 ·obtain ⟨g,e,hs⟩:=h.o29 p;exact ⟨g,e,hs.aft ha⟩
end
end Go.Proofs
end
section
/- What the closed law asks of cases that are known. -/
namespace Go.Proofs
open Go.RowKit
def pairS (n:Nat):List (Int × Int):=(List.range n).flatMap fun i=>[(((2 * i:Nat):Int),((2 * i + 1:Nat):Int)),(((2 * i + 1:Nat):Int),((2 * i:Nat):Int))]
theorem pairS_len (n:Nat):(pairS n).length = 2 * n:=by
 unfold pairS
 induction n with
 | zero=>rfl
 | succ n ih=>rw [List.range_succ,List.flatMap_append,List.length_append,ih];simp;omega
theorem pairS_succ (n:Nat):pairS (n + 1) = pairS n ++ [(((2 * n:Nat):Int),((2 * n + 1:Nat):Int)),(((2 * n + 1:Nat):Int),((2 * n:Nat):Int))]:=by
 unfold pairS;rw [List.range_succ,List.flatMap_append]
 simp
theorem pairs_full:fullE ⟨14,pairS 7,[]⟩ [] = 11:=by kernel_rfl
theorem pairs_alwaysE:alwaysE ⟨14,pairS 7,[]⟩ [] = 0:=by kernel_rfl
theorem pairs_always:alwaysL ⟨14,pairS 7,[]⟩ [] = []:=by kernel_rfl
theorem pairs_fullE:fullE ⟨10,(pairS 7).take 10,[]⟩ [] = 0:=by kernel_rfl
theorem pairs_fulls:(fullsL ⟨10,(pairS 7).take 10,[]⟩ []).length = 32:=by kernel_rfl
theorem heard400:heardE fiveC [] (List.replicate 400 0) = 0:=by kernel_rfl
theorem heard401:heardE fiveC [] (List.replicate 401 0) = 3:=by kernel_rfl
def rowS (n:Nat):List (Int × Int):=(List.range n).map fun i=>(((i % 14:Nat):Int),(((i + i / 14) % 14:Nat):Int))
theorem rowS_len (n:Nat):(rowS n).length = n:=by unfold rowS;simp
theorem rowS_succ (n:Nat):rowS (n + 1) = rowS n ++ [(((n % 14:Nat):Int),(((n + n / 14) % 14:Nat):Int))]:=by
 unfold rowS;rw [List.range_succ,List.map_append];rfl
def toldT (n:Nat):List (List Int):=[[0],[3]] ++ (List.range (min n 8)).map fun i=>[0,1,2,3,4].take (1 + i % 5)
theorem many_case (n:Nat) (h:60 < n) (C:CaseL) (hC:C.strikes = rowS n):caseE C = 3:=by
 unfold caseE;rw [if_pos];rw [hC,rowS_len];simp [h]
theorem told_case:∀ n,n < 63 -> (caseE ⟨5,fiveC.strikes,toldT n⟩ = 0 ↔ n < 5):=by
 have h:((List.range 63).all fun n=>decide (caseE ⟨5,fiveC.strikes,toldT n⟩ = 0) == decide (n < 5)) = true:=by kernel_rfl
 intro n hn;have:=List.all_eq_true.1 h n (List.mem_range.2 hn);simpa using this
theorem long_case:∀ n,n < 63 -> (caseE ⟨8,[],[[0,1,2,3,4,5,6,7].take (min n 8)]⟩ = 0 ↔ (0 < n /\ n < 7)):=by
 have h:((List.range 63).all fun n=>decide (caseE ⟨8,[],[[0,1,2,3,4,5,6,7].take (min n 8)]⟩ = 0) == decide (0 < n /\ n < 7)) = true:=by kernel_rfl
 intro n hn;have:=List.all_eq_true.1 h n (List.mem_range.2 hn);exact decide_eq_decide.1 (eq_of_beq this)
end Go.Proofs
end
section
/- The closed law's fourth loop: a case and its strikes,another one and its surveys,told one by one. -/
namespace Go.Proofs
open Go.RowKit
theorem own_block_t {W:World} {b:Nat} {e:TypeId} {s:Nat} {v:Value} {n:Nat} {vs:List Value} (h:W.ownsRow b e s v n vs) {g:Nat} (hg:v.ownBlock = some g):b <= g /\ ∃ cs,Blk W g e cs:=by
 rcases h.2 with ⟨rfl,_⟩ | ⟨g',cap,cur,rfl,h1,hh,_⟩
 ·cases hg
 ·cases hg;exact ⟨h1,cur,hh⟩
theorem blk_type {W:World} {g:Nat} {t t':TypeId} {cs cs':Array Value} (h:Blk W g t cs) (h':Blk W g t' cs'):t = t':=by
 unfold Blk at h h';rw [h] at h';cases h';rfl
theorem blk_apart {W:World} {g:Nat} {t e:TypeId} {cs:Array Value} {b s n:Nat} {v:Value} {vs:List Value} (h:Blk W g t cs) (ho:W.ownsRow b e s v n vs) (hne:t ≠ e):some g ≠ v.ownBlock:=fun he=>by
 obtain ⟨_,cs',hb⟩:=own_block_t ho he.symm;exact hne (blk_type h hb)
theorem own_apart {W:World} {b s n b' s' n':Nat} {e e':TypeId} {v v':Value} {vs vs':List Value} (ho:W.ownsRow b e s v n vs) (ho':W.ownsRow b' e' s' v' n' vs') (hne:e ≠ e'):v.ownBlock = none \/ v.ownBlock ≠ v'.ownBlock:=by
 cases hv:v.ownBlock with
 | none=>exact .inl rfl
 | some g =>
  obtain ⟨_,cs,hb⟩:=own_block_t ho hv;exact .inr (blk_apart hb ho' hne)
theorem own_far {W:World} {b s n:Nat} {e t:TypeId} {v:Value} {vs:List Value} {g:Nat} {cs:Array Value} (ho:W.ownsRow b e s v n vs) (hb:Blk W g t cs) (hne:t ≠ e):v.ownBlock = none \/ v.ownBlock ≠ some g:=by
 cases hv:v.ownBlock with
 | none=>exact .inl rfl
 | some k =>
  have:=blk_apart hb ho hne;rw [hv] at this;exact .inr (Ne.symm this)
structure K3 (W W':World):Prop where
 same:∀ i cs,Blk W i 3 cs -> Blk W' i 3 cs
theorem K3.of_aft {W W':World} (h:Aft W W'):K3 W W':=⟨fun _ _ hb=>hb.aft h⟩
theorem K3.of_grown {W W':World} {row:Option Nat} (h:W.grownBy W' row) (hr:∀ g cs,row = some g -> ¬ Blk W g 3 cs):K3 W W':=⟨fun i cs hb=>hb.grown h fun e=>hr i cs e.symm hb⟩
def SlcOf (W:World) (v:Value) (l:List Int):Prop:=∃ b cs,v = .slice (some ⟨b,0,none⟩) l.length cs.size /\ Blk W b 3 cs /\ Nums cs l
theorem SlcOf.kept {W W':World} {v:Value} {l:List Int} (h:SlcOf W v l) (k:K3 W W'):SlcOf W' v l:=let ⟨b,cs,h1,h2,h3⟩:=h;⟨b,cs,h1,k.same _ _ h2,h3⟩
def ToldV (W:World) (b:Nat) (v:Value) (vs:List Value) (T:List (List Int)):Prop:=W.ownsRow b 33 1 v T.length vs /\ ∀ i,(h:i < T.length) -> (h':i < vs.length) -> SlcOf W vs[i] T[i]
def Told (W:World) (b:Nat) (v:Value) (T:List (List Int)):Prop:=∃ vs,ToldV W b v vs T
theorem Told.kept {W W':World} {b:Nat} {v:Value} {T:List (List Int)} (h:Told W b v T) {row:Option Nat} (hg:W.grownBy W' row) (hne:v.ownBlock = none \/ v.ownBlock ≠ row) (k:K3 W W'):Told W' b v T :=
 let ⟨vs,h1,h2⟩:=h
 ⟨vs,h1.kept hg hne,fun i hi hi'=>(h2 i hi hi').kept k⟩
theorem Told.aft {W W':World} {b:Nat} {v:Value} {T:List (List Int)} (h:Told W b v T) (ha:Aft W W'):Told W' b v T :=
 let ⟨vs,h1,h2⟩:=h
 ⟨vs,own_aft h1 ha,fun i hi hi'=>(h2 i hi hi').kept (.of_aft ha)⟩
theorem Told.form {W:World} {b:Nat} {v:Value} {T:List (List Int)} (h:Told W b v T):∃ A c,v = .slice A T.length c:=by
 obtain ⟨vs,h1,_⟩:=h;rcases h1.2 with ⟨rfl,h0⟩ | ⟨g,cap,cur,rfl,_⟩
 ·exact ⟨none,0,by rw [h0]⟩
 ·exact ⟨_,_,rfl⟩
theorem Told.lists {W:World} {b:Nat} {v:Value} {T:List (List Int)} (h:Told W b v T) (hl:T.length <= 17592186043904) (hr:∀ l ∈ T,l.length <= 17592186043904):∃ A c,v = .slice A T.length c /\ Lists W A T:=by
 obtain ⟨vs,h1,h2⟩:=h;have hlen:vs.length = T.length:=by simpa using h1.1
 rcases h1.2 with ⟨rfl,h0⟩ | ⟨g,cap,cur,rfl,hg,hh,hc,hm,hs,ht⟩
 ·have:T = []:=List.eq_nil_of_length_eq_zero h0;subst this;exact ⟨none,0,rfl,by simp,.inl rfl⟩
 ·refine ⟨_,cap,rfl,by omega,.inr ⟨g,0,rfl,(Array.getElem?_eq_some_iff.1 hh).1,fun i hi=>?_⟩⟩;have hiv:i < vs.length:=by rw [hlen];exact hi
  obtain ⟨bb,cs,e,hb,hn⟩:=h2 i hi hiv;refine ⟨[vs[i]],rfl,⟨_,_,by rw [e],Nums.ints hb hn (hr _ (List.getElem_mem hi))⟩,fun j hj=>?_⟩;have:=h1.cells (g:=g) rfl i vs[i] (by simp [hiv]);rw [Addr.add_lit] at this;simp at hj;subst hj;simpa using this
theorem slc_cell {W:World} {v:Value} {l:List Int} (h:SlcOf W v l):v.oneCell' = true:=by
 obtain ⟨b,cs,rfl,-⟩:=h;rfl
theorem wpList_app_told {w:World} {ops:Array Oper} {rest:List Oper} {o:Oper} {a:Act} {Q:Exit -> Act -> World -> Prop}
  (hgd:o.guard = none) (s x:Operand) (ho:o.op = .call { callee:=.builtin .append,args:=#[s,x],argTypes:=#[23,23] })
  {b:Nat} {v:Value} {T:List (List Int)} (h:Told w b v T) (hbase:b <= w.heap.size) (hs:a.eval s = v)
  {r:Value} {l:List Int} {c g:Nat} (hx:a.eval x = .slice (some ⟨g,0,none⟩) 1 c) (hb:w.cell? ⟨g,0,none⟩ = some r)
  (hr:SlcOf w r l) (hl:T.length <= 1000000)
  (hn:∀ v' w',Told w' b v' (T ++ [l]) -> w.grownBy w' v.ownBlock -> wpList Tryz.prog ops Q rest (a.put o.dst v') w'):wpList Tryz.prog ops Q (o :: rest) a w:=by
 obtain ⟨ht,⟨i,z,hi,hz,hsize,hby,hzs⟩,hsz⟩:=ty41;obtain ⟨vs,hv⟩:=h;refine wpList_append_own_at (w:=w) hgd s x 23 ho b 33 i z 1 24 ht hi hz hsize hby hzs hsz v T.length vs hs hv.1 ⟨g,0,none⟩ 1 c [r] hx rfl (fun j u hj=>?_) (fun u hu=>by rw [List.mem_singleton] at hu;subst hu;exact slc_cell hr)
  (by unfold maxLen;omega) (by omega) hbase fun v' w' h2 h3 _ h5=>?_
 ·match j,hj with
  | 0,hj=>simp at hj;subst hj;rw [Addr.add_lit];simpa using hb
 ·have hk:K3 w w':=K3.of_grown h3 fun g' cs hg' hb'=>by
   obtain ⟨_,cs',hb2⟩:=own_block_t hv.1 hg';exact absurd (blk_type hb' hb2) (by decide)
  refine hn v' w' ⟨vs ++ [r],by simpa using h2,fun i hi hi'=>?_⟩ h3;have hlen:vs.length = T.length:=by simpa using hv.1.1
  by_cases e:i < vs.length
  ·have e':i < T.length:=by omega
   rw [List.getElem_append_left e];simp only [List.getElem_append_left e'];exact (hv.2 i e' e).kept hk
  ·have e2:i = T.length:=by simp at hi;omega
   subst e2;rw [List.getElem_append_right (by omega)];have:(T ++ [l])[T.length]'hi = l:=by simp
   rw [this];simp only [hlen,Nat.sub_self,List.getElem_cons_zero];exact hr.kept hk
theorem grown_set (W:World) (g i:Nat) (v:Value):W.grownBy (W.setCell ⟨g,i,none⟩ v) (some g):=⟨rfl,rfl,rfl,by simp,fun k _ hk=>heap_setCell_other _ ⟨g,i,none⟩ k _ (fun e=>hk (by simp [e]))⟩
structure Lp (W0 Ws W:World) (gC b1 c1:Nat) (u:Int) (vS vT:Value) (m:Nat) (T:List (List Int)):Prop where
 cb:Blk W gC 25 #[.int .i64 u,vS,.slice none 0 0]
 cs:W.ownsRow Ws.heap.size 57 2 vS (rowS m).length (strC (rowS m))
 tb:Blk W (gC + 1) 25 #[.int .i64 5,.slice (some ⟨b1,0,none⟩) 5 c1,vT]
 ts:W.ownsRow W0.heap.size 57 2 (.slice (some ⟨b1,0,none⟩) 5 c1) 5 (strC fiveC.strikes)
 td:Told W W0.heap.size vT T
 lt:b1 < Ws.heap.size
 base:Ws.heap.size <= gC
 aft:Aft W0 W
 w0:W0.heap.size <= Ws.heap.size
section
variable {W0 Ws W W' W2:World} {gC b1 c1 m:Nat} {u:Int} {vS vS' vT vT':Value} {T:List (List Int)}
theorem Lp.on (h:Lp W0 Ws W gC b1 c1 u vS vT m T) (ha:Aft W W'):Lp W0 Ws W' gC b1 c1 u vS vT m T :=
 ⟨h.cb.aft ha,own_aft h.cs ha,h.tb.aft ha,own_aft h.ts ha,h.td.aft ha,h.lt,h.base,h.aft.trans ha,h.w0⟩
theorem Lp.pushC (h:Lp W0 Ws W gC b1 c1 u vS vT m T) (h1:W2.ownsRow Ws.heap.size 57 2 vS' (rowS (m + 1)).length (strC (rowS (m + 1)))) (hg:W.grownBy W2 vS.ownBlock):Lp W0 Ws (W2.setCell ⟨gC,1,none⟩ vS') gC b1 c1 u vS' vT (m + 1) T:=by
 obtain ⟨vs,ht⟩:=h.td;have hcb:=h.cb.grown hg (blk_apart h.cb h.cs (by decide));have htb:=h.tb.grown hg (blk_apart h.tb h.cs (by decide))
 have hts:W2.ownsRow W0.heap.size 57 2 (.slice (some ⟨b1,0,none⟩) 5 c1) 5 (strC fiveC.strikes):=h.ts.kept hg (.inr fun e=>by
  have h8:Ws.heap.size <= b1:=(own_block_t h.cs e.symm).1;have:=h.lt;omega)
 have htd:Told W2 W0.heap.size vT T:=h.td.kept hg (own_apart ht.1 h.cs (by decide)) (.of_grown hg fun g' cs hg' hb'=>by
  obtain ⟨_,cs',hb2⟩:=own_block_t h.cs hg';exact absurd (blk_type hb' hb2) (by decide))
 have gs:=grown_set W2 gC 1 vS';obtain ⟨vs2,ht2⟩:=htd;refine ⟨hcb.store 1 vS',h1.kept gs (own_far h1 hcb (by decide)),htb.grown gs (by simp),hts.kept gs (own_far hts hcb (by decide)),Told.kept ⟨vs2,ht2⟩ gs (own_far ht2.1 hcb (by decide)) (.of_grown gs fun g' cs e hb'=>by cases e;exact absurd (blk_type hb' hcb) (by decide)),h.lt,h.base,?_,h.w0⟩;exact (h.aft.grown hg fun k e=>Nat.le_trans h.w0 (own_block_t h.cs e).1).then_setCell (Nat.le_trans h.w0 h.base) vS'
theorem Lp.pushT (h:Lp W0 Ws W gC b1 c1 u vS vT m T) {l:List Int} (h1:Told W2 W0.heap.size vT' (T ++ [l])) (hg:W.grownBy W2 vT.ownBlock):Lp W0 Ws (W2.setCell ⟨gC + 1,2,none⟩ vT') gC b1 c1 u vS vT' m (T ++ [l]):=by
 obtain ⟨vs,ht⟩:=h.td;have hcb:=h.cb.grown hg (blk_apart h.cb ht.1 (by decide));have htb:=h.tb.grown hg (blk_apart h.tb ht.1 (by decide));have hts:=h.ts.kept hg (own_apart h.ts ht.1 (by decide));have hcs:=h.cs.kept hg (own_apart h.cs ht.1 (by decide));have gs:=grown_set W2 (gC + 1) 2 vT';obtain ⟨vs2,ht2⟩:=h1;refine ⟨hcb.grown gs (by simp),hcs.kept gs (own_far hcs htb (by decide)),htb.store 2 vT',hts.kept gs (own_far hts htb (by decide)),Told.kept ⟨vs2,ht2⟩ gs (own_far ht2.1 htb (by decide)) (.of_grown gs fun g' cs e hb'=>by cases e;exact absurd (blk_type hb' htb) (by decide)),h.lt,h.base,?_,h.w0⟩;exact (h.aft.grown hg fun k e=>(own_block_t ht.1 e).1).then_setCell (Nat.le_trans h.w0 (Nat.le_succ_of_le h.base)) vT'
end
theorem toldT_len (n:Nat):(toldT n).length = 2 + min n 8:=by unfold toldT;simp;omega
theorem toldT_succ {n:Nat} (h:n < 8):toldT (n + 1) = toldT n ++ [[0,1,2,3,4].take (1 + n % 5)]:=by
 unfold toldT;rw [Nat.min_eq_left (by omega),Nat.min_eq_left (by omega),List.range_succ,List.map_append];rfl
theorem toldT_stay {n:Nat} (h:8 <= n):toldT (n + 1) = toldT n:=by
 unfold toldT;rw [Nat.min_eq_right h,Nat.min_eq_right (by omega)]
theorem toldT_small (n:Nat):∀ l ∈ toldT n,l.length <= 17592186043904:=by
 intro l hl;unfold toldT at hl;rw [List.mem_append] at hl;rcases hl with hl | hl
 ·simp at hl;rcases hl with rfl | rfl <;> decide
 ·obtain ⟨i,_,rfl⟩:=List.mem_map.1 hl;have:=List.length_take_le (1 + i % 5) [(0:Int),1,2,3,4];have:[(0:Int),1,2,3,4].length = 5:=rfl;have h2:=List.length_take_le' (1 + i % 5) [(0:Int),1,2,3,4];omega
theorem nums_take (l:List Int) (k:Nat):Nums (l.map (Value.int .i64)).toArray (l.take k):=by
 refine ⟨by simp;omega,fun t ht=>?_⟩;have h1:t < l.length:=by simp at ht;omega
 simp [h1]
theorem told_five {W0 W:World} {b1 c1 g:Nat} (h:FiveAt W0 W b1 c1 g):Told W W0.heap.size (.slice (some ⟨g + 1 + 1,0,none⟩) 2 2) (toldT 0):=by
 refine ⟨[.slice (some ⟨g,0,none⟩) 1 1,.slice (some ⟨g + 1,0,none⟩) 1 1],⟨rfl,.inr ⟨g + 1 + 1,2,_,rfl,by have:=h.base;omega,h.sv,Nat.le_refl _,by decide,rfl,rfl⟩⟩,fun i hi hi'=>?_⟩
 match i,hi' with
 | 0,_=>exact ⟨g,_,rfl,h.r0,nums_self [0]⟩
 | 1,_=>exact ⟨g + 1,_,rfl,h.r1,nums_self [3]⟩
theorem Lp.repC {W0 Ws W:World} {gC b1 c1 m:Nat} {u:Int} {vS vT:Value} {T:List (List Int)} (h:Lp W0 Ws W gC b1 c1 u vS vT m T) (hm:m <= 1000):∃ A c,vS = .slice A m c /\ CRep W ⟨u,rowS m,[]⟩ A none:=by
 obtain ⟨A,c,h1,h2,-⟩:=own_strs h.cs (by rw [rowS_len];omega);exact ⟨A,c,by rw [h1,rowS_len],h2,by simp,.inl rfl⟩
theorem Lp.repT {W0 Ws W:World} {gC b1 c1 m k:Nat} {u:Int} {vS vT:Value} (h:Lp W0 Ws W gC b1 c1 u vS vT m (toldT k)):∃ A c n,n = 2 + min k 8 /\ vT = .slice A n c /\ CRep W ⟨5,fiveC.strikes,toldT k⟩ (some ⟨b1,0,none⟩) A:=by
 obtain ⟨A,c,h1,h2⟩:=h.td.lists (by rw [toldT_len];omega) (toldT_small k);obtain ⟨A',c',e,hs,-⟩:=own_strs (L:=fiveC.strikes) h.ts (by decide);injection e with e1 _ _
 exact ⟨A,c,_,rfl,by rw [h1,toldT_len],by rw [e1];exact hs,h2⟩
end Go.Proofs
end
section
/- The closed law's last lines: pairs that strike each other,and orders as long as they may be. -/
namespace Go.Proofs
open Go.RowKit
theorem wpList_push44 {w:World} {ops:Array Oper} {rest:List Oper} {o:Oper} {a:Act} {Q:Exit -> Act -> World -> Prop}
  (hgd:o.guard = none) (s x:Operand) (ho:o.op = .call { callee:=.builtin .append,args:=#[s,x],argTypes:=#[22,22] })
  {base:Nat} {v:Value} {L:List (Int × Int)} (hown:w.ownsRow base 57 2 v L.length (strC L)) (hbase:base <= w.heap.size) (hs:a.eval s = v)
  {y0 y1 y2 y3:Int} {c:Nat} {b:Nat} (hx:a.eval x = .slice (some ⟨b,0,none⟩) 2 c) (hb:Blk w b 57 #[.int .i64 y0,.int .i64 y1,.int .i64 y2,.int .i64 y3]) (hl:L.length <= 1000000)
  (hn:∀ v' w',w'.ownsRow base 57 2 v' (L ++ [(y0,y1),(y2,y3)]).length (strC (L ++ [(y0,y1),(y2,y3)])) -> w.grownBy w' v.ownBlock -> wpList Tryz.prog ops Q rest (a.put o.dst v') w'):wpList Tryz.prog ops Q (o :: rest) a w:=by
 obtain ⟨ht,⟨i,z,hi,hz,hsize,hby,hzs⟩,hsz⟩:=ty22;refine wpList_append_own_at (w:=w) hgd s x 22 ho base 57 i z 2 16 ht hi hz hsize hby hzs hsz v L.length _ hs hown ⟨b,0,none⟩ 2 c [.int .i64 y0,.int .i64 y1,.int .i64 y2,.int .i64 y3] hx rfl (fun j u hj=>?_) (fun u hu=>by simp at hu;rcases hu with rfl | rfl | rfl | rfl <;> rfl)
  (by unfold maxLen;omega) (by omega) hbase fun v2 w2 h2 h3 _ _=>hn v2 w2 (by
   have e:strC (L ++ [(y0,y1),(y2,y3)]) = strC L ++ [.int .i64 y0,.int .i64 y1,.int .i64 y2,.int .i64 y3]:=by unfold strC;rw [List.flatMap_append];rfl
   rw [e];simpa using h2) h3
 have:=hb.cell j
 match j,hj with
 | 0,hj=>simp at hj;subst hj;rw [Addr.add_lit];simpa using this
 | 1,hj=>simp at hj;subst hj;rw [Addr.add_lit];simpa using this
 | 2,hj=>simp at hj;subst hj;rw [Addr.add_lit];simpa using this
 | 3,hj=>simp at hj;subst hj;rw [Addr.add_lit];simpa using this
theorem strs_take {w:World} {A:Option Addr} {L:List (Int × Int)} (h:Strs w A L) (k:Nat):Strs w A (L.take k):=by
 have hl:(L.take k).length <= L.length:=by rw [List.length_take];omega
 refine ⟨Nat.le_trans (Nat.mul_le_mul_right _ hl) h.1,?_⟩;rcases h.2 with rfl | ⟨b,o,e,hb,hc⟩
 ·exact .inl (by simp)
 ·refine .inr ⟨b,o,e,hb,fun i hi=>?_⟩;obtain ⟨vs,h1,h2,h3⟩:=hc i (by omega);refine ⟨vs,h1,?_,h3⟩;rw [List.getElem_take];exact h2
theorem full_pairs {w:World} {A:Option Addr} {c:Nat} (h:Strs w A (pairS 7)):Calls Tryz.prog 27 #[.agg #[.int .i64 14,.slice A 14 c,.slice none 0 0],.slice none 0 0] w fun e w'=>e = .returned (.tuple #[.slice none 0 0,.int .i64 11]) /\ Aft w w':=by
 have:=full27_bad ⟨14,pairS 7,[]⟩ A none c 0 [] none 0 w ⟨h,by simp,.inl rfl⟩ (ints_none _) (by rw [pairs_full];decide);refine this.mono ?_;rintro e w' ⟨h1,h2⟩;rw [pairs_full] at h1;exact ⟨h1,h2⟩
theorem always_pairs {w:World} {A:Option Addr} {c:Nat} (h:Strs w A (pairS 7)):Calls Tryz.prog 30 #[.agg #[.int .i64 14,.slice A 14 c,.slice none 0 0],.slice none 0 0] w fun e w'=>(∃ A c,e = .returned (.tuple #[.slice A 0 c,.int .i64 0])) /\ Aft w w':=by
 have:=always_good ⟨14,pairS 7,[]⟩ A none c 0 [] none 0 w ⟨h,by simp,.inl rfl⟩ (ints_none _) pairs_alwaysE;refine this.mono ?_;rintro e w' ⟨A,c,h1,-,h2⟩;rw [pairs_always] at h1;exact ⟨⟨A,c,h1⟩,h2⟩
theorem full_five {w:World} {A:Option Addr} {c:Nat} (h:Strs w A (pairS 7)):Calls Tryz.prog 27 #[.agg #[.int .i64 10,.slice A 10 c,.slice none 0 0],.slice none 0 0] w fun e w'=>(∃ A c,e = .returned (.tuple #[.slice A 32 c,.int .i64 0])) /\ Aft w w':=by
 have:=full27_good ⟨10,(pairS 7).take 10,[]⟩ A none c 0 [] none 0 w ⟨strs_take h 10,by simp,.inl rfl⟩ (ints_none _) pairs_fullE;refine this.mono ?_;rintro e w' ⟨A,c,L,h1,-,hp,-,h2⟩;rw [hp.length_eq,pairs_fulls] at h1;exact ⟨⟨A,c,h1⟩,h2⟩
def zerosL (n:Nat):List Int:=foundL (fun _=>0) n
theorem zerosL_eq (n:Nat):zerosL n = List.replicate n 0:=by
 unfold zerosL foundL
 induction n with
 | zero=>rfl
 | succ n ih=>rw [List.range_succ,List.map_append,ih,List.replicate_succ'];rfl
theorem zeros_len (n:Nat):(zerosL n).length = n:=foundL_len _ _
theorem heard_n {w:World} {a1 a2:Option Addr} {c1 c2:Nat} (hC:CRep w fiveC a1 a2) {n:Nat} {A:Option Addr} {c:Nat} (hO:Ints w A (zerosL n)) (E:Int) (hE:heardE fiveC [] (List.replicate n 0) = E) :
  Calls Tryz.prog 35 #[.agg #[.int .i64 5,.slice a1 5 c1,.slice a2 2 c2],.slice none 0 0,.slice A n c] w fun e w'=>(∃ v,e = .returned (.tuple #[v,.int .i64 E])) /\ Aft w w':=by
 subst hE;rw [<- zerosL_eq];by_cases he:heardE fiveC [] (zerosL n) = 0
 ·have:=heard_good fiveC a1 a2 c1 c2 [] (zerosL n) none A 0 c w hC (ints_none _) hO he 5 rfl;rw [zeros_len] at this;refine this.mono ?_;rintro e w' ⟨v,h1,-,h2⟩;rw [he];exact ⟨⟨v,h1⟩,h2⟩
 ·have:=heard_bad fiveC a1 a2 c1 c2 [] (zerosL n) none A 0 c w hC (ints_none _) hO he;rw [zeros_len] at this;refine this.mono ?_;rintro e w' ⟨h1,h2⟩;exact ⟨⟨_,h1⟩,h2⟩
theorem zeros_make (w:World) (N:Nat) (hN:N <= 1000):∃ W,(Instr.makeSlice 33 (.int .i64 N) (.int .i64 N)).run Tryz.prog w = .ok (.slice (some ⟨w.heap.size,0,none⟩) N N) W /\ Ints W (some ⟨w.heap.size,0,none⟩) (zerosL N) /\ Aft w W :=
 ⟨_,ivs_make w N hN,ivs_ints (Blk.new _ _ _) (by rw [zeros_len];omega),Aft.alloc _ _⟩
structure Hd (t0 t1 t2 t3:Nat) (E:Int) (W0:World) (n:Nat) (done:Nat -> Bool) (a:Act) (W:World):Prop where
 aft:Aft W0 W
 o0:done 0 = true -> ∃ X b1 c1 g,a.eval (.tmp t0) = .agg #[.int .i64 5,.slice (some ⟨b1,0,none⟩) 5 c1,.slice (some ⟨g + 1 + 1,0,none⟩) 2 2] /\ FiveAt X W b1 c1 g
 o1:done 1 = true -> ∃ g,a.eval (.tmp t1) = .slice (some ⟨g,0,none⟩) n n /\ Ints W (some ⟨g,0,none⟩) (zerosL n)
 o2:done 2 = true -> ∃ v,a.eval (.tmp t2) = .tuple #[v,.int .i64 E]
 o3:done 3 = true -> ∃ v,a.eval (.tmp t3) = .tuple #[v,.int .i64 E]
section
variable {t0 t1 t2 t3 n:Nat} {E:Int} {W0 W W':World} {done:Nat -> Bool} {a:Act}
theorem Hd.start:Hd t0 t1 t2 t3 E W0 n (fun _=>false) a W0.drew:=⟨Aft.drew _,(fun h=>by cases h),(fun h=>by cases h),(fun h=>by cases h),(fun h=>by cases h)⟩
theorem Hd.later (h:Hd t0 t1 t2 t3 E W0 n done a W) (ha:Aft W W'):Hd t0 t1 t2 t3 E W0 n done a W' :=
 ⟨h.aft.trans ha,fun p=>let ⟨X,b1,c1,g,e,hf⟩:=h.o0 p;⟨X,b1,c1,g,e,hf.on ha⟩,fun p=>let ⟨g,e,hs⟩:=h.o1 p;⟨g,e,hs.aft ha⟩,h.o2,h.o3⟩
theorem Hd.keep (h:Hd t0 t1 t2 t3 E W0 n done a W) {i:Nat} {dst:Option Tmp} {v:Value} (hi:i ≠ 0 /\ i ≠ 1 /\ i ≠ 2 /\ i ≠ 3) (hd:dst ≠ some t0 /\ dst ≠ some t1 /\ dst ≠ some t2 /\ dst ≠ some t3):Hd t0 t1 t2 t3 E W0 n (Go.upd done i) (a.put dst v) W:=by
 refine ⟨h.aft,fun p=>?_,fun p=>?_,fun p=>?_,fun p=>?_⟩
 ·rw [upd_ne' (Ne.symm hi.1)] at p;rw [evne hd.1];exact h.o0 p
 ·rw [upd_ne' (Ne.symm hi.2.1)] at p;rw [evne hd.2.1];exact h.o1 p
 ·rw [upd_ne' (Ne.symm hi.2.2.1)] at p;rw [evne hd.2.2.1];exact h.o2 p
 ·rw [upd_ne' (Ne.symm hi.2.2.2)] at p;rw [evne hd.2.2.2];exact h.o3 p
theorem Hd.step0 (h:Hd t0 t1 t2 t3 E W0 n done a W) (hne:t0 ≠ t1 /\ t0 ≠ t2 /\ t0 ≠ t3) (ha:Aft W W') {X:World} {b1 c1 g:Nat} (hf:FiveAt X W' b1 c1 g) (hz:t0 < a.tmps.size) :
  Hd t0 t1 t2 t3 E W0 n (Go.upd done 0) (a.put (some t0) (.agg #[.int .i64 5,.slice (some ⟨b1,0,none⟩) 5 c1,.slice (some ⟨g + 1 + 1,0,none⟩) 2 2])) W':=by
 refine ⟨h.aft.trans ha,fun _=>⟨X,b1,c1,g,Act.eval_put_same _ _ _ hz,hf⟩,fun p=>?_,fun p=>?_,fun p=>?_⟩
 ·rw [upd_ne' (by decide)] at p;rw [evne (by simpa using hne.1)];exact (h.later ha).o1 p
 ·rw [upd_ne' (by decide)] at p;rw [evne (by simpa using hne.2.1)];exact h.o2 p
 ·rw [upd_ne' (by decide)] at p;rw [evne (by simpa using hne.2.2)];exact h.o3 p
theorem Hd.step1 (h:Hd t0 t1 t2 t3 E W0 n done a W) (hne:t1 ≠ t0 /\ t1 ≠ t2 /\ t1 ≠ t3) (ha:Aft W W') {g:Nat} (hf:Ints W' (some ⟨g,0,none⟩) (zerosL n)) (hz:t1 < a.tmps.size) :
  Hd t0 t1 t2 t3 E W0 n (Go.upd done 1) (a.put (some t1) (.slice (some ⟨g,0,none⟩) n n)) W':=by
 refine ⟨h.aft.trans ha,fun p=>?_,fun _=>⟨g,Act.eval_put_same _ _ _ hz,hf⟩,fun p=>?_,fun p=>?_⟩
 ·rw [upd_ne' (by decide)] at p;rw [evne (by simpa using hne.1)];exact (h.later ha).o0 p
 ·rw [upd_ne' (by decide)] at p;rw [evne (by simpa using hne.2.1)];exact h.o2 p
 ·rw [upd_ne' (by decide)] at p;rw [evne (by simpa using hne.2.2)];exact h.o3 p
theorem Hd.step2 (h:Hd t0 t1 t2 t3 E W0 n done a W) (hne:t2 ≠ t0 /\ t2 ≠ t1 /\ t2 ≠ t3) (ha:Aft W W') {v:Value} (hz:t2 < a.tmps.size) :
  Hd t0 t1 t2 t3 E W0 n (Go.upd done 2) (a.put (some t2) (.tuple #[v,.int .i64 E])) W':=by
 refine ⟨h.aft.trans ha,fun p=>?_,fun p=>?_,fun _=>⟨v,Act.eval_put_same _ _ _ hz⟩,fun p=>?_⟩
 ·rw [upd_ne' (by decide)] at p;rw [evne (by simpa using hne.1)];exact (h.later ha).o0 p
 ·rw [upd_ne' (by decide)] at p;rw [evne (by simpa using hne.2.1)];exact (h.later ha).o1 p
 ·rw [upd_ne' (by decide)] at p;rw [evne (by simpa using hne.2.2)];exact h.o3 p
theorem Hd.step3 (h:Hd t0 t1 t2 t3 E W0 n done a W) (hne:t3 ≠ t0 /\ t3 ≠ t1 /\ t3 ≠ t2) {v:Value} (hz:t3 < a.tmps.size) :
  Hd t0 t1 t2 t3 E W0 n (Go.upd done 3) (a.put (some t3) (.tuple #[v,.int .i64 E])) W:=by
 refine ⟨h.aft,fun p=>?_,fun p=>?_,fun p=>?_,fun _=>⟨v,Act.eval_put_same _ _ _ hz⟩⟩
 ·rw [upd_ne' (by decide)] at p;rw [evne (by simpa using hne.1)];exact h.o0 p
 ·rw [upd_ne' (by decide)] at p;rw [evne (by simpa using hne.2.1)];exact h.o1 p
 ·rw [upd_ne' (by decide)] at p;rw [evne (by simpa using hne.2.2)];exact h.o2 p
end
theorem lp_made {W0 W5:World} {b1 c1 g:Nat} (h:FiveAt W0 W5 b1 c1 g) (u:Int):Lp W0 W5 ((W5.alloc (.cells #[.int .i64 u,.slice none 0 0,.slice none 0 0] 25)).alloc (.cells #[.int .i64 5,.slice (some ⟨b1,0,none⟩) 5 c1,.slice (some ⟨g + 1 + 1,0,none⟩) 2 2] 25)) W5.heap.size b1 c1 u (.slice none 0 0) (.slice (some ⟨g + 1 + 1,0,none⟩) 2 2) 0 (toldT 0):=by
 have ha:=(Aft.alloc W5 (.cells #[.int .i64 u,.slice none 0 0,.slice none 0 0] 25)).then_alloc (.cells #[.int .i64 5,.slice (some ⟨b1,0,none⟩) 5 c1,.slice (some ⟨g + 1 + 1,0,none⟩) 2 2] 25);have ht:=Blk.new (W5.alloc (.cells #[.int .i64 u,.slice none 0 0,.slice none 0 0] 25)) 25 #[.int .i64 5,.slice (some ⟨b1,0,none⟩) 5 c1,.slice (some ⟨g + 1 + 1,0,none⟩) 2 2];rw [World.size_alloc] at ht;obtain ⟨_,cs,hb⟩:=own_block_t h.st (g:=b1) rfl;exact ⟨(Blk.new W5 _ _).alloc _,World.ownsRow_nil _ _ 57 2,ht,own_aft h.st ha,(told_five h).aft ha,hb.lt,Nat.le_refl _,h.aft.trans ha,h.aft.size⟩
structure On1 (W0:World) (i:Nat) (t:Tmp) (n:Nat) (l:List Int) (done:Nat -> Bool) (a:Act) (W:World):Prop where
 aft:Aft W0 W
 o:done i = true -> ∃ g,a.eval (.tmp t) = .slice (some ⟨g,0,none⟩) n n /\ Ints W (some ⟨g,0,none⟩) l
section
variable {W0 W W':World} {i n:Nat} {t:Tmp} {l:List Int} {done:Nat -> Bool} {a:Act}
theorem On1.start:On1 W0 i t n l (fun _=>false) a W0.drew:=⟨Aft.drew _,(fun h=>by cases h)⟩
theorem On1.later (h:On1 W0 i t n l done a W) (ha:Aft W W'):On1 W0 i t n l done a W':=⟨h.aft.trans ha,fun p=>let ⟨g,e,hs⟩:=h.o p;⟨g,e,hs.aft ha⟩⟩
theorem On1.keep (h:On1 W0 i t n l done a W) {j:Nat} {dst:Option Tmp} {v:Value} (hi:j ≠ i) (hd:dst ≠ some t):On1 W0 i t n l (Go.upd done j) (a.put dst v) W:=by
 refine ⟨h.aft,fun p=>?_⟩;rw [upd_ne' (Ne.symm hi)] at p;rw [evne hd];exact h.o p
theorem On1.step (h:On1 W0 i t n l done a W) (ha:Aft W W') {g:Nat} (hf:Ints W' (some ⟨g,0,none⟩) l) (hz:t < a.tmps.size):On1 W0 i t n l (Go.upd done i) (a.put (some t) (.slice (some ⟨g,0,none⟩) n n)) W' :=
 ⟨h.aft.trans ha,fun _=>⟨g,Act.eval_put_same _ _ _ hz,hf⟩⟩
end
theorem check_n {w:World} {C:CaseL} {a1 a2:Option Addr} {c1 c2:Nat} (hC:CRep w C a1 a2) {N:Int} {n1 n2:Nat} (eN:C.claims = N) (e1:C.strikes.length = n1) (e2:C.surveys.length = n2) {E:Int} (hE:caseE C = E) :
  Calls Tryz.prog 34 #[.agg #[.int .i64 N,.slice a1 n1 c1,.slice a2 n2 c2]] w fun e w'=>e = .returned (.int .i64 E) /\ Aft w w':=by
 subst eN e1 e2 hE;exact check_any C a1 a2 c1 c2 w hC
theorem min_ex (n k:Nat):∃ v:Nat,min (n:Int) (k:Int) = (v:Int) /\ v <= k /\ v = min n k:=⟨min n k,by omega,by omega,rfl⟩
theorem lists_cut (W:World) (l:List Int) (k:Nat) (hk:k <= l.length) (hl:l.length <= 1000):Lists ((W.alloc (.cells (l.map (Value.int .i64)).toArray 3)).alloc (.cells #[.slice (some ⟨W.heap.size,0,none⟩) k l.length] 33)) (some ⟨W.heap.size + 1,0,none⟩) [l.take k]:=by
 have b0:=(Blk.new W 3 (l.map (Value.int .i64)).toArray).alloc (.cells #[.slice (some ⟨W.heap.size,0,none⟩) k l.length] 33);have b2:=Blk.new (W.alloc (.cells (l.map (Value.int .i64)).toArray 3)) 33 #[.slice (some ⟨W.heap.size,0,none⟩) k l.length];simp only [World.size_alloc] at b0 b2;refine ⟨by show 1 * 1 <= 17592186043904;decide,.inr ⟨_,0,rfl,b2.lt,fun i hi=>?_⟩⟩;have hlen:(l.take k).length = k:=by rw [List.length_take];omega
 match i,hi with
 | 0,_=>exact ⟨[.slice (some ⟨W.heap.size,0,none⟩) k l.length],rfl,⟨_,l.length,by show _ = [Value.slice _ (l.take k).length _];rw [hlen],Nums.ints b0 (nums_take l k) (by show (l.take k).length <= _;omega)⟩,fun j hj=>by
   have:j = 0:=by simpa using hj
   subst this;exact b2.cell 0⟩
theorem list6s {α:Type} {us:List α} (h:us.length = 6):∃ a b c d e f,us = [a,b,c,d,e,f]:=by
 match us,h with
 | [a,b,c,d,e,f],_=>exact ⟨a,b,c,d,e,f,rfl⟩
theorem crep0 (w:World):CRep w ⟨0,[],[]⟩ none none:=⟨⟨by simp,.inl rfl⟩,⟨by simp,.inl rfl⟩⟩
theorem CsAt.seven {Ws W:World} {gP:Nat} {N:Int} {vS:Value} (h:CsAt Ws W gP N vS (pairS 7) (.slice none 0 0)):∃ g c,vS = .slice (some ⟨g,0,none⟩) 14 c /\ 14 <= c /\ Strs W (some ⟨g,0,none⟩) (pairS 7) /\ Blk W gP 25 #[.int .i64 N,.slice (some ⟨g,0,none⟩) 14 c,.slice none 0 0] /\
  g ≠ gP /\ g < W.heap.size /\ ∀ W2,W2.heap[g]? = W.heap[g]? -> Strs W2 (some ⟨g,0,none⟩) (pairS 7):=by
 have hl:=pairS_len 7;have hst:=h.st;have hb:=h.box;have hap:=h.apart;rcases hst.2 with ⟨_,h0⟩ | ⟨g,cap,cur,rfl,hg,hh,hc,hm,hs,ht⟩
 ·rw [hl] at h0;cases h0
 ·have hall:∀ X,X.ownsRow Ws.heap.size 57 2 (.slice (some ⟨g,0,none⟩) (pairS 7).length cap) (pairS 7).length (strC (pairS 7)) -> Strs X (some ⟨g,0,none⟩) (pairS 7):=fun X hX=>by
   obtain ⟨A',c',e,h2,-⟩:=own_strs hX (by rw [hl];decide);injection e with e1 _ _
   rw [e1];exact h2
  refine ⟨g,cap,by rw [hl],by rw [hl] at hc;exact hc,hall _ hst,by rw [hl] at hb;exact hb,fun e=>hap (by rw [e];rfl),(Array.getElem?_eq_some_iff.1 hh).1,fun W2 h2=>hall _ ⟨hst.1,.inr ⟨g,cap,cur,rfl,hg,by rw [h2];exact hh,hc,hm,hs,ht⟩⟩⟩
theorem dbl_ex (m:Nat) (h:m <= 1000):∃ d e:Nat,wrap64 (2 * (m:Int)) = (d:Int) /\ IntKind.i64.wrap (2 * (m:Int)) = (d:Int) /\ wrap64 ((d:Int) + 1) = (e:Int) /\ IntKind.i64.wrap ((d:Int) + 1) = (e:Int) /\ d = 2 * m /\ e = 2 * m + 1:=by
 refine ⟨2 * m,2 * m + 1,?_,?_,?_,?_,rfl,rfl⟩
 ·unfold wrap64;omega
 ·rw [IntKind.wrap_i64];omega
 ·unfold wrap64;omega
 ·rw [IntKind.wrap_i64];omega
end Go.Proofs
end
section
/- Where a loop stands in the closed law;small numbers. -/
namespace Go.Proofs
open Go.RowKit
def seqAt:Nat -> Code -> Code
 | 0,.seq a _=>a
 | 0,c=>c
 | n + 1,.seq _ b=>seqAt n b
 | _ + 1,c=>c
def sndOf:Code -> Code
 | .seq _ b=>b
 | c=>c
def valsL:List Int:=[-2,-1,0,1,2,3,4,5,13,14,15,9223372036854775807,-9223372036854775808]
set_option maxRecDepth 100000 in
theorem wrap_small (v:Nat) (h:v <= 1000000):wrap64 (v:Int) = (v:Int) /\ IntKind.i64.wrap (v:Int) = (v:Int):=by
 exact ⟨by unfold wrap64;omega,by rw [IntKind.wrap_i64];omega⟩
theorem sum_ex (a b:Nat) (h:a + b <= 1000000):∃ s:Nat,wrap64 ((a:Int) + (b:Int)) = (s:Int) /\ IntKind.i64.wrap ((a:Int) + (b:Int)) = (s:Int) /\ s = a + b:=by
 obtain ⟨h1,h2⟩:=wrap_small (a + b) h;rw [Int.natCast_add] at h1 h2;exact ⟨a + b,by rw [Int.natCast_add];exact h1,by rw [Int.natCast_add];exact h2,rfl⟩
end Go.Proofs
end
