/- Own texts, merged: Rm Rr. -/
import Derived.Test.YthegmhnaiabcpaaGreatF27
import Derived.ProofKit
import Derived.Deep.Slices
import Derived.Deep.Strs
import Derived.ChangeArms
import Derived.OpenShut
set_option linter.unusedSimpArgs false
set_option linter.unusedVariables false
set_option linter.unnecessarySimpa false
section
/- What comes in as data for SheetRounds: a set,a round,a play. -/
namespace Go.Proofs
open Go.RowKit Go.WideShapes Go.ChangeShapes
theorem listTwo {α:Type} {l:List α} (h:l.length = 2):∃ a b,l = [a,b]:=by
 match l,h with
 | [a,b],_=>exact ⟨a,b,rfl⟩
theorem listFour {α:Type} {l:List α} (h:l.length = 4):∃ a b c d,l = [a,b,c,d]:=by
 match l,h with
 | [a,b,c,d],_=>exact ⟨a,b,c,d,rfl⟩
theorem array2 {α:Type} {cs:Array α} (h:cs.size = 2):∃ c0 c1,cs = #[c0,c1]:=by
 obtain ⟨l⟩:=cs
 match l,h with
 | [c0,c1],_=>exact ⟨c0,c1,rfl⟩
instance:Inhabited Q4:=⟨⟨0,0,0,0⟩⟩
section
variable {H:Type} {enc:TypeId × Value -> H} {W:World} {base:Nat} {spare:Nat -> Bool} {held:Bool}
theorem rowsQ_of {α:Type} [Inhabited α] {t e:TypeId} {sz fuel:Nat} {R:World -> α -> List Value -> Prop} {v:Value} {y:DataW H × List MemPlace} (ht:Tryz.prog.underlying t = some (.slice e)) (hsz:Tryz.prog.cellsOf e = sz) (hp:0 < sz)
  (hR:∀ n cs y,cs.length = sz -> DataW.trod enc Tryz.prog W base spare held n e cs = some y -> ∃ x:α,R W x cs) (h:DataW.trod enc Tryz.prog W base spare held fuel t [v] = some y) :
  ∃ A c,∃ l:List α,v = .slice A l.length c /\ RowsQ W A sz R l:=by
 rcases Go.Deep.open_slice ht h with ⟨hcs,_⟩ | ⟨a,len,cap,m,n,D,Pl,hcs,_,hl,hcm,hm,_,hx⟩
 ·cases hcs;exact ⟨none,0,[],rfl,by simp,.inl rfl⟩
 ·cases hcs;have hlm:len <= m:=by rw [hm];split <;> omega
  obtain ⟨f,hf⟩:=Go.Deep.choose_lt (n:=len) (p:=fun i x=>∃ cs',W.cells? base (a.add (i * sz)) sz = some cs' /\ R W x cs') (fun i hi=>by
   obtain ⟨cs',h1,h2⟩:=hx i (by omega);rw [hsz] at h1;obtain ⟨_,hlen,_⟩:=World.cells?_some h1;obtain ⟨x,hx⟩:=hR _ _ _ hlen h2;exact ⟨x,cs',h1,hx⟩)
  refine ⟨some a,cap,(List.range len).map f,by simp,?_,?_⟩
  ·have:maxLen = 9223372036854775807:=rfl;rw [List.length_map,List.length_range];omega
  by_cases h0:len = 0
  ·exact .inl (by rw [h0];rfl)
  obtain ⟨b,off,spot⟩:=a;obtain ⟨cs0,h1,-⟩:=hf 0 (by omega);obtain ⟨_,hlen,hcell⟩:=World.cells?_some h1;have h00:=hcell 0 hp;rw [List.getElem?_eq_getElem (by omega)] at h00;have hspot:spot = none:=by simpa [Addr.add] using World.cell?_spot h00
  subst hspot
  have hb:b < W.heap.size:=by
   have:=World.block_lt_of_cell? _ _ h00;simpa [add_plain] using this
  refine .inr ⟨b,off,rfl,hb,fun i hi=>?_⟩;have hi':i < len:=by simpa using hi
  obtain ⟨cs',h1,h2⟩:=hf i hi';obtain ⟨_,hlen,hcell⟩:=World.cells?_some h1;refine ⟨cs',hlen,by simpa using h2,fun j hj=>?_⟩;have:=hcell j (by omega);rw [add_plain,add_plain,List.getElem?_eq_getElem hj] at this;exact this
theorem cellsOf3:Tryz.prog.cellsOf 3 = 1:=by kernel_rfl
theorem cellsOf4:Tryz.prog.cellsOf 4 = 1:=by kernel_rfl
theorem cellsOf22:Tryz.prog.cellsOf 22 = 1:=by kernel_rfl
theorem cellsOf25:Tryz.prog.cellsOf 25 = 1:=by kernel_rfl
theorem cellsOf24:Tryz.prog.cellsOf 24 = 2:=by kernel_rfl
theorem cellsOf27:Tryz.prog.cellsOf 27 = 2:=by kernel_rfl
theorem cellsOf29:Tryz.prog.cellsOf 29 = 2:=by kernel_rfl
theorem jointsQ_of {fuel:Nat} {v:Value} {y:DataW H × List MemPlace} (h:DataW.trod enc Tryz.prog W base spare held fuel 22 [v] = some y):∃ A c,∃ l:List Q4,v = .slice A l.length c /\ QuadsQ W A l :=
 rowsQ_of Tryz.underlying22 (by kernel_rfl) (by decide) (fun _ cs _ hl h=>by
  obtain ⟨xs,n,_,_,_,hxl,hf⟩:=DataW.trod_struct Tryz.underlying72 h;obtain ⟨y0,y1,y2,y3,rfl⟩:=listFour hxl;obtain ⟨v0,v1,v2,v3,rfl⟩:=listFour hl;have g0:DataW.trod enc Tryz.prog W base spare held n 3 [v0] = some y0:=by simpa [Value.cells,cellsOf3] using hf 0 _ rfl
  have g1:DataW.trod enc Tryz.prog W base spare held n 3 [v1] = some y1:=by simpa [Value.cells,cellsOf3] using hf 1 _ rfl
  have g2:DataW.trod enc Tryz.prog W base spare held n 3 [v2] = some y2:=by simpa [Value.cells,cellsOf3] using hf 2 _ rfl
  have g3:DataW.trod enc Tryz.prog W base spare held n 3 [v3] = some y3:=by simpa [Value.cells,cellsOf3] using hf 3 _ rfl
  obtain ⟨x0,e0,_,_⟩:=DataW.trod_int Tryz.underlying3 g0;obtain ⟨x1,e1,_,_⟩:=DataW.trod_int Tryz.underlying3 g1;obtain ⟨x2,e2,_,_⟩:=DataW.trod_int Tryz.underlying3 g2;obtain ⟨x3,e3,_,_⟩:=DataW.trod_int Tryz.underlying3 g3;cases e0;cases e1;cases e2;cases e3;exact ⟨⟨x0,x1,x2,x3⟩,rfl⟩) h
theorem legsQ_of {fuel:Nat} {v:Value} {y:DataW H × List MemPlace} (h:DataW.trod enc Tryz.prog W base spare held fuel 25 [v] = some y):∃ A c,∃ l:List (Int × Bool),v = .slice A l.length c /\ GsQ W A l :=
 rowsQ_of Tryz.underlying25 (by kernel_rfl) (by decide) (fun _ cs _ hl h=>by
  obtain ⟨xs,n,_,_,_,hxl,hf⟩:=DataW.trod_struct Tryz.underlying34 h;obtain ⟨y0,y1,rfl⟩:=listTwo hxl;obtain ⟨v0,v1,rfl⟩:=listTwo hl;have g0:DataW.trod enc Tryz.prog W base spare held n 3 [v0] = some y0:=by simpa [Value.cells,cellsOf3,cellsOf4] using hf 0 _ rfl
  have g1:DataW.trod enc Tryz.prog W base spare held n 4 [v1] = some y1:=by simpa [Value.cells,cellsOf3,cellsOf4] using hf 1 _ rfl
  obtain ⟨x0,e0,_,_⟩:=DataW.trod_int Tryz.underlying3 g0;obtain ⟨x1,e1,_⟩:=DataW.trod_bool Tryz.underlying4 g1;cases e0;cases e1;exact ⟨(x0,x1),rfl⟩) h
set_option maxRecDepth 100000 in
theorem setQ_of {r:Reach} {b0:Nat} {v:Value} {d:DataW H} {p:List MemPlace} (hv:Value.okWide Tryz.prog W r b0 24 v) (h:DataW.Trod enc Tryz.prog W base spare held 24 v d p) :
  ∃ (n:Int) (J:List Q4) (A:Option Addr) (c:Nat),v = .agg #[.int .i64 n,.slice A J.length c] /\ QuadsQ W A J:=by
 obtain ⟨cs,rfl,hsz⟩:=okWide_struct Tryz.underlying24 hv;obtain ⟨v0,v1,rfl⟩:=array2 (hsz.trans cellsOf24);obtain ⟨fuel,hf⟩:=h;obtain ⟨xs,n,_,_,_,hxl,hf⟩:=DataW.trod_struct Tryz.underlying24 hf;obtain ⟨y0,y1,rfl⟩:=listTwo hxl;have g0:DataW.trod enc Tryz.prog W base spare held n 3 [v0] = some y0:=by simpa [Value.cells,cellsOf3,cellsOf22] using hf 0 _ rfl
 have g1:DataW.trod enc Tryz.prog W base spare held n 22 [v1] = some y1:=by simpa [Value.cells,cellsOf3,cellsOf22] using hf 1 _ rfl
 obtain ⟨x0,e0,_,_⟩:=DataW.trod_int Tryz.underlying3 g0;obtain ⟨A1,d1,l1,rfl,i1⟩:=jointsQ_of g1;cases e0;exact ⟨x0,l1,A1,d1,rfl,i1⟩
set_option maxRecDepth 100000 in
theorem roundQ_of {r:Reach} {b0:Nat} {v:Value} {d:DataW H} {p:List MemPlace} (hv:Value.okWide Tryz.prog W r b0 27 v) (h:DataW.Trod enc Tryz.prog W base spare held 27 v d p) :
  ∃ (north:Bool) (L:List (Int × Bool)) (A:Option Addr) (c:Nat),v = .agg #[.bool north,.slice A L.length c] /\ GsQ W A L:=by
 obtain ⟨cs,rfl,hsz⟩:=okWide_struct Tryz.underlying27 hv;obtain ⟨v0,v1,rfl⟩:=array2 (hsz.trans cellsOf27);obtain ⟨fuel,hf⟩:=h;obtain ⟨xs,n,_,_,_,hxl,hf⟩:=DataW.trod_struct Tryz.underlying27 hf;obtain ⟨y0,y1,rfl⟩:=listTwo hxl;have g0:DataW.trod enc Tryz.prog W base spare held n 4 [v0] = some y0:=by simpa [Value.cells,cellsOf4,cellsOf25] using hf 0 _ rfl
 have g1:DataW.trod enc Tryz.prog W base spare held n 25 [v1] = some y1:=by simpa [Value.cells,cellsOf4,cellsOf25] using hf 1 _ rfl
 obtain ⟨x0,e0,_⟩:=DataW.trod_bool Tryz.underlying4 g0;obtain ⟨A1,d1,l1,rfl,i1⟩:=legsQ_of g1;cases e0;exact ⟨x0,l1,A1,d1,rfl,i1⟩
set_option maxRecDepth 100000 in
theorem ratio_of {r:Reach} {b0:Nat} {v:Value} {d:DataW H} {p:List MemPlace} (hv:Value.okWide Tryz.prog W r b0 29 v) (h:DataW.Trod enc Tryz.prog W base spare held 29 v d p) :
  ∃ (n m:Int),v = .agg #[.int .i64 n,.int .i64 m]:=by
 obtain ⟨cs,rfl,hsz⟩:=okWide_struct Tryz.underlying29 hv;obtain ⟨v0,v1,rfl⟩:=array2 (hsz.trans cellsOf29);obtain ⟨fuel,hf⟩:=h;obtain ⟨xs,n,_,_,_,hxl,hf⟩:=DataW.trod_struct Tryz.underlying29 hf;obtain ⟨y0,y1,rfl⟩:=listTwo hxl;have g0:DataW.trod enc Tryz.prog W base spare held n 3 [v0] = some y0:=by simpa [Value.cells,cellsOf3] using hf 0 _ rfl
 have g1:DataW.trod enc Tryz.prog W base spare held n 3 [v1] = some y1:=by simpa [Value.cells,cellsOf3] using hf 1 _ rfl
 obtain ⟨x0,e0,_,_⟩:=DataW.trod_int Tryz.underlying3 g0;obtain ⟨x1,e1,_,_⟩:=DataW.trod_int Tryz.underlying3 g1;cases e0;cases e1;exact ⟨x0,x1,rfl⟩
end
end Go.Proofs
end
section
/- SheetRounds: the walk,as the row asks it. -/
namespace Go.Proofs
open Go.RowKit
theorem roundsLaw_below (n a b N D:Int) (J:List Q4) (A:Option Addr) (c:Nat) (north:Bool) (L:List (Int × Bool)) (Al:Option Addr) (cl:Nat) (w:World) (hA:QuadsQ w A J) (hL:GsQ w Al L) :
  Calls Tryz.prog 3 #[.agg #[.int .i64 n,.slice A J.length c],.agg #[.bool north,.slice Al L.length cl],.int .i64 a,.int .i64 b,.agg #[.int .i64 N,.int .i64 D]] w fun e w'=>e = .returned (.bool true) /\ Aft w w':=roundsLaw_any n a b N D J A c north L Al cl w hA hL
end Go.Proofs
end
