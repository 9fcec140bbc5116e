/- Own texts, merged: CtU CtW CtX CtZ0 CtZ CtY CtSu CtRd PFe. -/
import Derived.Test.YtbchfakfdikkjaaGreatS10
import Derived.Shelf.SlSortCmp.Whole1
import Derived.Laws.CopyOwn
set_option linter.unusedSimpArgs false
set_option linter.unusedVariables false
set_option linter.unnecessarySimpa false
section
/- Walks: full. -/
namespace Go.Proofs
open Go.RowKit
open Court (refL begF noS struckB nextR strikeL canB coverB grow)
attribute [local go_sem] Oper.semAt_some
set_option maxRecDepth 100000 in
set_option maxHeartbeats 2000000 in
theorem full_any (w0 w:World) (d M N:Nat) (C:CaseL) (a1 a2:Option Addr) (c1 c2:Nat) (ref:Int -> Bool) (f r:Int -> Nat) (hD:DeskAt w0 w d C a1 a2 c1 c2 ref noS f r) (hN:C.claims = N) (hN14:N <= 14) (hS:∀ s ∈ C.strikes,0 <= s.1 /\ s.1 < 14) (hM:M <= 1000000) :
  Calls Tryz.prog 74 #[.pointer (some ⟨d,0,none⟩),.int .i64 M] w fun e w'=>∃ v,e = .returned v /\ Outs w' w.heap.size v ((grow C.strikes ref N N 0 []).take M) /\ Aft w w':=by
 have H1:Hid (∀ W,GI w w.heap.size d M [] W -> Calls Tryz.prog 105 #[.int .i64 0,.slice none 0 0,.pointer (some ⟨w.heap.size + 1 + 1,0,none⟩),.pointer (some ⟨w.heap.size + 1,0,none⟩),.pointer (some ⟨w.heap.size,0,none⟩),.pointer (some ⟨w.heap.size + 1 + 1 + 1,0,none⟩)] W (GrowR w w.heap.size d M ((grow C.strikes ref N N 0 []).take M) W)):=Lib.hid fun W h =>
  grow_any w0 w w.heap.size d M N C a1 a2 c1 c2 ref f r (fun W h=>hD.later h) hN hN14 hS hM N 0 [] (.slice none 0 0) [] W (by omega) (fun x hx=>by cases hx) (by simp) (World.ownsRow_nil _ _ 3 1) h (by simp)
 clear hD hN hS;generalize ((grow C.strikes ref N N 0 []).take M) = T at *;go_enter Tryz.func74,Tryz.ntmps74;go_upto_region 4 with (fail)
 have HG:Hid (GI w w.heap.size d M [] ((((w.alloc (.cells #[.pointer (some ⟨d,0,none⟩)] 95)).alloc (.cells #[.int .i64 M] 3)).alloc (.cells #[.slice none 0 0] 23)).alloc (.cells #[.func (.func 105) #[] #[.pointer (some ⟨w.heap.size + 1 + 1,0,none⟩),.pointer (some ⟨w.heap.size + 1,0,none⟩),.pointer (some ⟨w.heap.size,0,none⟩),.pointer (some ⟨w.heap.size + 1 + 1 + 1,0,none⟩)]] 132))):=Lib.hid (by
  have q1:(w.alloc (.cells #[.pointer (some ⟨d,0,none⟩)] 95)).heap.size = w.heap.size + 1:=by simp
  have q2:((w.alloc (.cells #[.pointer (some ⟨d,0,none⟩)] 95)).alloc (.cells #[.int .i64 M] 3)).heap.size = w.heap.size + 1 + 1:=by simp
  have q3:(((w.alloc (.cells #[.pointer (some ⟨d,0,none⟩)] 95)).alloc (.cells #[.int .i64 M] 3)).alloc (.cells #[.slice none 0 0] 23)).heap.size = w.heap.size + 1 + 1 + 1:=by simp
  refine ⟨(((Aft.alloc w _).then_alloc _).then_alloc _).then_alloc _,rfl,(((Blk.new w 95 _).alloc _).alloc _).alloc _,?_,⟨_,?_,Outs.nil _ _⟩,?_⟩
  ·have:=((Blk.new (w.alloc (.cells #[.pointer (some ⟨d,0,none⟩)] 95)) 3 #[.int .i64 M]).alloc (.cells #[.slice none 0 0] 23)).alloc (.cells #[.func (.func 105) #[] #[.pointer (some ⟨w.heap.size + 1 + 1,0,none⟩),.pointer (some ⟨w.heap.size + 1,0,none⟩),.pointer (some ⟨w.heap.size,0,none⟩),.pointer (some ⟨w.heap.size + 1 + 1 + 1,0,none⟩)]] 132)
   rwa [q1] at this
  ·have:=(Blk.new ((w.alloc (.cells #[.pointer (some ⟨d,0,none⟩)] 95)).alloc (.cells #[.int .i64 M] 3)) 23 #[.slice none 0 0]).alloc (.cells #[.func (.func 105) #[] #[.pointer (some ⟨w.heap.size + 1 + 1,0,none⟩),.pointer (some ⟨w.heap.size + 1,0,none⟩),.pointer (some ⟨w.heap.size,0,none⟩),.pointer (some ⟨w.heap.size + 1 + 1 + 1,0,none⟩)]] 132)
   rwa [q2] at this
  ·have:=Blk.new (((w.alloc (.cells #[.pointer (some ⟨d,0,none⟩)] 95)).alloc (.cells #[.int .i64 M] 3)).alloc (.cells #[.slice none 0 0] 23)) 132 #[.func (.func 105) #[] #[.pointer (some ⟨w.heap.size + 1 + 1,0,none⟩),.pointer (some ⟨w.heap.size + 1,0,none⟩),.pointer (some ⟨w.heap.size,0,none⟩),.pointer (some ⟨w.heap.size + 1 + 1 + 1,0,none⟩)]]
   rwa [q3] at this)
 generalize ((((w.alloc (.cells #[.pointer (some ⟨d,0,none⟩)] 95)).alloc (.cells #[.int .i64 M] 3)).alloc (.cells #[.slice none 0 0] 23)).alloc (.cells #[.func (.func 105) #[] #[.pointer (some ⟨w.heap.size + 1 + 1,0,none⟩),.pointer (some ⟨w.heap.size + 1,0,none⟩),.pointer (some ⟨w.heap.size,0,none⟩),.pointer (some ⟨w.heap.size + 1 + 1 + 1,0,none⟩)]] 132)) = W0 at *;have z1:W0.cell? ⟨w.heap.size + 1 + 1 + 1,0,none⟩ = some (.func (.func 105) #[] #[.pointer (some ⟨w.heap.size + 1 + 1,0,none⟩),.pointer (some ⟨w.heap.size + 1,0,none⟩),.pointer (some ⟨w.heap.size,0,none⟩),.pointer (some ⟨w.heap.size + 1 + 1 + 1,0,none⟩)]):=HG.out.b3.cell 0;have z2:=HG.out.b3.lt;have HI:=Lib.hid (H1.out W0 HG.out);clear H1;go_wp2_with (go_at_call 105;refine HI.out.mono ?_;rintro e w9 ⟨⟨v9,rfl⟩,hg9,-⟩;obtain ⟨v,hbv,hov⟩:=hg9.b2;have y1:w9.cell? ⟨w.heap.size + 1 + 1,0,none⟩ = some v:=hbv.cell 0;have y2:=hbv.lt;obtain ⟨A9,c9,rfl⟩:=hov.form;have HOV:=Lib.hid hov;have HA9:=Lib.hid hg9.aft;clear hbv hov hg9)
 go_ret;exact ⟨_,rfl,HOV.out,HA9.out⟩
end Go.Proofs
end
section
/- Walks: the list of full stands,sorted. -/
namespace Go.Proofs
open Go.RowKit Go.Sort Go.Shelf
theorem grownBy_sortedV {α:Type} [Inhabited α] {enc:α -> Value} {w:World} {g n:Nat} {os:Array Obj} (d:Array α):w.grownBy (sortWorld enc w g 0 n d os) (some g):=by
 unfold sortWorld;refine ⟨rfl,rfl,rfl,by simp,fun k hk hne=>?_⟩;rw [heap_grow_old _ _ (by simpa using hk)];have:g ≠ k:=fun e=>hne (by rw [e])
 simp [putRow,mapBlock,Sort.ahead,Array.getElem?_modify,this]
theorem ints_grown {w w':World} {A:Option Addr} {l:List Int} {row:Option Nat} (h:Ints w A l) (hg:w.grownBy w' row) (hr:∀ b o,A = some ⟨b,o,none⟩ -> some b ≠ row):Ints w' A l:=by
 refine ⟨h.1,?_⟩;rcases h.2 with h | ⟨b,o,rfl,hb,hc⟩
 ·exact .inl h
 ·refine .inr ⟨b,o,rfl,Nat.lt_of_lt_of_le hb hg.size,fun i hi=>?_⟩;obtain ⟨vs,h1,h2,h3⟩:=hc i hi;exact ⟨vs,h1,h2,fun j hj=>(World.cell?_of_block (hg.block b hb (hr b o rfl))).trans (h3 j hj)⟩
theorem swo_cmpZ (row:Nat -> List Int):SWO (ltOf fun i j=>cmpZ (row i) (row j)):=by
 have e:∀ x y,ltOf (fun i j=>cmpZ (row i) (row j)) x y = decide (cmpZ (row x) (row y) < 0):=fun x y=>rfl
 refine ⟨fun x=>by rw [e,cmpZ_same];rfl,fun x y z h1 h2=>?_,fun x y z h1 h2=>?_⟩
 ·rw [e] at *;exact decide_eq_true (cmpZ_trans (of_decide_eq_true h1) (of_decide_eq_true h2))
 ·rw [e] at *;exact decide_eq_false (cmpZ_ge (of_decide_eq_false h1) (of_decide_eq_false h2))
def SortedZ (L:List (List Int)):Prop:=L.Pairwise fun x y=>¬ cmpZ y x < 0
theorem sortedZ_eq:∀ {L L':List (List Int)},L.Perm L' -> SortedZ L -> SortedZ L' -> L = L'
 | L,L',hp,h1,h2=>hp.eq_of_pairwise (fun a b _ _ h h'=>cmpZ_eq h' h) h1 h2
set_option maxHeartbeats 1000000 in
theorem sort_lists (W:World) (b:Nat) {g cap:Nat} {vs:List Value} {L:List (List Int)} (hO:OutsV W b (.slice (some ⟨g,0,none⟩) L.length cap) vs L) (h0:0 < L.length) (hl:L.length <= 1000) (hlen:∀ x ∈ L,x.length <= 1000) :
  Calls Tryz.prog 75 #[.slice (some ⟨g,0,none⟩) L.length cap,.func (.func 49) #[] #[]] W fun e w'=>e = .returned (.tuple #[]) /\ W.grownBy w' (some g) /\ ∃ L',L'.Perm L /\ SortedZ L' /\ Lists w' (some ⟨g,0,none⟩) L':=by
 obtain ⟨hown,hrows⟩:=hO;have hvl:vs.length = L.length:=by simpa using hown.1
 obtain ⟨cs33,hg33⟩:=own33_block hown (g:=g) rfl
 let cl:Nat -> Nat:=fun i=>if i < L.length then i else 0
 have hcl:∀ i,cl i < L.length:=fun i=>by simp only [cl];split <;> omega
 let enc:Nat -> Value:=fun i=>vs.getD (cl i) (.slice none 0 0)
 let row:Nat -> List Int:=fun i=>L.getD (cl i) []
 have hrow:∀ i,row i = L[cl i]'(hcl i):=fun i=>by simp only [row];rw [List.getD_eq_getElem?_getD,List.getElem?_eq_getElem (hcl i)];rfl
 have henc:∀ i,∃ A c,enc i = .slice A (row i).length c /\ Ints W A (row i) /\ ∀ b o,A = some ⟨b,o,none⟩ -> g ≠ b:=fun i=>by
  have hi:=hcl i;have hiv:cl i < vs.length:=by omega
  have hr:=hrows (cl i) hi hiv;obtain ⟨A,c,e1,_,h2⟩:=own_ints hr (by have:=hlen _ (List.getElem_mem hi);omega);refine ⟨A,c,?_,by rw [hrow];exact h2,fun b' o e=>?_⟩
  ·simp only [enc];rw [List.getD_eq_getElem?_getD,List.getElem?_eq_getElem hiv,hrow];exact e1
  ·subst e;rintro rfl;rw [e1] at hr;rcases hr.2 with ⟨h,_⟩ | ⟨g',cap',cur,h,_,hh,_⟩
   ·cases h
   ·cases h;rw [hg33] at hh;cases hh
 have h1:OneCell enc:=fun i=>by obtain ⟨A,c,e,_⟩:=henc i;rw [e];rfl
 have hgb:g < W.heap.size:=(hown.lt g rfl).2
 have hH:Holds enc W g 0 (Array.range L.length):=fun j hj=>by
  have hj':j < L.length:=by simpa using hj
  have e1:(Array.range L.length)[j]! = j:=by rw [getElem!_pos _ j hj];simp
  refine ⟨?_,hown.frozenAt _⟩;rw [e1];have:=hown.cells (g:=g) rfl j (enc j) (by simp only [enc,cl,if_pos hj'];rw [List.getD_eq_getElem?_getD,List.getElem?_eq_getElem (by omega)];rfl);rw [Addr.add_lit] at this;exact this
 have hcmp:CmpReads Tryz.prog 49 #[] enc (fun i j=>cmpZ (row i) (row j)) g 0 (Array.range L.length).size W:=fun k os dk _ x y=>by
  obtain ⟨A,c,e1,i1,n1⟩:=henc x;obtain ⟨B,d,e2,i2,n2⟩:=henc y;have hg:=grownBy_sortedV (enc:=enc) (w:=W) (g:=g) (n:=k) (os:=os) dk;have:=compare_any (sortWorld enc W g 0 k dk os) (row x) (row y) A B c d (ints_grown i1 hg fun b o e h=>(n1 b o e) (by injection h with h;exact h.symm)) (ints_grown i2 hg fun b o e h=>(n2 b o e) (by injection h with h;exact h.symm));rw [<- e1,<- e2] at this;exact this.mono fun e w' ⟨h,h'⟩=>⟨h,0,h'⟩
 have hs:=Any.slices_SortFunc laySort enc h1 (fun i j=>cmpZ (row i) (row j)) (swo_cmpZ row) 49 #[] g 0 cap (Array.range L.length) W (fun args w=>by simp [go_sem]) hcmp.lays hH hgb (by simp;omega);rw [Array.size_range] at hs;refine hs.mono ?_;rintro e w' ⟨he,d',k,os,⟨hsz,-,hperm⟩,hsrt,rfl⟩;rw [Array.size_range] at hsz;have hg:=grownBy_sortedV (enc:=enc) (w:=W) (g:=g) (n:=k) (os:=os) d'
 have hp:d'.toList.Perm (List.range L.length):=by
  have e1:(d'.extract 0 L.length).toList = d'.toList:=by rw [<- hsz];simp
  have e2:((Array.range L.length).extract 0 L.length).toList = List.range L.length:=by
   have:(Array.range L.length).extract 0 L.length = Array.range L.length:=by
    have h:=Array.extract_size (xs:=Array.range L.length)
    rwa [Array.size_range] at h
   rw [this];simp
  rw [e1,e2] at hperm;exact hperm
 have hmap:(List.range L.length).map row = L:=by
  apply List.ext_getElem (by simp);intro i h1 h2;simp only [List.getElem_map,List.getElem_range];rw [hrow];simp only [cl,if_pos h2]
 have hL':(d'.toList.map row).Perm L:=by have:=hp.map row;rwa [hmap] at this
 have hget:∀ j,(hj:j < L.length) -> d'[j]! = d'.toList[j]'(by simpa [hsz] using hj):=fun j hj=>by rw [getElem!_pos _ j (by omega)];simp
 refine ⟨he,hg,d'.toList.map row,hL',?_,?_⟩
 ·unfold SortedZ;rw [List.pairwise_iff_getElem];intro i j hi hj hij;simp only [List.length_map,Array.length_toList,hsz] at hi hj;simp only [List.getElem_map];have h:=hsrt i j (Nat.zero_le _) hij hj;rw [hget i hi,hget j hj] at h;exact of_decide_eq_false h
 ·refine ⟨by simp [hsz];omega,.inr ⟨g,0,rfl,Nat.lt_of_lt_of_le hgb hg.size,fun i hi=>?_⟩⟩;have hi':i < L.length:=by simpa [hsz] using hi
  have hil:i < d'.toList.length:=by simpa [hsz] using hi'
  obtain ⟨A,c,e1,i1,n1⟩:=henc (d'.toList[i]'(by simpa [hsz] using hi'));have hc:=cell?_putRow enc (Sort.ahead W k) g 0 (Array.range L.length) d' hH (by simp [hsz]) i (by omega);refine ⟨[enc d'.toList[i]],rfl,⟨A,c,?_,?_⟩,fun j hj=>?_⟩
  ·rw [e1];simp
  ·simp only [List.getElem_map];exact ints_grown i1 hg fun b o e h=>(n1 b o e) (by injection h with h;exact h.symm)
  ·have:j = 0:=by simpa using hj
   subst this;rw [hget i hi'] at hc;show (sortWorld enc W g 0 k d' os).cell? ⟨g,0 + i * 1 + 0,none⟩ = some (enc _);unfold sortWorld;rw [cell?_grow _ _ _ (by simpa [putRow,mapBlock,Sort.ahead] using hgb)];simpa using hc
theorem insertion_none (p:Option Addr) (cap:Nat) (fv:Value) (w:World) :
  Calls Tryz.prog 119 #[.slice p 0 cap,.int .i64 0,.int .i64 0,fv] w fun e w'=>e = .returned (.tuple #[]) /\ w' = w:=by
 go_enter Tryz.func119,Tryz.ntmps119;go_wp2;refine wp_loop_rounds 1 ?_;rw [rounds_succ];go_wp2;go_end0;exact ⟨rfl,rfl⟩
theorem pdq_none (p:Option Addr) (cap:Nat) (lim:Int) (fv:Value) (w:World) :
  Calls Tryz.prog 107 #[.slice p 0 cap,.int .i64 0,.int .i64 0,.int .i64 lim,fv] w fun e w'=>e = .returned (.tuple #[]) /\ w' = w:=by
 have hi:=fun W=>insertion_none p cap fv W
 go_enter Tryz.func107,Tryz.ntmps107;go_wp2;refine wp_loop_rounds 1 ?_;rw [rounds_succ];go_wp2_with (go_at_call 119;refine (hi _).mono ?_;rintro e w' ⟨rfl,rfl⟩)
 (try simp only [Exit.inBlock,Exit.then]);refine bodyPost_ret (results_none rfl _ _ _) rfl ?_;exact ⟨rfl,rfl⟩
theorem sort_none (p:Option Addr) (cap:Nat) (fv:Value) (w:World) :
  Calls Tryz.prog 75 #[.slice p 0 cap,fv] w fun e w'=>e = .returned (.tuple #[]) /\ w' = w:=by
 have hp:=fun lim W=>pdq_none p cap lim fv W
 have hl:∀ W,Calls Tryz.prog 108 #[.int .u64 0] W fun e w'=>e = .returned (.int .i64 (Lib.bitLen 0:Nat)) /\ w' = W:=fun W=>by
  have h:=Any.bits_Len (SlLaysF0.n15.bits (P:=Tryz.prog) (ρ:=renSort) { laySort with }) 0 W (by omega) (by omega);exact h
 go_enter Tryz.func75,Tryz.ntmps75;go_wp2_with (first | (go_at_call 108;refine (hl _).mono ?_;rintro e w' ⟨rfl,rfl⟩) | (go_at_call 107;refine (hp _ _).mono ?_;rintro e w' ⟨rfl,rfl⟩))
 go_end0;exact ⟨rfl,rfl⟩
end Go.Proofs
end
section
/- Walks: Full. -/
namespace Go.Proofs
open Go.RowKit
open Court (refL begF noS struckB nextR strikeL canB coverB grow)
theorem grow_len {S:List (Int × Int)} {ref:Int -> Bool} {N:Nat}:∀ (k n:Nat) (l:List Int),∀ x ∈ grow S ref N k n l,x.length <= l.length + k
 | 0,n,l,x,h=>by
  unfold grow at h;split at h
  ·rw [List.mem_singleton] at h;subst h;omega
  ·cases h
 | k + 1,n,l,x,h=>by
  have h':x ∈ (if canB S ref l n then grow S ref N k (n + 1) (l ++ [(n:Int)]) else []) ++ grow S ref N k (n + 1) l:=h;rcases List.mem_append.1 h' with h | h
  ·split at h
   ·have:=grow_len k (n + 1) _ x h;rw [List.length_append,List.length_singleton] at this;omega
   ·cases h
  ·have:=grow_len k (n + 1) _ x h;omega
def fullsL (C:CaseL) (R:List Int):List (List Int):=grow C.strikes (refL R) C.claims.toNat C.claims.toNat 0 []
def fullE (C:CaseL) (R:List Int):Int:=if openE C R = 0 then (if 50 < (fullsL C R).length then 11 else 0) else openE C R
def BadF (C:CaseL) (R:List Int) (w:World) (e:Ending) (w':World):Prop:=e = .returned (.tuple #[.slice none 0 0,.int .i64 (fullE C R)]) /\ Aft w w'
def GoodF (C:CaseL) (R:List Int) (w:World) (e:Ending) (w':World):Prop:=∃ A c L,e = .returned (.tuple #[.slice A L.length c,.int .i64 0]) /\ Lists w' A L /\ L.Perm (fullsL C R) /\ SortedZ L /\ Aft w w'
theorem take51 {α:Type} (l:List α):(50 < (l.take 51).length) ↔ 50 < l.length:=by rw [List.length_take];omega
theorem take51_eq {α:Type} {l:List α} (h:¬ 50 < l.length):l.take 51 = l:=List.take_of_length_le (by omega)
set_option maxRecDepth 100000 in
set_option maxHeartbeats 2000000 in
theorem full27_bad (C:CaseL) (a1 a2:Option Addr) (c1 c2:Nat) (R:List Int) (A:Option Addr) (c:Nat) (w:World) (hC:CRep w C a1 a2) (hA:Ints w A R) (he:fullE C R ≠ 0) :
  Calls Tryz.prog 27 #[(.agg #[.int .i64 C.claims,.slice a1 C.strikes.length c1,.slice a2 C.surveys.length c2]),.slice A R.length c] w (BadF C R w):=by
 have H0:=Lib.hid (Aft.alloc w (.cells #[.int .i64 C.claims,.slice a1 C.strikes.length c1,.slice a2 C.surveys.length c2] 25));have HB:=Lib.hid (Blk.new w 25 #[.int .i64 C.claims,.slice a1 C.strikes.length c1,.slice a2 C.surveys.length c2]);unfold BadF;unfold fullE at he ⊢;by_cases h1:openE C R = 0
 ·rw [if_pos h1] at he ⊢
  have h2:50 < (fullsL C R).length:=by
   by_cases h:50 < (fullsL C R).length
   ·exact h
   ·rw [if_neg h] at he;exact absurd rfl he
  rw [if_pos h2];have hok:=(openE_facts h1).1;have H1:Hid (∀ W,Aft w W -> Calls Tryz.prog 68 #[(.agg #[.int .i64 C.claims,.slice a1 C.strikes.length c1,.slice a2 C.surveys.length c2]),.slice A R.length c] W (Opened C a1 a2 c1 c2 R W)):=Lib.hid fun W h=>opened_good C a1 a2 c1 c2 R A c W (hC.aft h) (hA.aft h) h1
  have H2:Hid (∀ W0 W d,DeskAt W0 W d C a1 a2 c1 c2 (refL R) noS (begF (refL R)) (fun _=>0) -> Calls Tryz.prog 74 #[.pointer (some ⟨d,0,none⟩),.int .i64 51] W fun e w'=>∃ v,e = .returned v /\ Outs w' W.heap.size v ((fullsL C R).take 51) /\ Aft W w'):=Lib.hid fun W0 W d hD=>full_any W0 W d 51 C.claims.toNat C a1 a2 c1 c2 (refL R) (begF (refL R)) (fun _=>0) hD (by have:=hok.n1;omega) (by have:=hok.n2;omega) (fun s hs=>by have:=(hok.ins s hs).1;have:=hok.n2;omega) (by omega)
  have h3:=(take51 (fullsL C R)).2 h2;clear hC hA hok h1 h2 he;generalize (fullsL C R).take 51 = T at *;have t1:decide ((50:Int) < T.length) = true:=by simp;omega
  clear h3;go_enter Tryz.func27,Tryz.ntmps27;go_wp2_with (first | (go_at_call 68;refine (H1.out _ H0.out).mono ?_;rintro e w1 ⟨d,rfl,hd⟩;have HD:=Lib.hid hd;clear hd) | (go_at_call 74;refine (H2.out _ _ _ HD.out).mono ?_;rintro e w2 ⟨v,rfl,hov,ha2⟩;obtain ⟨A9,c9,rfl⟩:=hov.form;have HA2:=Lib.hid ha2;clear ha2 hov))
  go_ret2;exact ⟨rfl,(H0.out.trans HD.out.aft).trans HA2.out⟩
 ·rw [if_neg h1] at he ⊢;have H1:Hid (∀ W,Aft w W -> Calls Tryz.prog 68 #[(.agg #[.int .i64 C.claims,.slice a1 C.strikes.length c1,.slice a2 C.surveys.length c2]),.slice A R.length c] W fun e w'=>e = .returned (.tuple #[.pointer none,.int .i64 (openE C R)]) /\ Aft W w'):=Lib.hid fun W h=>opened_bad C a1 a2 c1 c2 R A c W (hC.aft h) (hA.aft h) he
  have t1:(openE C R != 0) = true:=by simpa using he
  clear hC hA he h1;generalize openE C R = E at *;go_enter Tryz.func27,Tryz.ntmps27;go_wp2_with (go_at_call 68;refine (H1.out _ H0.out).mono ?_;rintro e w' ⟨rfl,u,rfl⟩)
  go_ret2;exact ⟨rfl,H0.out.then_lat _⟩
set_option maxRecDepth 100000 in
set_option maxHeartbeats 2000000 in
theorem full27_good (C:CaseL) (a1 a2:Option Addr) (c1 c2:Nat) (R:List Int) (A:Option Addr) (c:Nat) (w:World) (hC:CRep w C a1 a2) (hA:Ints w A R) (he:fullE C R = 0) :
  Calls Tryz.prog 27 #[(.agg #[.int .i64 C.claims,.slice a1 C.strikes.length c1,.slice a2 C.surveys.length c2]),.slice A R.length c] w (GoodF C R w):=by
 have H0:=Lib.hid (Aft.alloc w (.cells #[.int .i64 C.claims,.slice a1 C.strikes.length c1,.slice a2 C.surveys.length c2] 25));unfold fullE at he
 have h1:openE C R = 0:=by
  by_cases h1:openE C R = 0
  ·exact h1
  ·rw [if_neg h1] at he;exact he
 rw [if_pos h1] at he;have h2:¬ 50 < (fullsL C R).length:=fun h=>by rw [if_pos h] at he;cases he
 have hok:=(openE_facts h1).1;have H1:Hid (∀ W,Aft w W -> Calls Tryz.prog 68 #[(.agg #[.int .i64 C.claims,.slice a1 C.strikes.length c1,.slice a2 C.surveys.length c2]),.slice A R.length c] W (Opened C a1 a2 c1 c2 R W)):=Lib.hid fun W h=>opened_good C a1 a2 c1 c2 R A c W (hC.aft h) (hA.aft h) h1
 have H2:Hid (∀ W0 W d,DeskAt W0 W d C a1 a2 c1 c2 (refL R) noS (begF (refL R)) (fun _=>0) -> Calls Tryz.prog 74 #[.pointer (some ⟨d,0,none⟩),.int .i64 51] W fun e w'=>∃ v,e = .returned v /\ Outs w' W.heap.size v (fullsL C R) /\ Aft W w'):=Lib.hid fun W0 W d hD=>by
  have h:=full_any W0 W d 51 C.claims.toNat C a1 a2 c1 c2 (refL R) (begF (refL R)) (fun _=>0) hD (by have:=hok.n1;omega) (by have:=hok.n2;omega) (fun s hs=>by have:=(hok.ins s hs).1;have:=hok.n2;omega) (by omega);have e:(grow C.strikes (refL R) C.claims.toNat C.claims.toNat 0 []).take 51 = fullsL C R:=take51_eq h2;rw [e] at h;exact h
 have hlen:∀ x ∈ fullsL C R,x.length <= 1000:=fun x hx=>by
  have:=grow_len _ _ _ x hx;have:=hok.n2;simp at *;omega
 unfold GoodF;clear hC hA hok h1 he;generalize fullsL C R = T at *;have t1:decide ((50:Int) < T.length) = false:=by simp;omega
 have h3:T.length <= 1000:=by omega
 clear h2
 have HS:Hid (∀ W b v,Outs W b v T -> Calls Tryz.prog 75 #[v,.func (.func 49) #[] #[]] W fun e w'=>e = .returned (.tuple #[]) /\ W.grownBy w' v.ownBlock /\ (∀ g,v.ownBlock = some g -> b <= g) /\ ∃ A c L,v = .slice A L.length c /\ Lists w' A L /\ L.Perm T /\ SortedZ L):=Lib.hid fun W b v hO=>by
  obtain ⟨vs,hv⟩:=hO;have hge:=own_ge hv.1;rcases hv.1.2 with ⟨rfl,h0⟩ | ⟨g,cap,cur,rfl,_⟩
  ·have e0:T = []:=List.eq_nil_of_length_eq_zero h0;subst e0;exact (sort_none none 0 _ W).mono fun e w' ⟨h,h'⟩=>⟨h,by subst h';exact ⟨rfl,rfl,rfl,Nat.le_refl _,fun _ _ _=>rfl⟩,hge,none,0,[],rfl,⟨by simp,.inl rfl⟩,List.Perm.refl _,List.Pairwise.nil⟩
  ·by_cases h0:0 < T.length
   ·exact (sort_lists W b hv h0 h3 hlen).mono fun e w' ⟨h,hg,L,hp,hs,hl⟩=>⟨h,hg,hge,_,cap,L,by rw [hp.length_eq],hl,hp,hs⟩
   ·have e0:T = []:=List.eq_nil_of_length_eq_zero (by omega);subst e0;exact (sort_none _ cap _ W).mono fun e w' ⟨h,h'⟩=>⟨h,by subst h';exact ⟨rfl,rfl,rfl,Nat.le_refl _,fun _ _ _=>rfl⟩,hge,_,cap,[],rfl,by subst h';exact ⟨by simp,.inr ⟨g,0,rfl,(hv.1.lt g rfl).2,fun i hi=>by simp at hi⟩⟩,List.Perm.refl _,List.Pairwise.nil⟩
 clear hlen h3;go_enter Tryz.func27,Tryz.ntmps27;go_wp2_with (first | (go_at_call 68;refine (H1.out _ H0.out).mono ?_;rintro e w1 ⟨d,rfl,hd⟩;have HD:=Lib.hid hd;clear hd) | (go_at_call 74;refine (H2.out _ _ _ HD.out).mono ?_;rintro e w2 ⟨v,rfl,hov,ha2⟩;obtain ⟨A9,c9,rfl⟩:=hov.form;have HA2:=Lib.hid ((H0.out.trans HD.out.aft).trans ha2);have HSZ:=Lib.hid (H0.out.trans HD.out.aft).size;have HOV:=Lib.hid hov;clear ha2 hov) | (go_at_call 75;refine (HS.out _ _ _ HOV.out).mono ?_;rintro e w3 ⟨rfl,hg3,hge,A3,c3,L,hv,hL,hp,hs⟩;have HG3:=Lib.hid hg3;have HGE:=Lib.hid hge;have HL:=Lib.hid hL;have HP:=Lib.hid hp;have HSS:=Lib.hid hs;have HV:=Lib.hid hv;clear hg3 hge hL hp hs hv))
 go_ret2;refine ⟨A3,c3,L,by rw [<- HV.out];rfl,HL.out,HP.out,HSS.out,HA2.out.grown HG3.out (fun g hg=>?_)⟩;exact Nat.le_trans HSZ.out (HGE.out g hg)
end Go.Proofs
end
section
/- Words: the surveys that a set decides. -/
namespace Go.Proofs
open Go.RowKit
open Court (refL begF noS award)
structure Two (W:World) (base:Nat) (v v':Value) (l l':List Int):Prop where
 own:W.ownsRow base 3 1 v l.length (l.map (Value.int .i64))
 own':W.ownsRow base 3 1 v' l'.length (l'.map (Value.int .i64))
 apart:∀ g,v.ownBlock = some g -> v'.ownBlock ≠ some g
section
variable {W W':World} {base:Nat} {v v':Value} {l l':List Int}
theorem Two.nil (W:World) (base:Nat):Two W base (.slice none 0 0) (.slice none 0 0) [] []:=⟨World.ownsRow_nil _ _ 3 1,World.ownsRow_nil _ _ 3 1,fun g h=>by cases h⟩
theorem Two.symm (h:Two W base v v' l l'):Two W base v' v l' l:=⟨h.own',h.own,fun g h1 h2=>h.apart g h2 h1⟩
theorem Two.aft (h:Two W base v v' l l') (ha:Aft W W'):Two W' base v v' l l':=⟨own_aft h.own ha,own_aft h.own' ha,h.apart⟩
end
theorem wpList_two {w:World} {ops:Array Oper} {rest:List Oper} {o:Oper} {a:Act} {Q:Exit -> Act -> World -> Prop}
  (hgd:o.guard = none) (s x:Operand) (ho:o.op = .call { callee:=.builtin .append,args:=#[s,x],argTypes:=#[33,33] })
  {base:Nat} {v v':Value} {l l':List Int} (h:Two w base v v' l l') (hbase:base <= w.heap.size) (hs:a.eval s = v)
  {y:Int} {c:Nat} {b:Nat} (hx:a.eval x = .slice (some ⟨b,0,none⟩) 1 c) (hb:w.cell? ⟨b,0,none⟩ = some (.int .i64 y)) (hl:l.length <= 1000000)
  (hn:∀ v2 w2,Two w2 base v2 v' (l ++ [y]) l' -> w.grownBy w2 v.ownBlock -> wpList Tryz.prog ops Q rest (a.put o.dst v2) w2):wpList Tryz.prog ops Q (o :: rest) a w:=by
 obtain ⟨ht,⟨i,z,hi,hz,hsize,hby,hzs⟩,hsz⟩:=ty24;refine wpList_append_own_at (w:=w) hgd s x 33 ho base 3 i z 1 8 ht hi hz hsize hby hzs hsz v l.length _ hs h.own ⟨b,0,none⟩ 1 c [.int .i64 y] hx rfl (fun j u hj=>?_) (one_int y)
  (by unfold maxLen;omega) (by omega) hbase fun v2 w2 h2 h3 _ h5=>?_
 ·match j,hj with
  | 0,hj=>simp at hj;subst hj;rw [Addr.add_lit];simpa using hb
 ·refine hn v2 w2 ⟨by simpa using h2,h.own'.kept h3 ?_,fun g hg hg'=>?_⟩ h3
  ·cases e:v'.ownBlock with
   | none=>left;rfl
   | some g=>right;exact fun e2=>h.apart g e2.symm e
  ·rcases h5 with h5 | h5
   ·exact h.apart g (h5.symm.trans hg) hg'
   ·rw [h5] at hg;cases hg;have:=(h.own'.lt _ hg').2;omega
def onTo (m:Nat) (l:List Int) (k:Nat):List Int:=((List.range k).filter fun i=>m.testBit i).map fun i=>l.getD i 0
def offTo (m:Nat) (l:List Int) (k:Nat):List Int:=((List.range k).filter fun i=>!m.testBit i).map fun i=>l.getD i 0
theorem onTo_succ (m:Nat) (l:List Int) (k:Nat):onTo m l (k + 1) = onTo m l k ++ if m.testBit k then [l.getD k 0] else []:=by
 unfold onTo;rw [List.range_succ,List.filter_append,List.map_append]
 congr 1
 by_cases h:m.testBit k = true <;> simp [h]
theorem offTo_succ (m:Nat) (l:List Int) (k:Nat):offTo m l (k + 1) = offTo m l k ++ if m.testBit k then [] else [l.getD k 0]:=by
 unfold offTo;rw [List.range_succ,List.filter_append,List.map_append]
 congr 1
 by_cases h:m.testBit k = true <;> simp [h]
theorem onTo_len (m:Nat) (l:List Int) (k:Nat):(onTo m l k).length <= k:=by
 unfold onTo;rw [List.length_map];exact Nat.le_trans (List.length_filter_le _ _) (by simp)
theorem offTo_len (m:Nat) (l:List Int) (k:Nat):(offTo m l k).length <= k:=by
 unfold offTo;rw [List.length_map];exact Nat.le_trans (List.length_filter_le _ _) (by simp)
theorem getD_mem {l:List Int} {i:Nat} (h:i < l.length):l.getD i 0 ∈ l:=by
 rw [List.getD_eq_getElem?_getD,List.getElem?_eq_getElem h];exact List.getElem_mem h
theorem onTo_mem {m:Nat} {l:List Int} {x:Int} (h:x ∈ onTo m l l.length):x ∈ l:=by
 unfold onTo at h;obtain ⟨i,hi,rfl⟩:=List.mem_map.1 h;exact getD_mem (List.mem_range.1 (List.mem_filter.1 hi).1)
theorem offTo_mem {m:Nat} {l:List Int} {x:Int} (h:x ∈ offTo m l l.length):x ∈ l:=by
 unfold offTo at h;obtain ⟨i,hi,rfl⟩:=List.mem_map.1 h;exact getD_mem (List.mem_range.1 (List.mem_filter.1 hi).1)
def foundM (C:CaseL) (l:List Int) (N m:Nat):Int -> Nat:=award C.strikes (refL (onTo m l l.length)) N (begF (refL (offTo m l l.length)))
def decT (C:CaseL) (l:List Int) (N M:Nat) (n:Int):Bool:=decide (0 <= n /\ n < N) && (List.range M).all fun m=>decide (foundM C l N m n ≠ 0)
theorem decT_succ (C:CaseL) (l:List Int) (N M:Nat) (n:Int):decT C l N (M + 1) n = (decT C l N M n && decide (foundM C l N M n ≠ 0)):=by
 unfold decT;rw [List.range_succ,List.all_append,Bool.and_assoc]
 simp
def mixT (C:CaseL) (l:List Int) (N M k:Nat) (n:Int):Bool:=if n < k then decT C l N (M + 1) n else decT C l N M n
theorem mixT_zero (C:CaseL) (l:List Int) (N M:Nat):mixT C l N M 0 = decT C l N M:=by
 funext n
 unfold mixT;split
 ·rw [decT_succ]
  have:decT C l N M n = false:=by
   unfold decT;rw [decide_eq_false (by omega)];rfl
  rw [this];rfl
 ·rfl
theorem mixT_end (C:CaseL) (l:List Int) (N M:Nat):mixT C l N M N = decT C l N (M + 1):=by
 funext n
 unfold mixT;split
 ·rfl
 ·have:decT C l N M n = false:=by
   unfold decT;rw [decide_eq_false (by omega)];rfl
  rw [decT_succ,this];rfl
def setB (m:Int -> Bool) (n:Int) (v:Bool):Int -> Bool:=fun k=>if k = n then v else m k
theorem mkL_setB (m:Int -> Bool) {n:Nat} (h:n < 14) (v:Bool):(mkL m).set n (.bool v) = mkL (setB m n v):=by
 apply List.ext_getElem?;intro i;rw [List.getElem?_set];by_cases hi:i < 14
 ·rw [mkL_get _ hi,mkL_get _ hi,mkL_len];unfold setB;by_cases e:n = i
  ·subst e;simp [h]
  ·rw [if_neg e,if_neg (by omega)]
 ·rw [if_neg (by omega),List.getElem?_eq_none (by rw [mkL_len];omega),List.getElem?_eq_none (by rw [mkL_len];omega)]
theorem mk_setB (m:Int -> Bool) {n:Nat} (h:n < 14) (v:Bool):(mk m).setIfInBounds n (.bool v) = mk (setB m n v):=by
 unfold mk;rw [List.setIfInBounds_toArray,mkL_setB m h]
theorem mixT_set (C:CaseL) (l:List Int) (N M k:Nat):setB (mixT C l N M k) k (decT C l N M k && decide (foundM C l N M k ≠ 0)) = mixT C l N M (k + 1):=by
 funext n
 unfold setB mixT;by_cases e:n = k
 ·subst e;rw [if_pos rfl,if_pos (by omega),decT_succ]
 ·rw [if_neg e];by_cases h:n < k
  ·rw [if_pos h,if_pos (by omega)]
  ·rw [if_neg h,if_neg (by omega)]
theorem mixT_at (C:CaseL) (l:List Int) (N M k:Nat):mixT C l N M k k = decT C l N M k:=by unfold mixT;rw [if_neg (by omega)]
def firstB (k:Nat) (n:Int):Bool:=decide (0 <= n /\ n < k)
theorem firstB_zero:firstB 0 = refL []:=by
 funext n
 unfold firstB refL;rw [decide_eq_false (by omega)];rfl
theorem firstB_set (k:Nat):setB (firstB k) k true = firstB (k + 1):=by
 funext n
 unfold setB firstB;by_cases e:n = k
 ·subst e;rw [if_pos rfl,decide_eq_true (by omega)]
 ·rw [if_neg e]
  congr 1
  refine propext ⟨fun h=>by omega,fun h=>by omega⟩
theorem decT_zero (C:CaseL) (l:List Int) (N:Nat):decT C l N 0 = firstB N:=by
 funext n
 unfold decT firstB
 simp
end Go.Proofs
end
section
/- Walks: decides. -/
namespace Go.Proofs
open Go.RowKit
open Court (refL begF noS award)
attribute [local go_sem] Oper.semAt_some
structure DeI (w:World) (S B:Nat) (C:CaseL) (a1 a2:Option Addr) (c1 c2:Nat) (T:Int -> Bool) (W:World):Prop where
 aft:Aft w W
 ge:w.heap.size = S
 lt:S + 1 < B
 b0:Blk W S 25 #[.int .i64 C.claims,.slice a1 C.strikes.length c1,.slice a2 C.surveys.length c2]
 b1:Blk W (S + 1) 87 (List.replicate 14 (Value.bool false)).toArray
 b2:Blk W B 87 (mk T)
section
variable {w W W':World} {S B:Nat} {C:CaseL} {a1 a2:Option Addr} {c1 c2:Nat} {T T':Int -> Bool}
theorem DeI.later (h:DeI w S B C a1 a2 c1 c2 T W) (ha:Aft W W'):DeI w S B C a1 a2 c1 c2 T W':=⟨h.aft.trans ha,h.ge,h.lt,h.b0.aft ha,h.b1.aft ha,h.b2.aft ha⟩
theorem DeI.set (h:DeI w S B C a1 a2 c1 c2 T W) {n:Nat} (hn:n < 14) (v:Bool):DeI w S B C a1 a2 c1 c2 (setB T n v) (W.setCell ⟨B,n,none⟩ (.bool v)) :=
 ⟨h.aft.then_setCell (by have:=h.ge;have:=h.lt;show w.heap.size <= B;omega) _,h.ge,h.lt,h.b0.far (p:=⟨B,n,none⟩) (by have:=h.lt;show S ≠ B;omega) _,h.b1.far (p:=⟨B,n,none⟩) (by have:=h.lt;show S + 1 ≠ B;omega) _,by
  have:=h.b2.store n (.bool v)
  rwa [mk_setB T hn] at this⟩
end
theorem bits_one:∀ x:Fin 64,(bits .and .i64 ((x.val:Nat):Int) 1 == 1) = x.val.testBit 0:=by decide
theorem bits_at {m k:Nat} (hm:m < 64):(bits .and .i64 ((m:Int) / 2 ^ k) 1 == 1) = m.testBit k:=by
 have h:=bits_one ⟨m / 2 ^ k,Nat.lt_of_le_of_lt (Nat.div_le_self _ _) hm⟩;have e:((m:Int) / 2 ^ k) = ((m / 2 ^ k:Nat):Int):=by push_cast;rfl
 rw [e];rw [Nat.testBit_div_two_pow,Nat.zero_add] at h;exact h
set_option maxRecDepth 100000 in
set_option maxHeartbeats 4000000 in
theorem decides_any (C:CaseL) (a1 a2:Option Addr) (c1 c2:Nat) (l:List Int) (A:Option Addr) (c:Nat) (w:World) (hC:CRep w C a1 a2) (hA:Ints w A l) (N:Nat) (hN:C.claims = N) (hN1:1 <= N) (hN14:N <= 14) (hS:∀ s ∈ C.strikes,0 <= s.1 /\ s.1 < 14) (hl:∀ x ∈ l,0 <= x /\ x < N) (hll:l.length <= 6) :
  Calls Tryz.prog 55 #[(.agg #[.int .i64 C.claims,.slice a1 C.strikes.length c1,.slice a2 C.surveys.length c2]),.slice A l.length c] w fun e w'=>e = .returned (.agg (mk (decT C l N (2 ^ l.length)))) /\ Aft w w':=by
 have H71:Hid (∀ W,Aft w W -> Calls Tryz.prog 71 #[.slice none 0 0] W (Marked [] W)):=Lib.hid fun W h=>marked_any [] none 0 W RowsP.nil (by simp)
 have H61:Hid (∀ W A1 c1' L1 A2 c2' L2,Aft w W -> Ints W A1 L1 -> Ints W A2 L2 -> (∀ x ∈ L1,x ∈ l) -> (∀ x ∈ L2,x ∈ l) -> Calls Tryz.prog 61 #[(.agg #[.int .i64 C.claims,.slice a1 C.strikes.length c1,.slice a2 C.surveys.length c2]),.slice A1 L1.length c1',.slice A2 L2.length c2'] W fun e w'=>∃ d,e = .returned (.pointer (some ⟨d,0,none⟩)) /\ DeskAt W w' d C a1 a2 c1 c2 (refL L1) (refL L2) (begF (refL L1)) (fun _=>0)):=Lib.hid fun W A1 c1' L1 A2 c2' L2 h h1 h2 m1 m2 =>
  begun_any C a1 a2 c1 c2 L1 L2 A1 A2 c1' c2' W (by omega) (hC.aft h) h1 h2 (fun n hn=>by have:=hl n (m1 n hn);omega) (fun n hn=>by have:=hl n (m2 n hn);omega)
 have H62:Hid (∀ W0 W d ref sure,DeskAt W0 W d C a1 a2 c1 c2 ref sure (begF ref) (fun _=>0) -> Calls Tryz.prog 62 #[.pointer (some ⟨d,0,none⟩)] W fun e w'=>e = .returned (.pointer (some ⟨d,0,none⟩)) /\ W.grownBy w' (some d) /\ ∃ r,DeskAt W0 w' d C a1 a2 c1 c2 ref sure (award C.strikes sure N (begF ref)) r):=Lib.hid fun W0 W d ref sure hD =>
  (award_any W0 W d C a1 a2 c1 c2 ref sure (begF ref) (begF ref) (fun _=>0) hD N hN hN14 hS (Court.begF_three _) (HeardS.start _ _ _ _)).mono fun e w' ⟨h,hg,f,r,hd,hh,hdn⟩=>⟨h,hg,r,by
   have e:f = award C.strikes sure N (begF ref):=Court.award_eq (Court.begF_three _) hh.reach hdn;subst e;exact hd⟩
 have HA:=Lib.hid hA;have HN:=Lib.hid hN;have hlen:=hll;obtain ⟨q,hq⟩:∃ q,2 ^ l.length = q:=⟨_,rfl⟩;have hq64:q <= 64:=by rw [<- hq];exact Nat.le_trans (Nat.pow_le_pow_right (by omega) hlen) (by decide)
 have HQI:Hid ((2:Int) ^ l.length = (q:Int)):=Lib.hid (by rw [<- hq];push_cast;rfl);rw [hq];clear hq;clear hC hA hN hS hl;go_enter Tryz.func55,Tryz.ntmps55;go_upto_region 2 with (first | (go_at_call 71;refine (H71.out _ ((Aft.alloc _ _).then_alloc _)).mono ?_;rintro e w1 ⟨rfl,ha1⟩;have HA1:=Lib.hid ha1;clear ha1) | (refine wpList_store_new rfl 87 (.tmp 5) (.tmp 14) rfl rfl rfl (by rw [info87,mk_size]) (by rw [mk_size];rfl) (all_oneCell_toArray (mkL_one _)) ?_))
 have HI0:Hid (DeI w w.heap.size w1.heap.size C a1 a2 c1 c2 (firstB 0) (w1.alloc (.cells (mk (refL [])) 87))):=Lib.hid (by
  have hs:=HA1.out.size;have q1:(w.alloc (.cells #[.int .i64 C.claims,.slice a1 C.strikes.length c1,.slice a2 C.surveys.length c2] 25)).heap.size = w.heap.size + 1:=by simp
  refine ⟨(((Aft.alloc _ _).then_alloc _).trans HA1.out).then_alloc _,rfl,by simp at hs;omega,(((Blk.new w 25 #[.int .i64 C.claims,.slice a1 C.strikes.length c1,.slice a2 C.surveys.length c2]).alloc _).aft HA1.out).alloc _,?_,?_⟩
  ·have:=((Blk.new (w.alloc (.cells #[.int .i64 C.claims,.slice a1 C.strikes.length c1,.slice a2 C.surveys.length c2] 25)) 87 (List.replicate 14 (Value.bool false)).toArray).aft HA1.out).alloc (.cells (mk (refL [])) 87)
   rwa [q1] at this
  ·rw [firstB_zero];exact Blk.new w1 87 _)
 clear HA1 H71;simp only [Act.put];generalize w1.alloc (.cells (mk (refL [])) 87) = W1 at *;generalize w1.heap.size = B at *;obtain ⟨S,hSS⟩:∃ S,w.heap.size = S:=⟨_,rfl⟩;rw [hSS] at HI0 ⊢;have k0:W1.cell? ⟨S,0,none⟩ = some (.int .i64 N):=by rw [<- HN.out];exact HI0.out.b0.cell 0
 have k1:=HI0.out.b0.lt;go_upto_block 0 with (fail)
 clear k0 k1;refine wp_block ?_;go_loopw [17] (fun i wr=>∃ k:Nat,i = .int .i64 k /\ k <= N /\ DeI w S B C a1 a2 c1 c2 (firstB k) wr) (fun i _=>N - (intOf i).toNat)
 case atStart=>exact ⟨0,rfl,by omega,HI0.out⟩
 case round =>
  obtain ⟨k,rfl,hk,hi⟩:=hrel;have HI:=Lib.hid hi;clear hi;by_cases hkN:k < N
  ·have t1:decide (k < N) = true:=by simpa using hkN
   have hk14:k < 14:=by omega
   have k1:=(HI.out.b2.cell k).trans (mk_get _ hk14);have k2:=HI.out.b2.frozen k;have k3:=HI.out.b2.lt;have i1:(0:Int) <= (k:Int) /\ (k:Int) < 14:=by omega
   go_wp2_with fail
   exact ⟨⟨k + 1,by go_num,by omega,by rw [<- firstB_set];exact HI.out.set hk14 true⟩,by simp [intOf];omega⟩
  ·have t1:decide (k < N) = false:=by simpa using hkN
   obtain rfl:N = k:=by omega
   clear hkN;go_upto_block 2 with (fail)
   rw [HQI.out,show wrap64 (q:Int) = (q:Int) from by unfold wrap64;omega];have HI2:Hid (DeI w S B C a1 a2 c1 c2 (decT C l N 0) wr):=Lib.hid (by rw [decT_zero];exact HI.out);clear HI HI0;refine wp_block ?_;go_loopw [26] (fun i wr=>∃ m:Nat,i = .int .i64 m /\ m <= q /\ DeI w S B C a1 a2 c1 c2 (decT C l N m) wr) (fun i _=>q - (intOf i).toNat)
   case atStart=>exact ⟨0,rfl,by omega,HI2.out⟩
   case round =>
    obtain ⟨m,rfl,hm,hi⟩:=hrel;have HI:=Lib.hid hi;clear hi HI2;generalize wr = wm at *;by_cases hmq:m < q
    ·have t2:decide (m < q) = true:=by simpa using hmq
     go_upto_block 4 with (fail)
     have HT0:=Lib.hid (Two.nil wm wm.heap.size);refine wp_block ?_;go_loopw [8,9,31] (fun v8 v9 i wr=>∃ k:Nat,i = .int .i64 k /\ k <= l.length /\ Two wr wm.heap.size v8 v9 (offTo m l k) (onTo m l k) /\ Aft wm wr) (fun _ _ i _=>l.length - (intOf i).toNat)
     case atStart=>exact ⟨0,rfl,by omega,HT0.out,Aft.refl _⟩
     case round =>
      obtain ⟨k,rfl,hk,htw,haw⟩:=hrel;have HTW:=Lib.hid htw;have HAW:=Lib.hid haw;clear htw haw;by_cases hkl:k < l.length
      ·have t3:decide (k < l.length) = true:=by simpa using hkl
       obtain ⟨bx,ox,rfl,-,hx⟩:=(HA.out.aft (HI.out.aft.trans HAW.out)).at hkl;have x0:=hx k hkl;have hkx:(0:Int) <= (k:Int) /\ (k:Int) < (l.length:Int):=by omega
       clear hx;have hk64:(0:Int) <= (k:Int) /\ (k:Int) <= 64:=by omega
       have hbit:=bits_at (m:=m) (k:=k) (by omega);have hbase:wm.heap.size <= wr.heap.size:=HAW.out.size;have hxk:l.getD k 0 = l[k]:=by rw [List.getD_eq_getElem?_getD,List.getElem?_eq_getElem hkl];rfl
       have HON:=Lib.hid (onTo_succ m l k);have HOF:=Lib.hid (offTo_succ m l k);have hon:=onTo_len m l k;have hof:=offTo_len m l k;rw [hxk] at HON HOF;clear hxk;generalize l[k] = y at *;cases hb:m.testBit k
       ·rw [hb] at hbit HON HOF;clear hb;have HTA:=Lib.hid (HTW.out.aft (Aft.alloc wr (.cells #[.int .i64 y] 3)));have hbase2:wm.heap.size <= (wr.alloc (.cells #[.int .i64 y] 3)).heap.size:=by simp;omega
        go_wp2_with (at_builtin;refine wpList_two rfl _ _ rfl HTA.out hbase2 rfl rfl (cell_new1 _ _ _) (by omega) ?_;intro v2 w2 h2 hg2;have H2:=Lib.hid h2;have HG2:=Lib.hid hg2;clear h2 hg2)
        refine ⟨⟨k + 1,by go_num,by omega,by rw [HON.out,HOF.out];simpa using H2.out,(HAW.out.then_alloc _).grown HG2.out (fun g hg=>own_ge HTA.out.own g hg)⟩,by simp [intOf];omega⟩
       ·rw [hb] at hbit HON HOF;clear hb;have HTA:=Lib.hid (HTW.out.symm.aft (Aft.alloc wr (.cells #[.int .i64 y] 3)));have hbase2:wm.heap.size <= (wr.alloc (.cells #[.int .i64 y] 3)).heap.size:=by simp;omega
        go_wp2_with (at_builtin;refine wpList_two rfl _ _ rfl HTA.out hbase2 rfl rfl (cell_new1 _ _ _) (by omega) ?_;intro v2 w2 h2 hg2;have H2:=Lib.hid h2.symm;have HG2:=Lib.hid hg2;clear h2 hg2)
        refine ⟨⟨k + 1,by go_num,by omega,by rw [HON.out,HOF.out];simpa using H2.out,(HAW.out.then_alloc _).grown HG2.out (fun g hg=>own_ge HTA.out.own g hg)⟩,by simp [intOf];omega⟩
      ·have t3:decide (k < l.length) = false:=by simpa using hkl
       obtain rfl:k = l.length:=by omega
       clear hkl hk;have HF:Hid (foundM C l N m = award C.strikes (refL (onTo m l l.length)) N (begF (refL (offTo m l l.length)))):=Lib.hid rfl;have HM8:=Lib.hid (fun (x:Int) (h:x ∈ offTo m l l.length)=>offTo_mem h);have HM9:=Lib.hid (fun (x:Int) (h:x ∈ onTo m l l.length)=>onTo_mem h);have hl8:=offTo_len m l l.length;have hl9:=onTo_len m l l.length;generalize offTo m l l.length = L8 at *;generalize onTo m l l.length = L9 at *;obtain ⟨A8,c8,rfl,_,hi8⟩:=own_ints HTW.out.own (by omega);obtain ⟨A9,c9,rfl,_,hi9⟩:=own_ints HTW.out.own' (by omega);have HI8:=Lib.hid hi8;have HI9:=Lib.hid hi9;have HAWW:=Lib.hid (HI.out.aft.trans HAW.out);obtain ⟨k0,k1,k2⟩:=box25 (HI.out.b0.aft HAW.out);have k3:=(HI.out.b0.aft HAW.out).lt;clear hi8 hi9 hl8 hl9;go_upto_block 6 with (first | (go_at_call 61;refine (H61.out _ A8 c8 L8 A9 c9 L9 HAWW.out HI8.out HI9.out HM8.out HM9.out).mono ?_;rintro e w5 ⟨d,rfl,hd⟩;have HD5:=Lib.hid hd;clear hd;clear k0 k1 k2) | (go_at_call 62;refine (H62.out _ _ _ _ _ HD5.out).mono ?_;rintro e w6 ⟨rfl,hg6,r,hd6⟩;have HG6:=Lib.hid hg6;have HD6:=Lib.hid hd6;have HI6:=Lib.hid (HI.out.later (HAW.out.trans (HD5.out.aft.grown hg6 (fun g e=>by cases e;exact HD5.out.base))));have k0:w6.cell? ⟨S,0,none⟩ = some (.int .i64 N):=by { rw [<- HN.out];exact HI6.out.b0.cell 0 };clear hg6 hd6))
       clear k0
       have HFD:Hid (∀ W,Blk W d 94 (deskL C a1 a2 c1 c2 (refL L8) (refL L9) (award C.strikes (refL L9) N (begF (refL L8))) r).toArray -> ∀ n:Nat,n < 14 -> W.cell? ⟨d,31 + n,none⟩ = some (.int .i64 (foundM C l N m n:Nat))):=Lib.hid fun W hb n hn=>by
        rw [HF.out];exact (hb.cell _).trans (by rw [List.getElem?_toArray,deskL_found (h:=hn)])
       have HBD:=Lib.hid HD6.out.blk;have hdB:d ≠ B:=by have:=HD5.out.base;have:=(HI.out.b2.aft HAW.out).lt;omega
       generalize (deskL C a1 a2 c1 c2 (refL L8) (refL L9) (award C.strikes (refL L9) N (begF (refL L8))) r).toArray = DC at *;have HM0:Hid (DeI w S B C a1 a2 c1 c2 (mixT C l N m 0) w6):=Lib.hid (by rw [mixT_zero];exact HI6.out);clear HTW HAW HF HM8 HM9 HI8 HI9 HAWW HD5 HG6 HD6;refine wp_block ?_;go_loopw [57] (fun i wr=>∃ k:Nat,i = .int .i64 k /\ k <= N /\ DeI w S B C a1 a2 c1 c2 (mixT C l N m k) wr /\ Blk wr d 94 DC) (fun i _=>N - (intOf i).toNat)
       case atStart=>exact ⟨0,rfl,by omega,HM0.out,HBD.out⟩
       case round =>
        obtain ⟨k,rfl,hk,hik,hbk⟩:=hrel;have HIK:=Lib.hid hik;have HBK:=Lib.hid hbk;clear hik hbk;by_cases hkN:k < N
        ·have t4:decide (k < N) = true:=by simpa using hkN
         have hk14:k < 14:=by omega
         have k1:=(HIK.out.b2.cell k).trans (mk_get _ hk14);have k2:=HIK.out.b2.frozen k;have k3:=HIK.out.b2.lt;have k4:=HFD.out wr HBK.out k hk14;have k5:=HBK.out.lt;have i1:(0:Int) <= (k:Int) /\ (k:Int) < 14:=by omega
         have HMS:=Lib.hid (mixT_set C l N m k);rw [mixT_at] at k1;cases hq:decT C l N m k
         ·rw [hq] at k1 HMS;clear hq;go_wp2_with fail
          refine ⟨⟨k + 1,by go_num,by omega,by rw [<- HMS.out];exact HIK.out.set hk14 false,HBK.out.far (p:=⟨B,k,none⟩) hdB _⟩,by simp [intOf];omega⟩
         ·rw [hq] at k1 HMS;clear hq;by_cases hf:foundM C l N m k = 0
          ·rw [hf] at k4 HMS;clear hf;go_wp2_with fail
           refine ⟨⟨k + 1,by go_num,by omega,by rw [<- HMS.out];exact HIK.out.set hk14 false,HBK.out.far (p:=⟨B,k,none⟩) hdB _⟩,by simp [intOf];omega⟩
          ·have t5:(((foundM C l N m k:Nat):Int) != 0) = true:=by simpa using hf
           rw [decide_eq_true hf] at HMS;clear hf;generalize foundM C l N m k = fk at *;go_wp2_with fail
           refine ⟨⟨k + 1,by go_num,by omega,by rw [<- HMS.out];exact HIK.out.set hk14 true,HBK.out.far (p:=⟨B,k,none⟩) hdB _⟩,by simp [intOf];omega⟩
        ·have t4:decide (k < N) = false:=by simpa using hkN
         obtain rfl:N = k:=by omega
         clear hkN;have HIE:Hid (DeI w S B C a1 a2 c1 c2 (decT C l N (m + 1)) wr):=Lib.hid (by rw [<- mixT_end];exact HIK.out);clear HFD HM0;go_wp2_with fail
         exact ⟨⟨m + 1,by go_num,by omega,HIE.out⟩,by simp [intOf];omega⟩
    ·have t2:decide (m < q) = false:=by simpa using hmq
     obtain rfl:q = m:=by omega
     have HR:=Lib.hid (blk_range HI.out.b2);have HTH:=Lib.hid (blk_there HI.out.b1 (mk_size (decT C l N q)).symm.symm);have hge:=HI.out.ge;obtain ⟨W9,hW9,hl2,h9⟩:∃ W9,wm.setCells (S + 1) 0 (mk (decT C l N q)).toList = W9 /\ (loadVar 87 ⟨S + 1,0,none⟩).run Tryz.prog W9 = .ok (.agg (mk (decT C l N q))) W9 /\ Aft w W9 :=
      ⟨_,rfl,run_loadVar_mid (P:=Tryz.prog) _ (S + 1) 0 87 (mkL (decT C l N q)) _ (World.rangeAt_setCells_same wm (S + 1) 0 (mkL (decT C l N q)) (blk_there HI.out.b1 (mkL_len _))) Tryz.underlying87 rfl (by rw [info87,mkL_len]),
       HI.out.aft.grown (only_setCells _ _ _ (only_refl _ _)) (fun k e=>by cases e;omega)⟩
     have H9:=Lib.hid h9;clear h9 hmq;go_wp2_with (first | (refine wpList_load_mid rfl 87 (.tmp 5) rfl B 0 rfl (mkL (decT C l N q)) _ HR.out Tryz.underlying87 rfl (by rw [info87,mkL_len]) ?_) | (refine wpList_store_mid rfl 87 (.tmp 4) (.tmp 76) rfl (S + 1) 0 (mk (decT C l N q)) rfl rfl HTH.out (by rw [info87,mk_size]) (all_oneCell_toArray (mkL_one _)) ?_;rw [hW9]))
     refine bodyPost_ret (v:=.agg (mk (decT C l N q))) ?_ rfl ⟨rfl,H9.out⟩;simp [results,Tryz.results55,Act.put,asAddr,hl2]
end Go.Proofs
end
section
/- Walks: Always. -/
namespace Go.Proofs
open Go.RowKit
open Court (refL begF noS struckB nextR strikeL canB coverB grow)
attribute [local go_sem] Oper.semAt_some
theorem runs_77 (args:Array Value) (w:World):(callFunc 77 args).run Tryz.prog w = .ok (.enter 77 args) w:=by simp [go_sem]
theorem runs_79 (args:Array Value) (w:World):(callFunc 79 args).run Tryz.prog w = .ok (.enter 79 args) w:=by simp [go_sem]
theorem always2_any (A:Option Addr) (l:List Int) (c:Nat) (n:Int) (b:Nat) (w:World) (hA:Ints w A l) (hb:Blk w b 3 #[.int .i64 n]) :
  Calls Tryz.prog 79 #[.slice A l.length c,.pointer (some ⟨b,0,none⟩)] w fun e w'=>e = .returned (.bool (!hasB l n)) /\ Aft w w':=by
 have H:Hid (Calls Tryz.prog 38 #[.slice A l.length c,.int .i64 n] w fun e w'=>e = .returned (.bool (hasB l n)) /\ Aft w w'):=Lib.hid ((contains_any A l c n w hA).mono fun e w' ⟨h1,h2⟩=>⟨h1,by subst h2;exact Aft.refl _⟩);have k0:w.cell? ⟨b,0,none⟩ = some (.int .i64 n):=hb.cell 0;have hlt:=hb.lt;clear hA hb;generalize hasB l n = q at *;go_enter Tryz.func79,Tryz.ntmps79;go_wp2_with (go_at_call 38;refine H.out.mono ?_;rintro e w' ⟨rfl,ha⟩;have HA:=Lib.hid ha;clear ha)
 go_ret;exact ⟨rfl,HA.out⟩
theorem always1_any (A:Option Addr) (ls:List (List Int)) (c:Nat) (n:Int) (b:Nat) (w:World) (hA:Lists w A ls) (hb:Blk w b 23 #[.slice A ls.length c]) :
  Calls Tryz.prog 77 #[.int .i64 n,.pointer (some ⟨b,0,none⟩)] w fun e w'=>e = .returned (.bool (ls.any fun x=>!hasB x n)) /\ Aft w w':=by
 have H:Hid (Calls Tryz.prog 78 #[.slice A ls.length c,.func (.func 79) #[] #[.pointer (some ⟨w.heap.size,0,none⟩)]] (w.alloc (.cells #[.int .i64 n] 3)) fun e w'=>e = .returned (.bool (!ls.any fun x=>!hasB x n)) /\ Aft (w.alloc (.cells #[.int .i64 n] 3)) w'):=Lib.hid
  (none_lists ListR 79 [.pointer (some ⟨w.heap.size,0,none⟩)] (fun x=>!hasB x n) A ls c _ (hA.aft (Aft.alloc _ _)) runs_79 (fun x hx v0 ⟨A1,c1,hv,hi⟩=>by
   cases hv;exact fun u=>always2_any A1 x c1 n w.heap.size _ (hi.aft (Aft.lat _ u)) ((Blk.new w 3 #[.int .i64 n]).lat u)))
 have k0:w.cell? ⟨b,0,none⟩ = some (.slice A ls.length c):=hb.cell 0;have hlt:=hb.lt;clear hA hb;generalize (ls.any fun x=>!hasB x n) = q at *;go_enter Tryz.func77,Tryz.ntmps77;go_wp2_with (go_at_call 78;refine H.out.mono ?_;rintro e w' ⟨rfl,ha⟩;have HA:=Lib.hid ha;clear ha)
 go_ret;exact ⟨by simp,(Aft.alloc _ _).trans HA.out⟩
def fullsA (C:CaseL) (R:List Int):List (List Int):=grow C.strikes (refL R) C.claims.toNat C.claims.toNat 0 []
def alwaysE (C:CaseL) (R:List Int):Int:=if openE C R = 0 then (if fullsA C R = [] then 7 else 0) else openE C R
def alwaysL (C:CaseL) (R:List Int):List Int:=((fullsA C R).headD []).filter fun n=>!(fullsA C R).any fun x=>!hasB x n
def BadA (C:CaseL) (R:List Int) (w:World) (e:Ending) (w':World):Prop:=e = .returned (.tuple #[.slice none 0 0,.int .i64 (alwaysE C R)]) /\ Aft w w'
def GoodI (L:List Int) (w:World) (e:Ending) (w':World):Prop:=∃ A c,e = .returned (.tuple #[.slice A L.length c,.int .i64 0]) /\ Ints w' A L /\ Aft w w'
theorem grow_count {S:List (Int × Int)} {ref:Int -> Bool} {N:Nat}:∀ (k n:Nat) (l:List Int),(grow S ref N k n l).length <= 2 ^ k
 | 0,n,l=>by unfold grow;split <;> simp
 | k + 1,n,l=>by
  show ((if canB S ref l n then grow S ref N k (n + 1) (l ++ [(n:Int)]) else []) ++ grow S ref N k (n + 1) l).length <= 2 ^ (k + 1);have h1:=grow_count (S:=S) (ref:=ref) (N:=N) k (n + 1) l;have h2:=grow_count (S:=S) (ref:=ref) (N:=N) k (n + 1) (l ++ [(n:Int)]);rw [List.length_append,Nat.pow_succ];split <;> simp <;> omega
theorem grow_len' {S:List (Int × Int)} {ref:Int -> Bool} {N:Nat}:∀ (k n:Nat) (l:List Int),∀ x ∈ grow S ref N k n l,x.length <= l.length + k
 | 0,n,l,x,h=>by
  unfold grow at h;split at h
  ·rw [List.mem_singleton] at h;subst h;omega
  ·cases h
 | k + 1,n,l,x,h=>by
  have h':x ∈ (if canB S ref l n then grow S ref N k (n + 1) (l ++ [(n:Int)]) else []) ++ grow S ref N k (n + 1) l:=h;rcases List.mem_append.1 h' with h | h
  ·split at h
   ·have:=grow_len' k (n + 1) _ x h;rw [List.length_append,List.length_singleton] at this;omega
   ·cases h
  ·have:=grow_len' k (n + 1) _ x h;omega
theorem fulls_all (C:CaseL) (a1 a2:Option Addr) (c1 c2:Nat) (R:List Int) (h1:openE C R = 0) (W0 W:World) (d:Nat) (hD:DeskAt W0 W d C a1 a2 c1 c2 (refL R) noS (begF (refL R)) (fun _=>0)) :
  Calls Tryz.prog 74 #[.pointer (some ⟨d,0,none⟩),.int .i64 16384] W fun e w'=>∃ v,e = .returned v /\ Outs w' W.heap.size v (fullsA C R) /\ Aft W w':=by
 have hok:=(openE_facts h1).1;have h:=full_any W0 W d 16384 C.claims.toNat C a1 a2 c1 c2 (refL R) (begF (refL R)) (fun _=>0) hD (by have:=hok.n1;omega) (by have:=hok.n2;omega) (fun s hs=>by have:=(hok.ins s hs).1;have:=hok.n2;omega) (by omega)
 have e:(grow C.strikes (refL R) C.claims.toNat C.claims.toNat 0 []).take 16384 = fullsA C R:=by
  refine List.take_of_length_le (Nat.le_trans (grow_count _ _ _) ?_);exact Nat.le_trans (Nat.pow_le_pow_right (by omega) (by have:=hok.n2;omega:C.claims.toNat <= 14)) (by decide)
 rw [e] at h;exact h
theorem fulls_len (C:CaseL) (R:List Int) (h1:openE C R = 0):(fullsA C R).length <= 16384 /\ ∀ x ∈ fullsA C R,x.length <= 14:=by
 have hok:=(openE_facts h1).1;have hn:C.claims.toNat <= 14:=by have:=hok.n2;omega
 refine ⟨Nat.le_trans (grow_count _ _ _) (Nat.le_trans (Nat.pow_le_pow_right (by omega) hn) (by decide)),fun x hx=>?_⟩;have:=grow_len' _ _ _ x hx;simp at this;omega
set_option maxRecDepth 100000 in
set_option maxHeartbeats 2000000 in
theorem always_bad (C:CaseL) (a1 a2:Option Addr) (c1 c2:Nat) (R:List Int) (A:Option Addr) (c:Nat) (w:World) (hC:CRep w C a1 a2) (hA:Ints w A R) (he:alwaysE C R ≠ 0) :
  Calls Tryz.prog 30 #[(.agg #[.int .i64 C.claims,.slice a1 C.strikes.length c1,.slice a2 C.surveys.length c2]),.slice A R.length c] w (BadA C R w):=by
 have H0:=Lib.hid (Aft.alloc w (.cells #[.int .i64 C.claims,.slice a1 C.strikes.length c1,.slice a2 C.surveys.length c2] 25));unfold BadA;unfold alwaysE at he ⊢;by_cases h1:openE C R = 0
 ·rw [if_pos h1] at he ⊢
  have h2:fullsA C R = []:=by
   by_cases h:fullsA C R = []
   ·exact h
   ·rw [if_neg h] at he;exact absurd rfl he
  rw [if_pos h2];have H1:Hid (∀ W,Aft w W -> Calls Tryz.prog 68 #[(.agg #[.int .i64 C.claims,.slice a1 C.strikes.length c1,.slice a2 C.surveys.length c2]),.slice A R.length c] W (Opened C a1 a2 c1 c2 R W)):=Lib.hid fun W h=>opened_good C a1 a2 c1 c2 R A c W (hC.aft h) (hA.aft h) h1
  have H2:=Lib.hid (fulls_all C a1 a2 c1 c2 R h1);rw [h2] at H2;clear hC hA h1 h2 he;go_enter Tryz.func30,Tryz.ntmps30;go_wp2_with (first | (go_at_call 68;refine (H1.out _ H0.out).mono ?_;rintro e w1 ⟨d,rfl,hd⟩;have HD:=Lib.hid hd;clear hd) | (go_at_call 74;refine (H2.out _ _ _ HD.out).mono ?_;rintro e w2 ⟨v,rfl,hov,ha2⟩;obtain ⟨A9,c9,rfl⟩:=hov.form;have HA2:=Lib.hid ha2;clear ha2 hov))
  go_ret2;exact ⟨rfl,((H0.out.trans HD.out.aft).trans HA2.out).then_alloc _⟩
 ·rw [if_neg h1] at he ⊢;have H1:Hid (∀ W,Aft w W -> Calls Tryz.prog 68 #[(.agg #[.int .i64 C.claims,.slice a1 C.strikes.length c1,.slice a2 C.surveys.length c2]),.slice A R.length c] W fun e w'=>e = .returned (.tuple #[.pointer none,.int .i64 (openE C R)]) /\ Aft W w'):=Lib.hid fun W h=>opened_bad C a1 a2 c1 c2 R A c W (hC.aft h) (hA.aft h) he
  have t1:(openE C R != 0) = true:=by simpa using he
  clear hC hA he h1;generalize openE C R = E at *;go_enter Tryz.func30,Tryz.ntmps30;go_wp2_with (go_at_call 68;refine (H1.out _ H0.out).mono ?_;rintro e w' ⟨rfl,u,rfl⟩)
  go_ret2;exact ⟨rfl,H0.out.then_lat _⟩
end Go.Proofs
end
section
/- Walks: Surveys. -/
namespace Go.Proofs
open Go.RowKit
open Court (refL begF noS award)
attribute [local go_sem] Oper.semAt_some
set_option maxRecDepth 100000 in
theorem index87_any (T:Int -> Bool) (W:World):∀ n:Nat,n < 14 -> (Instr.index 87 (.agg (mk T)) (.int .i64 n)).run Tryz.prog W = .ok (.bool (T n)) W
 | 0,_=>by kernel_rfl
 | 1,_=>by kernel_rfl
 | 2,_=>by kernel_rfl
 | 3,_=>by kernel_rfl
 | 4,_=>by kernel_rfl
 | 5,_=>by kernel_rfl
 | 6,_=>by kernel_rfl
 | 7,_=>by kernel_rfl
 | 8,_=>by kernel_rfl
 | 9,_=>by kernel_rfl
 | 10,_=>by kernel_rfl
 | 11,_=>by kernel_rfl
 | 12,_=>by kernel_rfl
 | 13,_=>by kernel_rfl
 | n + 14,h=>absurd h (by omega)
def idxL (p:Nat -> Bool) (k:Nat):List Int:=((List.range k).filter p).map fun (i:Nat)=>(i:Int)
theorem idxL_succ (p:Nat -> Bool) (k:Nat):idxL p (k + 1) = idxL p k ++ if p k then [(k:Int)] else []:=by
 unfold idxL;rw [List.range_succ,List.filter_append,List.map_append]
 congr 1
 by_cases h:p k = true <;> simp [h]
theorem idxL_len (p:Nat -> Bool) (k:Nat):(idxL p k).length <= k:=by
 unfold idxL;rw [List.length_map];exact Nat.le_trans (List.length_filter_le _ _) (by simp)
def decidesB (C:CaseL) (i:Nat) (n:Int):Bool:=decT C (C.surveys.getD i []) C.claims.toNat (2 ^ (C.surveys.getD i []).length) n
def surveyingE (C:CaseL) (n:Int):Int:=if caseE C = 0 then (if Cl n C.claims then 0 else 2) else caseE C
def BadS (E:Int) (w:World) (e:Ending) (w':World):Prop:=e = .returned (.tuple #[.slice none 0 0,.int .i64 E]) /\ Aft w w'
theorem decides_of (C:CaseL) (a1 a2:Option Addr) (c1 c2:Nat) (hc:caseE C = 0) (l:List Int) (hl:l ∈ C.surveys) (A:Option Addr) (c:Nat) (w:World) (hC:CRep w C a1 a2) (hA:Ints w A l) :
  Calls Tryz.prog 55 #[(.agg #[.int .i64 C.claims,.slice a1 C.strikes.length c1,.slice a2 C.surveys.length c2]),.slice A l.length c] w fun e w'=>e = .returned (.agg (mk (decT C l C.claims.toNat (2 ^ l.length)))) /\ Aft w w':=by
 have hok:=caseE_ok hc;have hs:=hok.svs l hl;have hr:=(listedE_ok hs.2).1;have:=hok.n1;have:=hok.n2;exact decides_any C a1 a2 c1 c2 l A c w hC hA C.claims.toNat (by omega) (by omega) (by omega) (fun s hs=>by have:=(hok.ins s hs).1;omega) (fun x hx=>by have:=hr x hx;omega) hs.1.2
set_option maxRecDepth 100000 in
set_option maxHeartbeats 2000000 in
theorem surveys_bad (C:CaseL) (a1 a2:Option Addr) (c1 c2:Nat) (n:Int) (w:World) (hC:CRep w C a1 a2) (he:surveyingE C n ≠ 0) :
  Calls Tryz.prog 18 #[(.agg #[.int .i64 C.claims,.slice a1 C.strikes.length c1,.slice a2 C.surveys.length c2]),.int .i64 n] w (BadS (surveyingE C n) w):=by
 have H0:=Lib.hid (Aft.alloc w (.cells #[.int .i64 C.claims,.slice a1 C.strikes.length c1,.slice a2 C.surveys.length c2] 25));have HB:=Lib.hid (Blk.new w 25 #[.int .i64 C.claims,.slice a1 C.strikes.length c1,.slice a2 C.surveys.length c2]);have H1:Hid (∀ W,Aft w W -> Calls Tryz.prog 34 #[(.agg #[.int .i64 C.claims,.slice a1 C.strikes.length c1,.slice a2 C.surveys.length c2])] W fun e w'=>e = .returned (.int .i64 (caseE C)) /\ Aft W w'):=Lib.hid fun W h=>check_any C a1 a2 c1 c2 W (hC.aft h)
 unfold BadS;unfold surveyingE at he ⊢;by_cases h1:caseE C = 0
 ·rw [if_pos h1] at he ⊢;have hok:=caseE_ok h1
  have h2:Cl n C.claims = false:=by
   cases h:Cl n C.claims
   ·rfl
   ·rw [h] at he;exact absurd rfl he
  have H2:Hid (∀ W,Aft w W -> Calls Tryz.prog 59 #[(.agg #[.int .i64 C.claims,.slice a1 C.strikes.length c1,.slice a2 C.surveys.length c2]),.int .i64 n] W fun e w'=>e = .returned (.bool true) /\ Aft W w'):=Lib.hid fun W h=>(strange_any C.claims n a1 a2 _ _ c1 c2 W ⟨hok.n1,hok.n2⟩).mono fun e w' ⟨h,h'⟩=>⟨by rw [h,h2];rfl,by first | exact h' | (subst h';exact Aft.refl _)⟩
  rw [h2,if_neg (by decide)];rw [h1] at H1;clear hC he h1 hok h2;go_enter Tryz.func18,Tryz.ntmps18;go_wp2_with (first | (go_at_call 34;refine (H1.out _ H0.out).mono ?_;rintro e w1 ⟨rfl,ha1⟩;have HA1:=Lib.hid ha1;obtain ⟨k0,k1,k2⟩:=box25 (HB.out.aft ha1);have hlt:=(HB.out.aft ha1).lt;clear ha1) | (go_at_call 59;refine (H2.out _ (H0.out.trans HA1.out)).mono ?_;rintro e w2 ⟨rfl,ha2⟩;have HA2:=Lib.hid ha2;clear ha2))
  go_ret2;exact ⟨rfl,(H0.out.trans HA1.out).trans HA2.out⟩
 ·rw [if_neg h1] at he ⊢;have t1:(caseE C != 0) = true:=by simpa using he
  clear hC he h1;generalize caseE C = E at *;go_enter Tryz.func18,Tryz.ntmps18;go_wp2_with (go_at_call 34;refine (H1.out _ H0.out).mono ?_;rintro e w1 ⟨rfl,ha1⟩;have HA1:=Lib.hid ha1;clear ha1)
  go_ret2;exact ⟨rfl,H0.out.trans HA1.out⟩
set_option maxRecDepth 100000 in
set_option maxHeartbeats 2000000 in
theorem surveys_good (C:CaseL) (a1 a2:Option Addr) (c1 c2:Nat) (n:Nat) (w:World) (hC:CRep w C a1 a2) (he:surveyingE C n = 0) :
  Calls Tryz.prog 18 #[(.agg #[.int .i64 C.claims,.slice a1 C.strikes.length c1,.slice a2 C.surveys.length c2]),.int .i64 n] w (GoodI (idxL (fun i=>decidesB C i n) C.surveys.length) w):=by
 have H0:=Lib.hid (Aft.alloc w (.cells #[.int .i64 C.claims,.slice a1 C.strikes.length c1,.slice a2 C.surveys.length c2] 25));have HB:=Lib.hid (Blk.new w 25 #[.int .i64 C.claims,.slice a1 C.strikes.length c1,.slice a2 C.surveys.length c2]);unfold surveyingE at he
 have h1:caseE C = 0:=by
  by_cases h1:caseE C = 0
  ·exact h1
  ·rw [if_neg h1] at he;exact he
 rw [if_pos h1] at he
 have h2:Cl n C.claims = true:=by
  cases h:Cl n C.claims
  ·rw [h] at he;cases he
  ·rfl
 have hok:=caseE_ok h1;have hn14:n < 14:=by have:=Cl_iff.1 h2;have:=hok.n2;omega
 have H1:Hid (∀ W,Aft w W -> Calls Tryz.prog 34 #[(.agg #[.int .i64 C.claims,.slice a1 C.strikes.length c1,.slice a2 C.surveys.length c2])] W fun e w'=>e = .returned (.int .i64 0) /\ Aft W w'):=Lib.hid fun W h=>by
  have:=check_any C a1 a2 c1 c2 W (hC.aft h)
  rwa [h1] at this
 have H2:Hid (∀ W,Aft w W -> Calls Tryz.prog 59 #[(.agg #[.int .i64 C.claims,.slice a1 C.strikes.length c1,.slice a2 C.surveys.length c2]),.int .i64 n] W fun e w'=>e = .returned (.bool false) /\ Aft W w'):=Lib.hid fun W h=>(strange_any C.claims n a1 a2 _ _ c1 c2 W ⟨hok.n1,hok.n2⟩).mono fun e w' ⟨h,h'⟩=>⟨by rw [h,h2];rfl,by first | exact h' | (subst h';exact Aft.refl _)⟩
 have H3:Hid (∀ W (i:Nat) (hi:i < C.surveys.length) A c,Aft w W -> Ints W A C.surveys[i] -> Calls Tryz.prog 55 #[(.agg #[.int .i64 C.claims,.slice a1 C.strikes.length c1,.slice a2 C.surveys.length c2]),.slice A C.surveys[i].length c] W fun e w'=>e = .returned (.agg (mk (decT C C.surveys[i] C.claims.toNat (2 ^ C.surveys[i].length)))) /\ Aft W w'):=Lib.hid fun W i hi A c h hA=>decides_of C a1 a2 c1 c2 h1 C.surveys[i] (List.getElem_mem hi) A c W (hC.aft h) hA
 have HPI:Hid (∀ (i:Nat) (hi:i < C.surveys.length),decidesB C i n = decT C C.surveys[i] C.claims.toNat (2 ^ C.surveys[i].length) n):=Lib.hid fun i hi=>by
  unfold decidesB;rw [List.getD_eq_getElem?_getD,List.getElem?_eq_getElem hi];rfl
 have HL:=Lib.hid hC.surveys;have hfew:=hok.fews;unfold GoodI;obtain ⟨p,hp⟩:∃ p:Nat -> Bool,(fun i=>decidesB C i n) = p:=⟨_,rfl⟩;rw [hp];have HPP:Hid (∀ i,decidesB C i n = p i):=Lib.hid fun i=>by rw [<- hp]
 clear hC he h1 h2 hok hp;go_enter Tryz.func18,Tryz.ntmps18;go_upto_block 1 with (first | (go_at_call 34;refine (H1.out _ H0.out).mono ?_;rintro e w1 ⟨rfl,ha1⟩;have HA1:=Lib.hid ha1;obtain ⟨k0,k1,k2⟩:=box25 (HB.out.aft ha1);have hlt:=(HB.out.aft ha1).lt;clear ha1) | (go_at_call 59;refine (H2.out _ (H0.out.trans HA1.out)).mono ?_;rintro e w2 ⟨rfl,ha2⟩;have HA2:=Lib.hid (HA1.out.trans ha2);obtain ⟨j0,j1,j2⟩:=box25 (HB.out.aft HA2.out);have hlt2:=(HB.out.aft HA2.out).lt;clear ha2))
 clear k0 k1 k2 hlt j0 j1 j2 hlt2;have HN0:=Lib.hid (World.ownsRow_nil w2 w2.heap.size 3 1);refine wp_block ?_;go_loopw [7,23] (fun v i wr=>∃ k:Nat,i = .int .i64 k /\ k <= C.surveys.length /\ wr.ownsRow w2.heap.size 3 1 v (idxL p k).length ((idxL p k).map (Value.int .i64)) /\ Aft w2 wr) (fun _ i _=>C.surveys.length - (intOf i).toNat)
 case atStart=>exact ⟨0,rfl,by omega,HN0.out,Aft.refl _⟩
 case round =>
  obtain ⟨k,rfl,hk,hown,haw⟩:=hrel;have HOW:=Lib.hid hown;have HAW:=Lib.hid ((H0.out.trans HA2.out).trans haw);have HAR:=Lib.hid haw;obtain ⟨j0,j1,j2⟩:=box25 (HB.out.aft (HA2.out.trans haw));have hlt:=(HB.out.aft (HA2.out.trans haw)).lt;clear hown haw;by_cases hkl:k < C.surveys.length
  ·have t1:decide (k < C.surveys.length) = true:=by simpa using hkl
   obtain ⟨b9,o9,hb9e,hb9,hc9⟩:=(HL.out.aft HAW.out).at hkl;subst hb9e;obtain ⟨A3,c3,x0,hi3⟩:=hc9 k hkl;have HC:=Lib.hid (H3.out wr k hkl A3 c3 HAW.out hi3);have HP:=Lib.hid ((HPI.out k hkl).symm.trans (HPP.out k));have HS:=Lib.hid (idxL_succ p k);have hle:=idxL_len p k;have hi1:(0:Int) <= (k:Int) /\ (k:Int) < (C.surveys.length:Int):=by omega
   have hix:=fun T W=>index87_any T W n hn14
   have HIX:=Lib.hid hix;clear hc9 hi3 hix;generalize C.surveys[k] = l at *;generalize decT C l C.claims.toNat (2 ^ l.length) = T at *;cases hpk:p k
   ·rw [hpk] at HP HS;clear hpk;have hixT:=fun W=>(HIX.out T W).trans (by rw [HP.out])
    go_wp2_with (first | (go_at_call 55;refine HC.out.mono ?_;rintro e w5 ⟨rfl,ha5⟩;have HA5:=Lib.hid ha5;have hixw:=hixT w5;clear ha5))
    exact ⟨⟨k + 1,by go_num,by omega,by rw [HS.out];simpa using own_aft HOW.out HA5.out,HAR.out.trans HA5.out⟩,by simp [intOf];omega⟩
   ·rw [hpk] at HP HS;clear hpk;have hixT:=fun W=>(HIX.out T W).trans (by rw [HP.out])
    go_wp2_with (first | (go_at_call 55;refine HC.out.mono ?_;rintro e w5 ⟨rfl,ha5⟩;have HA5:=Lib.hid ha5;have hixw:=hixT w5;have hbase:w2.heap.size <= (w5.alloc (.cells #[.int .i64 k] 3)).heap.size:=Nat.le_trans (HAR.out.trans ha5).size (by simp);clear ha5) | (at_builtin;refine wpList_push rfl _ _ rfl (own_aft HOW.out (HA5.out.then_alloc _)) hbase rfl rfl (cell_new1 _ _ _) (by omega) ?_;intro v7 w7 hr7 hg7;have HR7:=Lib.hid hr7;have HG7:=Lib.hid hg7;clear hr7 hg7))
    exact ⟨⟨k + 1,by go_num,by omega,by rw [HS.out];simpa using HR7.out,((HAR.out.trans HA5.out).then_alloc _).grown HG7.out (fun g hg=>own_ge HOW.out g hg)⟩,by simp [intOf];omega⟩
  ·have t1:decide (k < C.surveys.length) = false:=by simpa using hkl
   obtain rfl:C.surveys.length = k:=by omega
   have hle:=idxL_len p C.surveys.length;obtain ⟨A7,c7,rfl,_,hi7⟩:=own_ints HOW.out (by omega);have HI7:=Lib.hid hi7;clear hi7 hkl;go_wp2_with fail
   go_ret2;exact ⟨A7,c7,rfl,HI7.out,HAW.out⟩
end Go.Proofs
end
section
/- Walks: the reference's award 65,Award 22. -/
namespace Go.Proofs
open Go.RowKit
open Court (refL begF noS struckB heard1 rule setF award manyOnce atOnce)
attribute [local go_sem] Oper.semAt_some
def stepT (S:List (Int × Int)) (f:Int -> Nat) (n:Nat):Int -> Nat:=fun i=>if i < n then heard1 S noS f i else 0
theorem stepT_succ (S:List (Int × Int)) (f:Int -> Nat) (n N:Nat):foundL (setF (stepT S f n) n (heard1 S noS f n)) N = foundL (stepT S f (n + 1)) N:=by
 unfold foundL;refine List.map_congr_left fun i _=>?_
 unfold setF stepT;by_cases e:(i:Int) = n
 ·rw [if_pos e,if_pos (by omega),e]
 ·rw [if_neg e];by_cases h:(i:Int) < n
  ·rw [if_pos h,if_pos (by omega)]
  ·rw [if_neg h,if_neg (by omega)]
theorem stepT_end (S:List (Int × Int)) (f:Int -> Nat) (N:Nat):foundL (stepT S f N) N = foundL (atOnce S noS N f) N:=by
 unfold foundL;refine List.map_congr_left fun i hi=>?_
 have:=List.mem_range.1 hi;unfold stepT atOnce;rw [if_pos (by omega),if_pos (by omega)]
set_option maxRecDepth 100000 in
set_option maxHeartbeats 4000000 in
theorem awardR_any (N:Nat) (S:List (Int × Int)) (T:List (List Int)) (a1 a2:Option Addr) (c1 c2:Nat) (R:List Int) (A:Option Addr) (c:Nat) (w:World) (hC:CRep w ⟨N,S,T⟩ a1 a2) (hN:1 <= N /\ N <= 14) (hin:∀ s ∈ S,0 <= s.1 /\ s.1 < N) (hA:Ints w A R) (hR:∀ x ∈ R,0 <= x /\ x < N) :
  Calls Tryz.prog 65 #[(.agg #[.int .i64 N,.slice a1 S.length c1,.slice a2 T.length c2]),.slice A R.length c] w (MadeI (foundL (award S noS N (begF (refL R))) N) w):=by
 have hl:=hC.strikes.len;have H0:=Lib.hid (Aft.alloc w (.cells #[.int .i64 N,.slice a1 S.length c1,.slice a2 T.length c2] 31));have HB:=Lib.hid (Blk.new w 31 #[.int .i64 N,.slice a1 S.length c1,.slice a2 T.length c2]);have HC:=Lib.hid (hC.aft H0.out);have HA:=Lib.hid (hA.aft H0.out);have HAW:Hid (manyOnce S noS N (N + 1) (begF (refL R)) = award S noS N (begF (refL R))):=Lib.hid (Court.many_award (Court.begF_three _) (by omega));clear hA hC;obtain ⟨bC,hbC⟩:∃ bC,w.heap.size = bC:=⟨_,rfl⟩;rw [hbC] at HB;have HBC:=Lib.hid hbC;have hw0:w.heap.size <= (w.alloc (.cells #[.int .i64 N,.slice a1 S.length c1,.slice a2 T.length c2] 31)).heap.size:=H0.out.size;rw [hbC] at hw0;clear hbC;obtain ⟨k0,k1,k2⟩:=box31 HB.out;have k3:=HB.out.lt;unfold MadeI;rw [foundL_len];obtain ⟨f1,hf1⟩:∃ f1,award S noS N (begF (refL R)) = f1:=⟨_,rfl⟩;rw [hf1] at HAW ⊢;clear hf1;go_enter Tryz.func65,Tryz.ntmps65;go_upto_region 1 with fail
 rw [HBC.out];generalize w.alloc (.cells #[.int .i64 N,.slice a1 S.length c1,.slice a2 T.length c2] 31) = W0 at *;have H99:=Lib.hid (begin_any N a1 a2 S.length T.length c1 c2 A R c W0 hN HA.out hR);have hfl:=foundL_len (begF (refL R)) N;go_upto_block 0 with (go_at_call 99;refine H99.out.mono ?_;rintro e W1 ⟨g0,rfl,hg,hb,ha⟩;have HG0:=Lib.hid hb;have HA1:=Lib.hid ha;have HGE:=Lib.hid hg;rw [hfl];clear hg hb ha)
 clear k0 k1 k2 k3 H99 hfl;refine wp_block ?_;go_loopw [5,6] (fun v i wr=>∃ (r g:Nat) (F:Int -> Nat),i = .int .i64 r /\ v = .slice (some ⟨g,0,none⟩) N N /\ r <= N + 1 /\ bC <= g /\ Blk wr g 3 (ivs (foundL F N)) /\ Aft W0 wr /\ Hid (manyOnce S noS N (N + 1 - r) F = f1)) (fun _ i _=>N + 1 - (intOf i).toNat)
 case atStart=>exact ⟨0,g0,begF (refL R),rfl,rfl,by omega,Nat.le_trans hw0 HGE.out,HG0.out,HA1.out,HAW⟩
 case round =>
  obtain ⟨r,g,F,rfl,rfl,hr,hbg,hb,hy,HM⟩:=hrel;have HG:=Lib.hid hb;have HY:=Lib.hid hy;clear hb hy;obtain ⟨k0,k1,k2⟩:=box31 (HB.out.aft HY.out);have k3:=(HB.out.aft HY.out).lt;by_cases hrN:r <= N
  ·have t1:decide (r <= N) = true:=by simpa using hrN
   obtain ⟨W1,rfl⟩:∃ W1,W1 = wr:=⟨_,rfl⟩;have hmk:=ivs_make W1 N (by omega);go_upto_block 2 with fail
   have HB2:=Lib.hid (Blk.new W1 3 (ivs (foundL (fun _=>0) N)));have HA2:=Lib.hid (Aft.alloc W1 (.cells (ivs (foundL (fun _=>0) N)) 3));obtain ⟨h,hh⟩:∃ h,W1.heap.size = h:=⟨_,rfl⟩;have hhb:bC <= W1.heap.size:=Nat.le_of_lt k3;rw [hh] at HB2 hhb ⊢;have HH:=Lib.hid hh;clear hmk hh k0 k1 k2 k3;generalize W1.alloc (.cells (ivs (foundL (fun _=>0) N)) 3) = W2 at *;refine wp_block ?_;go_loopw [8] (fun i wr=>∃ n:Nat,i = .int .i64 n /\ n <= N /\ Aft W1 wr /\ Blk wr h 3 (ivs (foundL (stepT S F n) N))) (fun i _=>N - (intOf i).toNat)
   case atStart =>
    refine ⟨0,rfl,by omega,HA2.out,?_⟩
    have:foundL (stepT S F 0) N = foundL (fun _=>0) N:=by
     unfold foundL;refine List.map_congr_left fun i _=>?_
     unfold stepT;rw [if_neg (by omega)]
    rw [this];exact HB2.out
   case round =>
    obtain ⟨n,rfl,hn,hz,hb⟩:=hrel;have HZ:=Lib.hid hz;have HK:=Lib.hid hb;clear hz hb;obtain ⟨k0,k1,k2⟩:=box31 (HB.out.aft (HY.out.trans HZ.out));have k3:=(HB.out.aft (HY.out.trans HZ.out)).lt;by_cases hnN:n < N
    ·have t2:decide (n < N) = true:=by simpa using hnN
     have iN:(0:Int) <= (n:Int) /\ (n:Int) < (N:Int):=by omega
     have H100:=Lib.hid (heardR_any ⟨N,S,T⟩ a1 a2 c1 c2 N F (some ⟨g,0,none⟩) N n wr (HC.out.aft (HY.out.trans HZ.out)) hN.2 hin (ivs_ints (HG.out.aft HZ.out) (by rw [foundL_len];omega)) hnN);obtain ⟨hv,hhv⟩:∃ hv,heard1 S noS F n = hv:=⟨_,rfl⟩;have HST:=Lib.hid (stepT_succ S F n N);rw [hhv] at HST;dsimp only at H100;rw [hhv] at H100;clear hhv;go_wp2_with (go_at_call 100;refine H100.out.mono ?_;rintro e W4 ⟨rfl,ha⟩;have HA4:=Lib.hid ha;have y0:=ivs_cell (HK.out.aft ha) (i:=n) (by rw [foundL_len];exact hnN);have y1:=(HK.out.aft ha).frozen n;have y2:=(HK.out.aft ha).lt;clear ha;generalize (foundL (stepT S F n) N)[n]'(by rw [foundL_len];exact hnN) = vv at y0)
     have hs:W4.grownBy (W4.setCell ⟨h,n,none⟩ (.int .i64 hv)) (some h):=only_setCell (only_refl W4 (some h)) (p:=⟨h,n,none⟩) (.inl rfl) _;refine ⟨⟨n + 1,by go_num,by omega,(HZ.out.trans HA4.out).grown hs (fun j e=>by cases e;exact Nat.le_of_eq HH.out),?_⟩,by simp [intOf];omega⟩;have:=(HK.out.aft HA4.out).store n (.int .i64 hv);rw [ivs_set,foundL_set _ hnN,HST.out] at this;exact this
    ·have t2:decide (n < N) = false:=by simpa using hnN
     obtain rfl:n = N:=by omega
     have HK2:Hid (Blk wr h 3 (ivs (foundL (atOnce S noS n F) n))):=Lib.hid (by
      have:=HK.out
      rwa [stepT_end] at this)
     have HM2:Hid (manyOnce S noS n (n + 1 - (r + 1)) (atOnce S noS n F) = f1):=Lib.hid (by
      have:=HM.out;rw [show n + 1 - r = (n + 1 - (r + 1)) + 1 by omega] at this;exact this)
     clear HK HM;go_wp2_with fail
     exact ⟨⟨r + 1,h,atOnce S noS n F,by go_num,rfl,by omega,hhb,HK2.out,HY.out.trans HZ.out,HM2⟩,by simp [intOf];omega⟩
  ·have t1:decide (r <= N) = false:=by simpa using hrN
   have HK2:Hid (Blk wr g 3 (ivs (foundL f1 N))):=Lib.hid (by
    have h1:=HM.out;rw [show N + 1 - r = 0 by omega] at h1;have h2:F = f1:=h1;rw [<- h2];exact HG.out)
   clear HM HG;go_wp2_with fail
   go_ret;exact ⟨g,rfl,by rw [HBC.out];exact hbg,HK2.out,H0.out.trans HY.out⟩
def MadeE (L:List Int) (w:World) (e:Ending) (w':World):Prop:=∃ g,e = .returned (.tuple #[.slice (some ⟨g,0,none⟩) L.length L.length,.int .i64 0]) /\ w.heap.size <= g /\ Blk w' g 3 (ivs L) /\ Aft w w'
set_option maxRecDepth 100000 in
set_option maxHeartbeats 2000000 in
theorem awardTop_bad (C:CaseL) (a1 a2:Option Addr) (c1 c2:Nat) (R:List Int) (A:Option Addr) (c:Nat) (w:World) (hC:CRep w C a1 a2) (hA:Ints w A R) (he:openE C R ≠ 0) :
  Calls Tryz.prog 22 #[(.agg #[.int .i64 C.claims,.slice a1 C.strikes.length c1,.slice a2 C.surveys.length c2]),.slice A R.length c] w (BadS (openE C R) w):=by
 have H0:=Lib.hid (Aft.alloc w (.cells #[.int .i64 C.claims,.slice a1 C.strikes.length c1,.slice a2 C.surveys.length c2] 31));have HB:=Lib.hid (Blk.new w 31 #[.int .i64 C.claims,.slice a1 C.strikes.length c1,.slice a2 C.surveys.length c2]);have H1:=Lib.hid (refutedR_any C a1 a2 c1 c2 R A c _ (hC.aft H0.out) (hA.aft H0.out));have t1:(openE C R != 0) = true:=by simpa using he
 obtain ⟨k0,k1,k2⟩:=box31 HB.out;have hlt:=HB.out.lt;unfold BadS;clear hC hA he;generalize openE C R = E at *;go_enter Tryz.func22,Tryz.ntmps22;go_wp2_with (go_at_call 66;refine H1.out.mono ?_;rintro e w1 ⟨rfl,ha1⟩;have HA1:=Lib.hid ha1;clear ha1)
 go_ret2;exact ⟨rfl,H0.out.trans HA1.out⟩
set_option maxRecDepth 100000 in
set_option maxHeartbeats 2000000 in
theorem awardTop_good (N:Nat) (S:List (Int × Int)) (T:List (List Int)) (a1 a2:Option Addr) (c1 c2:Nat) (R:List Int) (A:Option Addr) (c:Nat) (w:World) (hC:CRep w ⟨N,S,T⟩ a1 a2) (hA:Ints w A R) (he:openE ⟨N,S,T⟩ R = 0) :
  Calls Tryz.prog 22 #[(.agg #[.int .i64 N,.slice a1 S.length c1,.slice a2 T.length c2]),.slice A R.length c] w (MadeE (foundL (award S noS N (begF (refL R))) N) w):=by
 have H0:=Lib.hid (Aft.alloc w (.cells #[.int .i64 N,.slice a1 S.length c1,.slice a2 T.length c2] 31));have HB:=Lib.hid (Blk.new w 31 #[.int .i64 N,.slice a1 S.length c1,.slice a2 T.length c2]);have H1:Hid (Calls Tryz.prog 66 #[(.agg #[.int .i64 N,.slice a1 S.length c1,.slice a2 T.length c2]),.slice A R.length c] (w.alloc (.cells #[.int .i64 N,.slice a1 S.length c1,.slice a2 T.length c2] 31)) fun e w'=>e = .returned (.int .i64 0) /\ Aft (w.alloc (.cells #[.int .i64 N,.slice a1 S.length c1,.slice a2 T.length c2] 31)) w'):=Lib.hid (by rw [<- he];exact refutedR_any ⟨N,S,T⟩ a1 a2 c1 c2 R A c _ (hC.aft H0.out) (hA.aft H0.out));have hok:=caseE_ok (openE_ok he).1;have hR:=(listedE_ok (openE_ok he).2).1;have hn1:=hok.n1;have hn2:=hok.n2;have hin:=hok.ins;dsimp only at hn1 hn2 hR hin;have H2:Hid (∀ W,Aft w W -> Calls Tryz.prog 65 #[(.agg #[.int .i64 N,.slice a1 S.length c1,.slice a2 T.length c2]),.slice A R.length c] W (MadeI (foundL (award S noS N (begF (refL R))) N) W)):=Lib.hid fun W h=>awardR_any N S T a1 a2 c1 c2 R A c W (hC.aft h) (by omega) (fun s hs=>(hin s hs).1) (hA.aft h) hR
 obtain ⟨k0,k1,k2⟩:=box31 HB.out;have hlt:=HB.out.lt;have hfl:=foundL_len (award S noS N (begF (refL R))) N;unfold MadeE;clear hC hA he hok hR hin;generalize foundL (award S noS N (begF (refL R))) N = F at *;rw [hfl];go_enter Tryz.func22,Tryz.ntmps22;go_wp2_with (first | (go_at_call 66;refine H1.out.mono ?_;rintro e w1 ⟨rfl,ha1⟩;have HA1:=Lib.hid (H0.out.trans ha1);obtain ⟨j0,j1,j2⟩:=box31 (HB.out.aft ha1);have hlt1:=(HB.out.aft ha1).lt;clear ha1) | (go_at_call 65;refine (H2.out _ HA1.out).mono ?_;rintro e w2 ⟨g,rfl,hg,hb,ha⟩;have HG:=Lib.hid hb;have HGE:=Lib.hid (Nat.le_trans HA1.out.size hg);have HA2:=Lib.hid (HA1.out.trans ha);rw [hfl];clear hg hb ha))
 go_ret2;exact ⟨g,rfl,HGE.out,HG.out,HA2.out⟩
end Go.Proofs
end
section
/- Plain: the fewest claims to be refuted,as the program finds them. -/
namespace Court
section
variable {S:List (Int × Int)} {N:Nat} {c:Int}
def winB (S:List (Int × Int)) (N:Nat) (c:Int) (l:List Int):Bool:=decide (award S noS N (begF (refL l)) c = 1)
def tryW (S:List (Int × Int)) (N:Nat) (c:Int) (k n m:Nat) (l:List Int):Option (List Int):=(combos c k n m l).find? (winB S N c)
theorem combos_zero (c:Int) (k n:Nat) (l:List Int):combos c k n 0 l = [l]:=by cases k <;> rfl
theorem tryW_zero (k n:Nat) (l:List Int):tryW S N c k n 0 l = if winB S N c l then some l else none:=by
 unfold tryW;rw [combos_zero];cases h:winB S N c l <;> simp [h]
theorem tryW_end (n m:Nat) (l:List Int):tryW S N c 0 n (m + 1) l = none:=rfl
theorem tryW_step (k n m:Nat) (l:List Int):tryW S N c (k + 1) n (m + 1) l = (if (n:Int) ≠ c then tryW S N c k (n + 1) m (l ++ [(n:Int)]) else none).or (tryW S N c k (n + 1) (m + 1) l):=by
 have e:combos c (k + 1) n (m + 1) l = (if (n:Int) ≠ c then combos c k (n + 1) m (l ++ [(n:Int)]) else []) ++ combos c k (n + 1) (m + 1) l:=rfl;unfold tryW;rw [e,List.find?_append];by_cases h:(n:Int) ≠ c
 ·rw [if_pos h,if_pos h]
 ·rw [if_neg h,if_neg h];rfl
def FewIs (S:List (Int × Int)) (N:Nat) (c:Int) (L:List Int):Prop:=∃ m,tryW S N c N 0 m [] = some L /\ ∀ j,j < m -> tryW S N c N 0 j [] = none
theorem try_all (hc:0 <= c /\ c < N) (hs:(c,c) ∉ S) (hS:∀ s ∈ S,0 <= s.1 /\ s.1 < N):tryW S N c N 0 (N - 1) [] ≠ none:=fun h=>by
 unfold tryW at h;rw [List.find?_eq_none] at h
 have hm:(allN N).filter (fun n=>decide (n ≠ c)) ∈ combos c N 0 (N - 1) []:=by
  refine (mem_combos N 0 (N - 1) [] _).2 ⟨_,(List.nil_append _).symm,?_,fun x hx=>?_,?_⟩
  ·refine List.Pairwise.filter _ ?_;unfold allN;rw [List.pairwise_map];exact List.pairwise_lt_range.imp fun h=>by omega
  ·have:=List.mem_filter.1 hx;have h1:=mem_allN.1 this.1;have h2:=of_decide_eq_true this.2;exact ⟨by omega,by omega,h2⟩
  ·have h1:(allN N).countP (fun n=>decide (n ≠ c)) = N - 1:=by
    obtain ⟨k,rfl⟩:=Int.eq_ofNat_of_zero_le hc.1
    have h2:(allN N).countP (fun n=>decide (n = (k:Int))) = 1:=by
     unfold allN;rw [List.countP_map]
     have:((fun n:Int=>decide (n = (k:Int))) ∘ fun (i:Nat)=>(i:Int)) = fun i=>i == k:=by
      funext i
      by_cases e:i = k
      ·subst e;simp
      ·show decide ((i:Int) = (k:Int)) = (i == k);rw [decide_eq_false (show ¬ ((i:Int) = (k:Int)) from fun h=>e (Int.ofNat.inj h)),beq_eq_false_iff_ne.2 e]
     rw [this]
     have h3:(List.range N).count k = 1:=by
      have h6:=(List.nodup_range (n:=N)).count (a:=k);rw [h6,if_pos (List.mem_range.2 (by have:=hc.2;omega))]
     exact h3
    have h4:=List.length_eq_countP_add_countP (p:=fun n:Int=>decide (n = (k:Int))) (l:=allN N);have h5:(allN N).length = N:=by unfold allN;simp
    have h6:(fun n:Int=>decide (¬ (decide (n = (k:Int))) = true)) = fun n:Int=>decide (n ≠ (k:Int)):=by
     funext n;simp
    rw [h6] at h4;omega
   rw [<- h1,List.countP_eq_length_filter]
 refine h _ hm ?_;unfold winB;rw [all_refuted hc hs hS (fun n h1 h2 h3=>List.mem_filter.2 ⟨mem_allN.2 ⟨h1,h2⟩,by simpa using h3⟩) (fun h=>by simpa using (List.mem_filter.1 h).2)];rfl
theorem few_bound (hc:0 <= c /\ c < N) (hs:(c,c) ∉ S) (hS:∀ s ∈ S,0 <= s.1 /\ s.1 < N) {m:Nat} (h:∀ j,j < m -> tryW S N c N 0 j [] = none):m < N:=by
 by_cases e:m < N
 ·exact e
 ·exact absurd (h (N - 1) (by omega)) (try_all hc hs hS)
theorem FewIs.facts {L:List Int} (h:FewIs S N c L):(L.Pairwise (· < ·) /\ (∀ x ∈ L,0 <= x /\ x < N /\ x ≠ c)) /\ winB S N c L = true /\ ∀ l:List Int,l.Pairwise (· < ·) -> (∀ x ∈ l,0 <= x /\ x < N /\ x ≠ c) -> winB S N c l = true -> L.length <= l.length:=by
 obtain ⟨m,h1,h2⟩:=h;unfold tryW at h1;have hm:=List.mem_of_find?_eq_some h1;obtain ⟨t,ht,h3,h4,h5⟩:=(mem_combos N 0 m [] L).1 hm;rw [List.nil_append] at ht;subst ht;refine ⟨⟨h3,fun x hx=>?_⟩,List.find?_some h1,fun l hl hr hw=>?_⟩
 ·have:=h4 x hx;omega
 ·by_cases e:l.length < m
  ·have:=h2 l.length e;unfold tryW at this;rw [List.find?_eq_none] at this;exact absurd hw (this l ((mem_combos N 0 l.length [] l).2 ⟨l,(List.nil_append _).symm,hl,fun x hx=>by have:=hr x hx;omega,rfl⟩))
  ·omega
end
end Court
end
