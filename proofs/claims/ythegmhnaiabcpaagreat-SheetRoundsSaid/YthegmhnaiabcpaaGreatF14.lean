/- Own texts, merged: Re1 Rf1 Td0 Td Te Tf Ua. -/
import Derived.Test.YthegmhnaiabcpaaGreatF12
import Derived.Test.YthegmhnaiabcpaaGreatF13
set_option linter.unusedSimpArgs false
set_option linter.unusedVariables false
set_option linter.unnecessarySimpa false
section
/- Words: tables of numbers (rows that were appended),in memory of the call's own. -/
namespace Go.Proofs
open Go.RowKit
def RZ (W:World) (r m:Nat) (f:Nat -> Int):Prop:=∃ cs,Blk W r 3 cs /\ ∀ j,j < m -> cs[j]? = some (.int .i64 (f j))
section
variable {W W':World} {r m:Nat} {f:Nat -> Int}
theorem RZ.aft (h:RZ W r m f) (ha:Aft W W'):RZ W' r m f:=let ⟨cs,h1,h3⟩:=h;⟨cs,h1.aft ha,h3⟩
theorem RZ.lt (h:RZ W r m f):r < W.heap.size:=let ⟨_,h1,_⟩:=h;h1.lt
theorem RZ.far (h:RZ W r m f) {p:Addr} (hp:r ≠ p.block) (u:Value):RZ (W.setCell p u) r m f:=let ⟨cs,h1,h3⟩:=h;⟨cs,h1.far hp u,h3⟩
theorem RZ.cell (h:RZ W r m f) {j:Nat} (hj:j < m):W.cell? ⟨r,j,none⟩ = some (.int .i64 (f j)):=let ⟨_,h1,h3⟩:=h;(h1.cell j).trans (h3 j hj)
theorem RZ.frozen (h:RZ W r m f) (j:Nat):W.frozen? ⟨r,j,none⟩ = false:=let ⟨_,h1,_⟩:=h;h1.frozen j
theorem RZ.congr (h:RZ W r m f) {g:Nat -> Int} (hfg:∀ j,j < m -> f j = g j):RZ W r m g:=let ⟨cs,h1,h3⟩:=h;⟨cs,h1,fun j hj=>by rw [<- hfg j hj];exact h3 j hj⟩
theorem RZ.put (h:RZ W r m f) (k:Nat) (x:Int):RZ (W.setCell ⟨r,k,none⟩ (.int .i64 x)) r m fun j=>if j = k then x else f j:=by
 obtain ⟨cs,h1,h3⟩:=h;refine ⟨_,h1.store k _,fun j hj=>?_⟩;have hl:=(Array.getElem?_eq_some_iff.1 (h3 j hj)).1;by_cases e:j = k
 ·subst e;dsimp only;rw [if_pos rfl,Array.getElem?_setIfInBounds_self_of_lt hl]
 ·dsimp only;rw [if_neg e,Array.getElem?_setIfInBounds_ne (by omega)];exact h3 j hj
end
structure TabZ (w:World) (T n:Nat) (G C:Nat -> Nat) (V:Nat -> Nat -> Int) (W:World):Prop where
 aft:Aft w W
 ge:w.heap.size <= T
 top:∃ cs,Blk W T 58 cs /\ ∀ i,i < n -> cs[i]? = some (.slice (some ⟨G i,0,none⟩) n (C i))
 row:∀ i,i < n -> w.heap.size <= G i /\ G i ≠ T /\ RZ W (G i) n (V i)
 ne:∀ i j,i < n -> j < n -> i ≠ j -> G i ≠ G j
section
variable {w W W':World} {T n:Nat} {G C:Nat -> Nat} {V:Nat -> Nat -> Int}
theorem TabZ.later (h:TabZ w T n G C V W) (ha:Aft W W'):TabZ w T n G C V W' :=
 ⟨h.aft.trans ha,h.ge,let ⟨cs,h1,h2⟩:=h.top;⟨cs,h1.aft ha,h2⟩,fun i h1=>let ⟨a,b,c⟩:=h.row i h1;⟨a,b,c.aft ha⟩,h.ne⟩
theorem TabZ.base {w0:World} (h:TabZ w T n G C V W) (ha:Aft w0 w):TabZ w0 T n G C V W :=
 ⟨ha.trans h.aft,Nat.le_trans ha.size h.ge,h.top,fun i h1=>let ⟨a,b,c⟩:=h.row i h1;⟨Nat.le_trans ha.size a,b,c⟩,h.ne⟩
theorem TabZ.lt (h:TabZ w T n G C V W):T < W.heap.size:=let ⟨_,h1,_⟩:=h.top;h1.lt
theorem TabZ.tcell (h:TabZ w T n G C V W) {i:Nat} (h2:i < n):W.cell? ⟨T,i,none⟩ = some (.slice (some ⟨G i,0,none⟩) n (C i)):=let ⟨_,k1,k3⟩:=h.top;(k1.cell i).trans (k3 i h2)
theorem TabZ.cell (h:TabZ w T n G C V W) {i j:Nat} (h1:i < n) (h2:j < n):W.cell? ⟨G i,j,none⟩ = some (.int .i64 (V i j)):=(h.row i h1).2.2.cell h2
theorem TabZ.put (h:TabZ w T n G C V W) {a:Nat} (h2:a < n) (b:Nat) (x:Int):TabZ w T n G C (Sheet.putZ V a b x) (W.setCell ⟨G a,b,none⟩ (.int .i64 x)):=by
 obtain ⟨k1,k2,k3⟩:=h.row a h2;refine ⟨h.aft.then_setCell (p:=⟨G a,b,none⟩) k1 _,h.ge,let ⟨cs,j1,j2⟩:=h.top;⟨cs,j1.far (p:=⟨G a,b,none⟩) k2.symm _,j2⟩,fun i g2=>?_,h.ne⟩;obtain ⟨l1,l2,l3⟩:=h.row i g2;refine ⟨l1,l2,?_⟩;by_cases e:i = a
 ·subst e;refine (l3.put b x).congr fun j _=>?_
  unfold Sheet.putZ;by_cases e2:j = b
  ·rw [if_pos e2,if_pos ⟨rfl,e2⟩]
  ·rw [if_neg e2,if_neg fun e3=>e2 e3.2]
 ·refine (l3.far (p:=⟨G a,b,none⟩) (h.ne i a g2 h2 e) _).congr fun j _=>?_
  exact (if_neg fun e3=>e e3.1).symm
end
def rowsZ (V:Nat -> Nat -> Int) (k m:Nat):List (List Int):=(List.range k).map fun i=>(List.range m).map fun j=>V i j
theorem rowsZ_len (V:Nat -> Nat -> Int) (k m:Nat):(rowsZ V k m).length = k:=by unfold rowsZ;simp
theorem rowsZ_get (V:Nat -> Nat -> Int) {k m i:Nat} (h:i < (rowsZ V k m).length):(rowsZ V k m)[i] = (List.range m).map fun j=>V i j:=by simp [rowsZ]
theorem rowsZ_succ (V:Nat -> Nat -> Int) (i m:Nat):rowsZ V (i + 1) m = rowsZ V i m ++ [(List.range m).map fun k=>V i k]:=by
 unfold rowsZ;rw [List.range_succ,List.map_append];rfl
def blkOf:Value -> Nat | .slice (some a) _ _=>a.block | _=>0
def capOf:Value -> Nat | .slice _ _ c=>c | _=>0
theorem own_rz {w:World} {base:Nat} {v:Value} {n:Nat} {f:Nat -> Int} (h:w.ownsRow base 3 1 v n ((List.range n).map fun i=>Value.int .i64 (f i))) (hn:0 < n):v = .slice (some ⟨blkOf v,0,none⟩) n (capOf v) /\ base <= blkOf v /\ RZ w (blkOf v) n f /\ v.ownBlock = some (blkOf v):=by
 rcases h.2 with ⟨rfl,h0⟩ | ⟨g,cap,cur,rfl,hg,hh,hc,hm,hs',ht⟩
 ·omega
 ·refine ⟨rfl,hg,⟨cur,hh,fun i hi=>?_⟩,rfl⟩;have:=h.cells (g:=g) rfl i (.int .i64 (f i)) (by rw [List.getElem?_map,List.getElem?_range hi];rfl);rw [Addr.add_lit,Nat.zero_add] at this;rw [<- this];exact (Blk.cell hh i).symm
theorem own_tab {w W:World} {base:Nat} {v:Value} {vs:List Value} {n:Nat} {V:Nat -> Nat -> Int} (h:OwnLs W base v vs (rowsZ V n n)) (hn:0 < n) (hb:w.heap.size <= base) (ha:Aft w W):∃ T c G C,v = .slice (some ⟨T,0,none⟩) n c /\ TabZ w T n G C V W:=by
 have hlen:vs.length = n:=by rw [h.len,rowsZ_len]
 have hrow:∀ i,(hi:i < vs.length) -> vs[i] = .slice (some ⟨blkOf vs[i],0,none⟩) n (capOf vs[i]) /\ base <= blkOf vs[i] /\ RZ W (blkOf vs[i]) n (V i) /\ vs[i].ownBlock = some (blkOf vs[i]):=fun i hi=>by
  have hi':i < (rowsZ V n n).length:=by rw [rowsZ_len];omega
  have h1:=h.rows i hi' hi;rw [rowsZ_get V hi'] at h1;simp only [List.length_map,List.length_range,List.map_map] at h1;exact own_rz h1 hn
 have hg:∀ i,(hi:i < vs.length) -> vs.getD i undef = vs[i]:=fun i hi=>by rw [List.getD_eq_getElem?_getD,List.getElem?_eq_getElem hi];rfl
 rcases h.own.2 with ⟨rfl,h0⟩ | ⟨g,cap,cur,rfl,hbg,hh,hc,hm,hs',ht⟩
 ·rw [rowsZ_len] at h0;omega
 ·refine ⟨g,cap,fun i=>blkOf (vs.getD i undef),fun i=>capOf (vs.getD i undef),by rw [rowsZ_len],ha,by omega,⟨cur,hh,fun i hi=>?_⟩,fun i hi=>?_,fun i j hi hj hne=>?_⟩
  ·rw [hg i (by omega),<- (hrow i (by omega)).1];have:=h.own.cells (g:=g) rfl i vs[i] (by rw [List.getElem?_eq_getElem (by omega)]);rw [Addr.add_lit,Nat.zero_add] at this;rw [<- this];exact (Blk.cell hh i).symm
  ·rw [hg i (by omega)];obtain ⟨-,h2,h3,h4⟩:=hrow i (by omega);refine ⟨by omega,fun e=>?_,h3⟩;have h5:=(h.apart i (by omega) _ h4).1;exact h5 (by show some g = _;rw [e])
  ·rw [hg i (by omega),hg j (by omega)];obtain ⟨-,-,-,h4⟩:=hrow i (by omega);obtain ⟨-,-,-,h5⟩:=hrow j (by omega);have h6:=(h.apart i (by omega) _ h4).2 j (by omega) (Ne.symm hne);intro e;rw [h5,e] at h6;exact h6 rfl
end Go.Proofs
end
section
/- Words: rows that were made,and tables of such rows. -/
namespace Go.Proofs
open Go.RowKit
def rowX (n:Nat) (f:Nat -> Int):List Value:=(List.range n).map fun j=>Value.int .i64 (f j)
def RX (W:World) (g n:Nat) (f:Nat -> Int):Prop:=Blk W g 3 (rowX n f).toArray
section
variable {W W':World} {g n:Nat} {f:Nat -> Int}
theorem RX.aft (h:RX W g n f) (ha:Aft W W'):RX W' g n f:=Blk.aft h ha
theorem RX.lt (h:RX W g n f):g < W.heap.size:=Blk.lt h
theorem RX.frozen (h:RX W g n f) (j:Nat):W.frozen? ⟨g,j,none⟩ = false:=Blk.frozen h j
theorem RX.cell (h:RX W g n f) {j:Nat} (hj:j < n):W.cell? ⟨g,j,none⟩ = some (.int .i64 (f j)):=(Blk.cell h j).trans (by simp [rowX,hj])
theorem RX.put (h:RX W g n f) (a:Nat) (x:Int):RX (W.setCell ⟨g,a,none⟩ (.int .i64 x)) g n (Sheet.putR f a x):=by
 have h1:=Blk.store h a (.int .i64 x)
 have e:(rowX n f).toArray.setIfInBounds a (.int .i64 x) = (rowX n (Sheet.putR f a x)).toArray:=by
  rw [List.setIfInBounds_toArray]
  congr 1
  refine List.ext_getElem (by simp [rowX]) fun i h1 h2=>?_
  rw [List.getElem_set];simp only [rowX,List.getElem_map,List.getElem_range];unfold Sheet.putR;by_cases e:a = i
  ·subst e;rw [if_pos rfl,if_pos rfl]
  ·rw [if_neg e,if_neg (Ne.symm e)]
 rw [e] at h1;exact h1
theorem RX.congr (h:RX W g n f) {f':Nat -> Int} (he:∀ j,j < n -> f j = f' j):RX W g n f':=by
 have e:rowX n f = rowX n f':=List.map_congr_left fun j hj=>by rw [he j (List.mem_range.1 hj)]
 unfold RX at h ⊢;rw [<- e];exact h
theorem RX.own (h:RX W g n f) {base:Nat} (hb:base <= g) (hn:n <= 12):W.ownsRow base 3 1 (.slice (some ⟨g,0,none⟩) n n) ((List.range n).map f).length (((List.range n).map f).map (Value.int .i64)):=by
 simp only [List.length_map,List.length_range,List.map_map];exact ⟨by simp,.inr ⟨g,n,_,rfl,hb,h,Nat.le_refl _,by unfold maxLen;omega,by simp [rowX],by show List.take (n * 1) (rowX n f) = _;rw [List.take_of_length_le (by simp [rowX])];rfl⟩⟩
end
theorem rx_made (w:World) (N:Nat) (hN:N <= 1000):∃ cs,(Instr.makeSlice 58 (.int .i64 N) (.int .i64 N)).run Tryz.prog w = .ok (.slice (some ⟨w.heap.size,0,none⟩) N N) (w.alloc (.cells cs 3)) /\ RX (w.alloc (.cells cs 3)) w.heap.size N fun _=>0:=by
 obtain ⟨ht,⟨i,z,hi,hz,hsize,hby,hzs⟩,hsz⟩:=ty24;have hzz:(Tryz.prog.info? 3).bind (·.zero) = some (.int .i64 0):=by kernel_rfl
 rw [hi] at hzz;have hzz:i.zero = some (.int .i64 0):=hzz;rw [hz] at hzz;cases hzz;have h:=run_makeSlice (P:=Tryz.prog) (w:=w) 58 3 i (.int .i64 0) ht hi hz .i64 .i64 N N (by omega) (Int.le_refl _) (by rw [hsize];simp;omega) (by rw [hby];omega) (by omega);rw [Int.toNat_natCast,hsize] at h;refine ⟨_,h,?_⟩
 have e:Go.madeCells #[Value.int .i64 0] (N * 1) = (rowX N fun _=>0).toArray:=by
  refine Array.ext (by simp [Go.madeCells,rowX]) fun j h1 h2=>?_
  simp [Go.madeCells,rowX,Nat.mod_one]
 show Blk _ _ 3 _;rw [<- e];exact Blk.new _ _ _
theorem own_first {W:World} {base t0 g0 n:Nat} {f:Nat -> Int} (ht:Blk W t0 58 #[.slice (some ⟨g0,0,none⟩) n n]) (hg:RX W g0 n f) (hne:g0 ≠ t0) (hb:base <= g0) (hb2:base <= t0) (hn:n <= 12) :
  OwnLs W base (.slice (some ⟨t0,0,none⟩) 1 1) [.slice (some ⟨g0,0,none⟩) n n] [(List.range n).map f]:=by
 refine ⟨⟨rfl,.inr ⟨t0,1,_,rfl,hb2,ht,Nat.le_refl _,by unfold maxLen;omega,rfl,rfl⟩⟩,fun i h h'=>?_,fun i h g hgi=>?_⟩
 ·have:i = 0:=by simp at h;omega
  subst this;exact hg.own hb hn
 ·have:i = 0:=by simp at h;omega
  subst this;have e:some g0 = some g:=hgi;cases e;exact ⟨fun e2=>hne (by have e2:some t0 = some g0:=e2;cases e2;rfl),fun j hj hne2=>absurd (show j = 0 by simp at hj;omega) hne2⟩
structure TabR (T R n:Nat) (G C:Nat -> Nat) (V:Nat -> Nat -> Int) (W:World):Prop where
 top:∃ cs,Blk W T 58 cs /\ ∀ i,i < R -> cs[i]? = some (.slice (some ⟨G i,0,none⟩) n (C i))
 row:∀ i,i < R -> RZ W (G i) n (V i)
section
variable {W W':World} {T R n:Nat} {G C:Nat -> Nat} {V:Nat -> Nat -> Int}
theorem TabR.aft (h:TabR T R n G C V W) (ha:Aft W W'):TabR T R n G C V W':=⟨let ⟨cs,h1,h2⟩:=h.top;⟨cs,h1.aft ha,h2⟩,fun i hi=>(h.row i hi).aft ha⟩
theorem TabR.lt (h:TabR T R n G C V W):T < W.heap.size:=let ⟨_,h1,_⟩:=h.top;h1.lt
theorem TabR.tcell (h:TabR T R n G C V W) {i:Nat} (h2:i < R):W.cell? ⟨T,i,none⟩ = some (.slice (some ⟨G i,0,none⟩) n (C i)):=let ⟨_,k1,k3⟩:=h.top;(k1.cell i).trans (k3 i h2)
theorem TabR.cell (h:TabR T R n G C V W) {i j:Nat} (h1:i < R) (h2:j < n):W.cell? ⟨G i,j,none⟩ = some (.int .i64 (V i j)):=(h.row i h1).cell h2
end
theorem own_tabR {W:World} {base:Nat} {v:Value} {vs:List Value} {R n:Nat} {V:Nat -> Nat -> Int} (h:OwnLs W base v vs (rowsZ V R n)) (hn:0 < n) (hR:0 < R):∃ T c G C,v = .slice (some ⟨T,0,none⟩) R c /\ TabR T R n G C V W:=by
 have hlen:vs.length = R:=by rw [h.len,rowsZ_len]
 have hrow:∀ i,(hi:i < vs.length) -> vs[i] = .slice (some ⟨blkOf vs[i],0,none⟩) n (capOf vs[i]) /\ base <= blkOf vs[i] /\ RZ W (blkOf vs[i]) n (V i) /\ vs[i].ownBlock = some (blkOf vs[i]):=fun i hi=>by
  have hi':i < (rowsZ V R n).length:=by rw [rowsZ_len];omega
  have h1:=h.rows i hi' hi;rw [rowsZ_get V hi'] at h1;simp only [List.length_map,List.length_range,List.map_map] at h1;exact own_rz h1 hn
 have hg:∀ i,(hi:i < vs.length) -> vs.getD i undef = vs[i]:=fun i hi=>by rw [List.getD_eq_getElem?_getD,List.getElem?_eq_getElem hi];rfl
 rcases h.own.2 with ⟨rfl,h0⟩ | ⟨g,cap,cur,rfl,hbg,hh,hc,hm,hs',ht⟩
 ·rw [rowsZ_len] at h0;omega
 ·refine ⟨g,cap,fun i=>blkOf (vs.getD i undef),fun i=>capOf (vs.getD i undef),by rw [rowsZ_len],⟨cur,hh,fun i hi=>?_⟩,fun i hi=>?_⟩
  ·rw [hg i (by omega),<- (hrow i (by omega)).1];have:=h.own.cells (g:=g) rfl i vs[i] (by rw [List.getElem?_eq_getElem (by omega)]);rw [Addr.add_lit,Nat.zero_add] at this;rw [<- this];exact (Blk.cell hh i).symm
  ·rw [hg i (by omega)];exact (hrow i (by omega)).2.2.1
theorem low_bd {n d B:Int} (hd:0 < d) (hn:-B <= n /\ n <= B):(-B <= (Sheet.low n d).1 /\ (Sheet.low n d).1 <= B) /\ 0 <= (Sheet.low n d).2 /\ (Sheet.low n d).2 <= d:=by
 obtain ⟨g,g0,e1,e2,d0,hg⟩:=Sheet.low_facts n d hd;generalize Sheet.low n d = r at *
 have h1:r.2 <= d:=by
  rw [e2];have:=Int.mul_le_mul_of_nonneg_left (show (1:Int) <= g by omega) (Int.le_of_lt d0);omega
 refine ⟨?_,Int.le_of_lt d0,h1⟩;by_cases e:0 <= r.1
 ·have:=Int.mul_le_mul_of_nonneg_left (show (1:Int) <= g by omega) e;omega
 ·have:=Int.mul_le_mul_of_nonneg_left (show (1:Int) <= g by omega) (show 0 <= -r.1 by omega);rw [Int.neg_mul,Int.neg_mul] at this;omega
theorem prodb {x y:Int} (h1:-24000000 <= x) (h2:x <= 24000000) (h3:0 <= y) (h4:y <= 12):-9223372036854775808 <= x * y /\ x * y <= 9223372036854775807:=by
 have a1:=Int.mul_le_mul_of_nonneg_right h2 h3;have a2:=Int.mul_le_mul_of_nonneg_right h1 h3;omega
theorem wg_fwd {J:List Sheet.Jo} {j an bn:Nat} {nw:Int} (h:Sheet.jo J j = (an,bn,nw)) (P f:Nat -> Int):Sheet.wg1 J P (j,false) f = if -1000000000000000000 < P an then Sheet.putR f bn (Sheet.mx (f bn) (P an + nw)) else f:=by
 unfold Sheet.wg1 Sheet.from_ Sheet.into Sheet.num;rw [h];rfl
theorem wg_back {J:List Sheet.Jo} {j an bn:Nat} {nw:Int} (h:Sheet.jo J j = (an,bn,nw)) (P f:Nat -> Int):Sheet.wg1 J P (j,true) f = if -1000000000000000000 < P bn then Sheet.putR f an (Sheet.mx (f an) (P bn - nw)) else f:=by
 unfold Sheet.wg1 Sheet.from_ Sheet.into Sheet.num;rw [h];rfl
end Go.Proofs
end
section
/- Shifts: what is plain of it. -/
namespace Go.Proofs
theorem most_up {E:List Sheet.Edge} {p q p' q':Int} (h:Sheet.AtMost E p q) (hq:0 < q) (hq':0 <= q') (hle:p * q' <= p' * q):Sheet.AtMost E p' q':=by
 intro a k s hw hk;have h1:=h a k s hw hk;have h2:q' * (q * s) <= q' * (p * k):=Int.mul_le_mul_of_nonneg_left h1 hq';have h3:(p * q') * k <= (p' * q) * k:=Int.mul_le_mul_of_nonneg_right hle (by omega);have e1:q' * (p * k) = (p * q') * k:=by rw [<- Int.mul_assoc,Int.mul_comm q' p]
 have e2:(p' * q) * k = q * (p' * k):=by rw [Int.mul_comm p' q,Int.mul_assoc]
 have e3:q' * (q * s) = q * (q' * s):=Int.mul_left_comm _ _ _;have h4:q * (q' * s) <= q * (p' * k):=by rw [<- e3,<- e2];omega
 exact Int.le_of_mul_le_mul_left h4 hq
theorem gr2_cases (a b:Int × Int):(gr2 a b = b /\ a.1 * b.2 < b.1 * a.2) \/ (gr2 a b = a /\ b.1 * a.2 <= a.1 * b.2):=by
 unfold gr2 moreB;by_cases h:a.1 * b.2 < b.1 * a.2
 ·exact .inl ⟨by rw [if_pos (by simpa using h)],h⟩
 ·exact .inr ⟨by rw [if_neg (by simpa using h)],by omega⟩
theorem PlayOf.parts {S:SetL} {p:Int × Int} (h:PlayOf S p):∃ p0 p1,LP S false p0 /\ LP S true p1 /\ p = gr2 (gr2 (0,1) p0) p1:=by
 rcases h with ⟨h,_⟩ | ⟨h,_⟩ | ⟨_,h⟩
 ·cases h
 ·cases h
 ·exact h
theorem gr2_most {E:List Sheet.Edge} {a b:Int × Int} (h:Sheet.AtMost E a.1 a.2) (ha:0 < a.2) (hb:0 < b.2):Sheet.AtMost E (gr2 a b).1 (gr2 a b).2:=by
 rcases gr2_cases a b with ⟨e,h1⟩ | ⟨e,h1⟩ <;> rw [e]
 ·exact most_up h ha (by omega) (by omega)
 ·exact h
theorem gr2_most' {E:List Sheet.Edge} {a b:Int × Int} (h:Sheet.AtMost E b.1 b.2) (ha:0 < a.2) (hb:0 < b.2):Sheet.AtMost E (gr2 a b).1 (gr2 a b).2:=by
 rcases gr2_cases a b with ⟨e,h1⟩ | ⟨e,h1⟩ <;> rw [e]
 ·exact h
 ·exact most_up h hb (by omega) h1
theorem gr2_pos {a b:Int × Int} (ha:0 < a.2) (hb:0 < b.2):0 < (gr2 a b).2:=by
 rcases gr2_cases a b with ⟨e,_⟩ | ⟨e,_⟩ <;> rw [e] <;> assumption
theorem PlayOf.most {S:SetL} {p:Int × Int} (h:PlayOf S p) (north:Bool):Sheet.AtMost (Sheet.legs (joOf north S.J)) p.1 p.2:=by
 obtain ⟨p0,p1,h0,h1,rfl⟩:=h.parts;have q0:=h0.least.q0;have q1:=h1.least.q0;have q:(0:Int) < ((0,1):Int × Int).2:=by decide
 cases north
 ·exact gr2_most (gr2_most' h0.least.most q q0) (gr2_pos q q0) q1
 ·exact gr2_most' h1.least.most (gr2_pos q q0) q1
theorem PlayOf.ok {S:SetL} {p:Int × Int} (h:PlayOf S p):PlayOk p.1 p.2:=by
 obtain ⟨p0,p1,h0,h1,rfl⟩:=h.parts
 have k:∀ {n q},LP S n q -> 1 <= q.2 /\ q.2 <= 1000 /\ 0 <= q.1 /\ q.1 <= 1000000000:=fun h=>by
  have:=h.least.q0;have:=h.least.p0;have:=h.n1;have:=h.d1;omega
 have k0:=k h0;have k1:=k h1
 have g:∀ a b:Int × Int,(1 <= a.2 /\ a.2 <= 1000 /\ 0 <= a.1 /\ a.1 <= 1000000000) -> (1 <= b.2 /\ b.2 <= 1000 /\ 0 <= b.1 /\ b.1 <= 1000000000) -> (1 <= (gr2 a b).2 /\ (gr2 a b).2 <= 1000 /\ 0 <= (gr2 a b).1 /\ (gr2 a b).1 <= 1000000000):=fun a b ha hb=>by
  rcases gr2_cases a b with ⟨e,_⟩ | ⟨e,_⟩ <;> rw [e] <;> assumption
 have r:=g _ _ (g (0,1) p0 ⟨by decide,by decide,by decide,by decide⟩ k0) k1;exact ⟨r.1,r.2.1,r.2.2.1,r.2.2.2⟩
section
variable {W W':World} {g n:Nat} {q:Nat -> Q4}
end
end Go.Proofs
end
section
/- Walks: Shifts. -/
namespace Go.Proofs
open Go.RowKit
attribute [local go_sem] Oper.semAt_some
attribute [local go_sem ↓] build124
section
variable {w W1 W W':World} {d z g gs n:Nat} {S:SetL} {A:Option Addr} {c:Nat} {p:Int × Int} {f:Nat -> Nat} {ap:Nat -> Int} {bf:Nat -> Nat × Bool} {q:Nat -> Q4}
end
structure Bx1 (W0:World) (ix tm:Nat) (done:Nat -> Bool) (a:Act) (W:World):Prop where
 aft:Aft W0 W
 s:done ix = true -> ∃ b,a.eval (.tmp tm) = .pointer (some ⟨b,0,none⟩) /\ W0.heap.size <= b /\ Blk W b 29 #[.int .i64 0,.int .i64 0]
section
variable {W0 W W':World} {ix tm:Nat} {done:Nat -> Bool} {a:Act}
theorem Bx1.start:Bx1 W0 ix tm (fun _=>false) a W0.drew:=⟨Aft.drew _,(fun h=>by cases h)⟩
theorem Bx1.keep (h:Bx1 W0 ix tm done a W) (ha:Aft W W') {i:Nat} {dst:Option Tmp} {v:Value} (hi:i ≠ ix) (hd:dst ≠ some tm):Bx1 W0 ix tm (Go.upd done i) (a.put dst v) W':=by
 refine ⟨h.aft.trans ha,fun p=>?_⟩;rw [upd_ne' (Ne.symm hi)] at p;obtain ⟨b,e,h1,h2⟩:=h.s p;exact ⟨b,by rw [evne hd];exact e,h1,h2.aft ha⟩
theorem Bx1.step (h:Bx1 W0 ix tm done a W) (hz:tm < a.tmps.size):Bx1 W0 ix tm (Go.upd done ix) (a.put (some tm) (.pointer (some ⟨W.heap.size,0,none⟩))) (W.alloc (.cells #[.int .i64 0,.int .i64 0] 29)) :=
 ⟨h.aft.then_alloc _,fun _=>⟨W.heap.size,Act.eval_put_same _ _ _ hz,h.aft.size,Blk.new _ _ _⟩⟩
end
end Go.Proofs
end
section
/- Walks: asked. -/
namespace Go.Proofs
open Go.RowKit
attribute [local go_sem] Oper.semAt_some
def markB (m:Int × Int):Bool:=fromB m.1 (-1000000) 1000000 && fromB m.2 0 20
def OrdTo (l:List (Int × Int)) (k:Nat):Prop:=∀ i,1 <= i -> i < k -> i < l.length -> (l.getD (i - 1) (0,0)).1 < (l.getD i (0,0)).1
instance (l:List (Int × Int)):Decidable (OrdTo l l.length):=Nat.decidableBallLT l.length (fun i _=>1 <= i -> i < l.length -> (l.getD (i - 1) (0,0)).1 < (l.getD i (0,0)).1) |> fun d=>decidable_of_iff _ (show (∀ i,(h:i < l.length) -> 1 <= i -> i < l.length -> (l.getD (i - 1) (0,0)).1 < (l.getD i (0,0)).1) ↔ OrdTo l l.length from ⟨fun h i h1 h2 h3=>h i h2 h1 h3,fun h i h2 h1 h3=>h i h1 h2 h3⟩)
def ordB (l:List (Int × Int)):Bool:=decide (OrdTo l l.length)
def edgesE (a b:List (Int × Int)) (play:Int):Int :=
 if 30 < a.length \/ 30 < b.length then 3 else if a.all markB = false \/ b.all markB = false \/ fromB play 0 1000000 = false then 4 else if ordB a = false \/ ordB b = false then 5 else 0
theorem mark_any (m:Int × Int) (w:World):Calls Tryz.prog 109 #[.agg #[.int .i64 m.1,.int .i64 m.2]] w fun e w'=>e = .returned (.bool (markB m)) /\ Aft w w':=by
 obtain ⟨x,y⟩:=m;unfold markB;dsimp only;go_enter Tryz.func109,Tryz.ntmps109;cases h1:fromB x (-1000000) 1000000
 ·have H1:=Lib.hid h1;clear h1;go_wp2_with (go_at_call 33;refine (in_any _ _ _ _).mono ?_;rintro e w' ⟨rfl,rfl⟩;rw [H1.out])
  go_ret;exact ⟨rfl,Aft.alloc _ _⟩
 ·have H1:=Lib.hid h1;clear h1;go_wp2_with (first | (go_at_call_of 33 (Value.int IntKind.i64 x);refine (in_any _ _ _ _).mono ?_;rintro e w' ⟨rfl,rfl⟩;rw [H1.out]) | (go_at_call_of 33 (Value.int IntKind.i64 y);refine (in_any _ _ _ _).mono ?_;rintro e w' ⟨rfl,rfl⟩))
  go_ret;exact ⟨rfl,Aft.alloc _ _⟩
theorem runs_89 (args:Array Value) (w:World):(callFunc 109 args).run Tryz.prog w = .ok (.enter 109 args) w:=by simp [go_sem]
theorem every_mark (L:List (Int × Int)) (A:Option Addr) (c:Nat) (w:World) (hA:Prs w A L) :
  Calls Tryz.prog 110 #[.slice A L.length c,.func (.func 109) #[] #[]] w fun e w'=>e = .returned (.bool (L.all markB)) /\ Aft w w' :=
 everyMark (FlatR enc2) FlatR.mono 109 [] markB A L c w hA runs_89 fun x _ W ha v0 v1 hv u=>by
  unfold FlatR enc2 at hv;cases hv;exact mark_any x _
set_option maxRecDepth 100000 in
set_option maxHeartbeats 4000000 in
theorem asked_count (a b:List (Int × Int)) (play:Int) (A B:Option Addr) (ca cb:Nat) (w:World) (h:30 < a.length \/ 30 < b.length) :
  Calls Tryz.prog 80 #[.slice A a.length ca,.slice B b.length cb,.int .i64 play] w fun e w'=>e = .returned (.tuple #[.pointer none,.int .i64 3]) /\ Aft w w':=by
 go_enter Tryz.func80,Tryz.ntmps80;by_cases h1:30 < a.length
 ·have t1:decide (30 < a.length) = true:=by simpa using h1
  clear h;go_wp2_with fail
  exact bodyPost_ret (v:=.tuple #[.pointer none,.int .i64 3]) (by simp [results,Tryz.results80,go_sem]) rfl ⟨rfl,Aft.refl _⟩
 ·have t1:decide (30 < a.length) = false:=by simpa using h1
  have h2:30 < b.length:=h.resolve_left h1;have t2:decide (30 < b.length) = true:=by simpa using h2
  clear h;go_wp2_with fail
  exact bodyPost_ret (v:=.tuple #[.pointer none,.int .i64 3]) (by simp [results,Tryz.results80,go_sem]) rfl ⟨rfl,Aft.refl _⟩
set_option maxRecDepth 100000 in
set_option maxHeartbeats 4000000 in
theorem asked_value (a b:List (Int × Int)) (play:Int) (A B:Option Addr) (ca cb:Nat) (w:World) (hA:Prs w A a) (hB:Prs w B b) (ha:a.length <= 30) (hb:b.length <= 30) (h:a.all markB = false \/ b.all markB = false \/ fromB play 0 1000000 = false) :
  Calls Tryz.prog 80 #[.slice A a.length ca,.slice B b.length cb,.int .i64 play] w fun e w'=>e = .returned (.tuple #[.pointer none,.int .i64 4]) /\ Aft w w':=by
 have t1:decide (30 < a.length) = false:=by simpa using ha
 have t2:decide (30 < b.length) = false:=by simpa using hb
 have HEA:=Lib.hid (every_mark a A ca w hA);have HEB:=Lib.hid fun W (h:Aft w W)=>every_mark b B cb W (hB.aft h)
 clear hA hB;by_cases h1:a.all markB = false
 ·rw [h1] at HEA;clear h h1;go_enter Tryz.func80,Tryz.ntmps80;go_wp2_with (go_at_call 110;refine HEA.out.mono ?_;rintro e w2 ⟨rfl,u,rfl⟩)
  exact bodyPost_ret (v:=.tuple #[.pointer none,.int .i64 4]) (by simp [results,Tryz.results80,go_sem]) rfl ⟨rfl,Aft.lat _ u⟩
 ·have h1':a.all markB = true:=by simpa using h1
  rw [h1'] at HEA;by_cases h2:b.all markB = false
  ·rw [h2] at HEB;clear h h1 h1' h2;go_enter Tryz.func80,Tryz.ntmps80;go_upto_region 5 with (first | (go_at_call 110;refine (HEA.out).mono ?_;rintro e w2 ⟨rfl,u,rfl⟩) | (go_at_call 110;refine (HEB.out _ (Aft.lat _ u)).mono ?_;rintro e w2 ⟨rfl,u2,rfl⟩))
   go_wp2_with fail
   exact bodyPost_ret (v:=.tuple #[.pointer none,.int .i64 4]) (by simp [results,Tryz.results80,go_sem]) rfl ⟨rfl,(Aft.lat _ u).then_lat u2⟩
  ·have h2':b.all markB = true:=by simpa using h2
   have h3:fromB play 0 1000000 = false:=(h.resolve_left h1).resolve_left h2;have H3:=Lib.hid h3;rw [h2'] at HEB;clear h h1 h1' h2 h2' h3;go_enter Tryz.func80,Tryz.ntmps80;go_upto_region 5 with (first | (go_at_call 110;refine (HEA.out).mono ?_;rintro e w2 ⟨rfl,u,rfl⟩) | (go_at_call 110;refine (HEB.out _ (Aft.lat _ u)).mono ?_;rintro e w2 ⟨rfl,u2,rfl⟩) | (go_at_call 33;refine (in_any _ _ _ _).mono ?_;rintro e w' ⟨rfl,rfl⟩;rw [H3.out]))
   go_wp2_with fail
   exact bodyPost_ret (v:=.tuple #[.pointer none,.int .i64 4]) (by simp [results,Tryz.results80,go_sem]) rfl ⟨rfl,(Aft.lat _ u).then_lat u2⟩
theorem OrdTo.all {l:List (Int × Int)} {k:Nat} (h:OrdTo l k) (hk:l.length <= k):ordB l = true:=decide_eq_true fun i h1 h2 h3=>h i h1 (by omega) h3
theorem OrdTo.step {l:List (Int × Int)} {k:Nat} (h:OrdTo l k) (hk:(l.getD (k - 1) (0,0)).1 < (l.getD k (0,0)).1):OrdTo l (k + 1):=fun i h1 h2 h3=>by
 by_cases e:i = k
 ·subst e;exact hk
 ·exact h i h1 (by omega) h3
theorem not_ord {l:List (Int × Int)} {k:Nat} (h1:1 <= k) (hk:k < l.length) (h:¬ (l.getD (k - 1) (0,0)).1 < (l.getD k (0,0)).1):ordB l = false:=decide_eq_false fun h2=>h (h2 k h1 hk hk)
def EdgesAt (w0 w:World) (x:Nat) (a b:List (Int × Int)) (play:Int) (A B:Option Addr) (ca cb:Nat):Prop :=
 Blk w x 184 #[.slice A a.length ca,.slice B b.length cb,.int .i64 play] /\ w0.heap.size <= x /\ Aft w0 w /\ Prs w A a /\ Prs w B b
def AskedR (a b:List (Int × Int)) (play:Int) (A B:Option Addr) (ca cb:Nat) (w:World) (e:Ending) (w':World):Prop :=
 ((ordB a = false \/ ordB b = false) /\ e = .returned (.tuple #[.pointer none,.int .i64 5]) /\ Aft w w') \/
 (ordB a = true /\ ordB b = true /\ ∃ x,e = .returned (.tuple #[.pointer (some ⟨x,0,none⟩),.int .i64 0]) /\ EdgesAt w w' x a b play A B ca cb)
set_option maxRecDepth 100000 in
set_option maxHeartbeats 4000000 in
theorem asked_loop (a b:List (Int × Int)) (play:Int) (A B:Option Addr) (ca cb:Nat) (w:World) (hA:Prs w A a) (hB:Prs w B b) (ha:a.length <= 30) (hb:b.length <= 30) (h1:a.all markB = true) (h2:b.all markB = true) (h3:fromB play 0 1000000 = true) :
  Calls Tryz.prog 80 #[.slice A a.length ca,.slice B b.length cb,.int .i64 play] w (AskedR a b play A B ca cb w):=by
 have t1:decide (30 < a.length) = false:=by simpa using ha
 have t2:decide (30 < b.length) = false:=by simpa using hb
 have HEA:=Lib.hid (every_mark a A ca w hA);have HEB:=Lib.hid fun W (h:Aft w W)=>every_mark b B cb W (hB.aft h)
 rw [h1] at HEA;rw [h2] at HEB;have H3:=Lib.hid h3;have HA:=Lib.hid hA;have HB:=Lib.hid hB;clear hA hB h1 h2 h3;go_enter Tryz.func80,Tryz.ntmps80;go_upto_region 6 with (first | (go_at_call 110;refine (HEA.out).mono ?_;rintro e w2 ⟨rfl,u,rfl⟩) | (go_at_call 110;refine (HEB.out _ (Aft.lat _ u)).mono ?_;rintro e w2 ⟨rfl,u2,rfl⟩) | (go_at_call 33;refine (in_any _ _ _ _).mono ?_;rintro e w' ⟨rfl,rfl⟩;rw [H3.out]))
 have HW1:=Lib.hid (Aft.lat w (u.trans u2));generalize w.lat (u.trans u2) = W1 at *;clear HEA HEB t1 t2;obtain ⟨gb,hgb⟩:∃ gb,W1.heap.size = gb:=⟨_,rfl⟩;have HG:=Lib.hid hgb;have HB2:Hid (Blk (W1.alloc (.cells #[.slice A a.length ca,.slice B b.length cb] 63)) gb 63 #[.slice A a.length ca,.slice B b.length cb]):=Lib.hid (by rw [<- hgb];exact Blk.new _ _ _);have HW2:=Lib.hid (HW1.out.then_alloc (.cells #[.slice A a.length ca,.slice B b.length cb] 63));clear hgb;go_upto_block 1 with fail
 try rw [HG.out]
 clear HG HW1;generalize W1.alloc (.cells #[.slice A a.length ca,.slice B b.length cb] 63) = W2 at *;refine wp_block ?_;go_loopw [41] (fun i wr=>∃ j:Nat,i = .int .i64 (j:Nat) /\ j <= 2 /\ (1 <= j -> ordB a = true) /\ (2 <= j -> ordB b = true) /\ Aft W2 wr) (fun i _=>2 - (intOf i).toNat)
 case atStart=>exact ⟨0,rfl,by omega,fun h=>absurd h (by omega),fun h=>absurd h (by omega),Aft.refl _⟩
 case round =>
  obtain ⟨j,rfl,hj,ho1,ho2,hI⟩:=hrel;have HI:=Lib.hid hI;have HO1:=Lib.hid ho1;have HO2:=Lib.hid ho2;clear hI ho1 ho2;by_cases hj2:j < 2
  ·have t1:decide (j < 2) = true:=by simpa using hj2
   have t1':decide ((j:Int) < 2) = true:=by simp;omega
   obtain ⟨L,AL,cL,y1,hP,hlen,hf,ht⟩:∃ L AL cL,wr.cell? ⟨gb,j,none⟩ = some (.slice AL (List.length L) cL) /\ Prs w AL L /\ L.length <= 30 /\ (ordB L = false -> ordB a = false \/ ordB b = false) /\ (ordB L = true -> (1 <= j + 1 -> ordB a = true) /\ (2 <= j + 1 -> ordB b = true)):=by
    have hbk:=HB2.out.aft HI.out
    match j,hj2 with
    | 0,_=>exact ⟨a,A,ca,hbk.cell 0,HA.out,ha,.inl,fun h=>⟨fun _=>h,fun h=>absurd h (by omega)⟩⟩
    | 1,_=>exact ⟨b,B,cb,hbk.cell 1,HB.out,hb,.inr,fun h=>⟨fun _=>HO1.out (by omega),fun _=>h⟩⟩
   have y2:=(HB2.out.aft HI.out).lt;have HP:=Lib.hid hP;have HF:=Lib.hid hf;have HT:=Lib.hid ht;have ij:(0:Int) <= (j:Int) /\ (j:Int) < 2:=by omega
   clear hP hf ht;go_upto_block 3 with fail
   clear y1 y2 t1 t1';refine wp_block ?_;go_loopw [11] (fun i wr'=>∃ k:Nat,i = .int .i64 ((k:Int) + 1) /\ k <= L.length /\ OrdTo L (k + 1) /\ Aft W2 wr') (fun i _=>L.length + 1 - (intOf i).toNat)
   case atStart=>exact ⟨0,rfl,by omega,fun i h1 h2 _=>absurd h1 (by omega),HI.out⟩
   case round =>
    obtain ⟨k,rfl,hk,hO,hI2⟩:=hrel;have HI2:=Lib.hid hI2;have HOR:=Lib.hid hO;clear hO hI2;by_cases hkl:k + 1 < L.length
    ·have t3:decide ((k:Int) + 1 < (L.length:Int)) = true:=by rw [decide_eq_true_eq];omega
     obtain ⟨b9,o9,rfl,hb9,hc⟩:=(HP.out.aft (HW2.out.trans HI2.out)).at hkl;have x0:=(hc k (by omega)).1;have x1:=(hc (k + 1) hkl).1;have hg0:(L.getD k (0,0)).1 = L[k].1:=by rw [List.getD_eq_getElem?_getD,List.getElem?_eq_getElem (by omega)];rfl
     have hg1:(L.getD (k + 1) (0,0)).1 = L[k + 1].1:=by rw [List.getD_eq_getElem?_getD,List.getElem?_eq_getElem hkl];rfl
     obtain ⟨v0,hv0⟩:∃ v,L[k].1 = v:=⟨_,rfl⟩;obtain ⟨v1,hv1⟩:∃ v,L[k + 1].1 = v:=⟨_,rfl⟩;rw [hv0] at x0 hg0;rw [hv1] at x1 hg1;have hk1:(k:Int) + 1 - 1 = (k:Int):=by omega
     have HST:Hid (v0 < v1 -> OrdTo L (k + 1 + 1)):=Lib.hid fun h=>HOR.out.step (by rw [Nat.add_sub_cancel,hg0,hg1];exact h)
     have HNO:Hid (¬ v0 < v1 -> ordB L = false):=Lib.hid fun h=>not_ord (k:=k + 1) (by omega) hkl (by rw [Nat.add_sub_cancel,hg0,hg1];exact h)
     clear hc hv0 hv1 hg0 hg1;go_upto_region 12 with fail
     go_quiet (fail);have ha6:=Lib.hid (HI2.out.then_drewN nq);generalize wr.drewN nq = W6 at *;clear x0 x1;go_wp2_with fail
     ·exact bodyPost_ret (v:=.tuple #[.pointer none,.int .i64 5]) (by simp [results,Tryz.results80,go_sem]) rfl (.inl ⟨HF.out (HNO.out (by omega)),rfl,HW2.out.trans ha6.out⟩)
     ·exact ⟨⟨k + 1,by go_num,by omega,HST.out (by omega),ha6.out⟩,by simp [intOf];omega⟩
    ·have t3:decide ((k:Int) + 1 < (L.length:Int)) = false:=by rw [decide_eq_false_iff_not];omega
     have HTT:=Lib.hid (HT.out (HOR.out.all (by omega)));go_wp2_with fail
     exact ⟨⟨j + 1,by go_num,by omega,HTT.out.1,HTT.out.2,HI2.out⟩,by simp [intOf];omega⟩
  ·have t1:decide (j < 2) = false:=by simpa using hj2
   have t1':decide ((j:Int) < 2) = false:=by simp;omega
   have HX:=Lib.hid (HW2.out.trans HI.out);have HOA:=Lib.hid (HO1.out (by omega));have HOB:=Lib.hid (HO2.out (by omega));go_wp2_with fail
   have h9:=HX.out.then_alloc (.cells #[.slice A a.length ca,.slice B b.length cb,.int .i64 play] 184);exact bodyPost_ret (v:=.tuple #[.pointer (some ⟨wr.heap.size,0,none⟩),.int .i64 0]) (by simp [results,Tryz.results80,go_sem]) rfl (.inr ⟨HOA.out,HOB.out,_,rfl,Blk.new _ _ _,HX.out.size,h9,HA.out.aft h9,HB.out.aft h9⟩)
end Go.Proofs
end
section
/- Walks: same. -/
namespace Go.Proofs
open Go.RowKit
attribute [local go_sem] Oper.semAt_some
def zer2:Array Value:=#[.int .i64 0,.int .i64 0]
def encM (p:Int × Int):Array Value:=#[.int .i64 p.1,.int .i64 p.2]
structure Am2 (W0:World) (sa:Int × Int) (done:Nat -> Bool) (a:Act) (W:World):Prop where
 aft:Aft W0 W
 late:done 18 = true -> done 16 = true
 x:done 16 = true -> ∃ b,a.eval (.tmp 5) = .pointer (some ⟨b,0,none⟩) /\ W0.heap.size <= b /\ Blk W b 76 (if done 18 = true then encM sa else zer2)
 y:done 17 = true -> ∃ b,a.eval (.tmp 6) = .pointer (some ⟨b,0,none⟩) /\ W0.heap.size <= b /\ Blk W b 76 zer2 /\ (done 16 = true -> a.eval (.tmp 5) ≠ .pointer (some ⟨b,0,none⟩))
section
variable {W0 W W':World} {sa:Int × Int} {done:Nat -> Bool} {a:Act}
theorem Am2.start:Am2 W0 sa (fun _=>false) a W0.drew:=⟨Aft.drew _,(fun h=>h),(fun h=>by cases h),(fun h=>by cases h)⟩
theorem Am2.keep (h:Am2 W0 sa done a W) {i:Nat} {dst:Option Tmp} {v:Value} (hi:i ≠ 16 /\ i ≠ 17 /\ i ≠ 18) (hd:dst ≠ some 5 /\ dst ≠ some 6):Am2 W0 sa (Go.upd done i) (a.put dst v) W:=by
 refine ⟨h.aft,fun p=>?_,fun p=>?_,fun p=>?_⟩
 ·rw [upd_ne' (Ne.symm hi.2.2)] at p;rw [upd_ne' (Ne.symm hi.1)];exact h.late p
 ·rw [upd_ne' (Ne.symm hi.1)] at p;rw [upd_ne' (Ne.symm hi.2.2)];obtain ⟨b,e,hs⟩:=h.x p;exact ⟨b,by rw [evne hd.1];exact e,hs⟩
 ·rw [upd_ne' (Ne.symm hi.2.1)] at p;rw [upd_ne' (Ne.symm hi.1)];obtain ⟨b,e,hs,ht,hu⟩:=h.y p;exact ⟨b,by rw [evne hd.2];exact e,hs,ht,by rw [evne hd.1];exact hu⟩
theorem Am2.step16 (h:Am2 W0 sa done a W) (hz:5 < a.tmps.size) (h10:done 16 = false):Am2 W0 sa (Go.upd done 16) (a.put (some 5) (.pointer (some ⟨W.heap.size,0,none⟩))) (W.alloc (.cells zer2 76)):=by
 have h12:done 18 = false:=by
  cases e:done 18
  ·rfl
  ·rw [h.late e] at h10;cases h10
 refine ⟨h.aft.then_alloc _,fun _=>upd_same' ..,fun p=>⟨W.heap.size,Act.eval_put_same _ _ _ hz,h.aft.size,by rw [upd_ne' (by decide),h12];exact Blk.new _ _ _⟩,fun p=>?_⟩;rw [upd_ne' (by decide)] at p;obtain ⟨b,e,hs,ht,hu⟩:=h.y p;refine ⟨b,by rw [evne (by decide)];exact e,hs,ht.alloc _,fun _=>?_⟩;rw [Act.eval_put_same _ _ _ hz];intro e2;have:=ht.lt;cases e2;omega
theorem Am2.step17 (h:Am2 W0 sa done a W) (hz:6 < a.tmps.size):Am2 W0 sa (Go.upd done 17) (a.put (some 6) (.pointer (some ⟨W.heap.size,0,none⟩))) (W.alloc (.cells zer2 76)):=by
 refine ⟨h.aft.then_alloc _,fun p=>?_,fun p=>?_,fun p=>⟨W.heap.size,Act.eval_put_same _ _ _ hz,h.aft.size,Blk.new _ _ _,fun p=>?_⟩⟩
 ·rw [upd_ne' (by decide)] at p;rw [upd_ne' (by decide)];exact h.late p
 ·rw [upd_ne' (by decide)] at p;obtain ⟨b,e,hs,ht⟩:=h.x p;exact ⟨b,by rw [evne (by decide)];exact e,hs,by rw [upd_ne' (by decide)];exact ht.alloc _⟩
 ·rw [upd_ne' (by decide)] at p;obtain ⟨b,e,hs,ht⟩:=h.x p;rw [evne (by decide),e];intro e2;have:=ht.lt;cases e2;omega
theorem Am2.step18 (h:Am2 W0 sa done a W) {b:Nat} (hb:a.eval (.tmp 5) = .pointer (some ⟨b,0,none⟩)) (h10:done 16 = true) (h12:done 18 = false) {dst:Option Tmp} {v:Value} (hd:dst = none) :
  Am2 W0 sa (Go.upd done 18) (a.put dst v) ((W.setCell ⟨b,0,none⟩ (.int .i64 sa.1)).setCell ⟨b,1,none⟩ (.int .i64 sa.2)):=by
 subst hd;obtain ⟨b',e,hs,ht⟩:=h.x h10;rw [hb] at e;cases e;rw [h12,if_neg (by decide)] at ht;refine ⟨(h.aft.then_setCell (p:=⟨b,0,none⟩) hs _).then_setCell (p:=⟨b,1,none⟩) hs _,fun _=>by rw [upd_ne' (by decide)];exact h10,fun p=>⟨b,hb,hs,?_⟩,fun p=>?_⟩
 ·rw [upd_same',if_pos rfl];exact (ht.store 0 _).store 1 _
 ·rw [upd_ne' (by decide)] at p;rw [upd_ne' (by decide)];obtain ⟨c,e,hs2,ht2,hu⟩:=h.y p;have hne:c ≠ b:=fun e2=>hu h10 (by rw [hb,e2])
  exact ⟨c,e,hs2,(ht2.far (p:=⟨b,0,none⟩) hne _).far (p:=⟨b,1,none⟩) hne _,hu⟩
end
def sameM (play:Int) (x y:Int × Int):Bool:=decide (x.2 = y.2) && (decide (x.1 - y.1 <= play) && decide (y.1 - x.1 <= play))
set_option maxRecDepth 100000 in
set_option maxHeartbeats 4000000 in
theorem same_any (la lb:List (Int × Int)) (play:Int) (A B:Option Addr) (ca cb x:Nat) (w0 w:World) (hE:EdgesAt w0 w x la lb play A B ca cb) (ix kx:Nat) (hi:ix < la.length) (hkx:kx < lb.length) (hma:markB la[ix] = true) (hmb:markB lb[kx] = true) :
  Calls Tryz.prog 87 #[.pointer (some ⟨x,0,none⟩),.agg #[.int .i64 (ix:Nat),.int .i64 (kx:Nat)]] w fun e w'=>e = .returned (.bool (sameM play la[ix] lb[kx])) /\ Aft w w':=by
 obtain ⟨hx,-,-,hA,hB⟩:=hE;have hAl:=hA.len;have hBl:=hB.len;obtain ⟨ba,oa,rfl,hba,hca⟩:=hA.at hi;obtain ⟨bb,ob,rfl,hbb,hcb⟩:=hB.at hkx;obtain ⟨a1,a2⟩:=hca ix hi;obtain ⟨b1,b2⟩:=hcb kx hkx;obtain ⟨⟨p1,p2⟩,hp⟩:∃ p,la[ix] = p:=⟨_,rfl⟩;obtain ⟨⟨q1,q2⟩,hq⟩:∃ p,lb[kx] = p:=⟨_,rfl⟩;rw [hp] at a1 a2 hma ⊢;rw [hq] at b1 b2 hmb ⊢;unfold markB at hma hmb;simp only [Bool.and_eq_true,fromB_iff] at hma hmb;dsimp only at a1 a2 b1 b2;obtain ⟨s,hs⟩:∃ s,w.heap.size = s:=⟨_,rfl⟩;obtain ⟨W1,hW1⟩:∃ W1,w.alloc (.cells #[.int .i64 (ix:Nat),.int .i64 (kx:Nat)] 67) = W1:=⟨_,rfl⟩;have ha1:=hW1 ▸ Aft.alloc w (.cells #[.int .i64 (ix:Nat),.int .i64 (kx:Nat)] 67);have HA1:=Lib.hid ha1;have HB1:Hid (Blk W1 s 67 #[.int .i64 (ix:Nat),.int .i64 (kx:Nat)]):=Lib.hid (by rw [<- hW1,<- hs];exact Blk.new w 67 _);have HX1:=Lib.hid (hx.aft ha1);have A1:=cellA a1 hba ha1;have A2:=cellA a2 hba ha1;have B1:=cellA b1 hbb ha1;have B2:=cellA b2 hbb ha1;have hba1:=Nat.lt_of_lt_of_le hba ha1.size;have hbb1:=Nat.lt_of_lt_of_le hbb ha1.size;have ii:(0:Int) <= (ix:Int) /\ (ix:Int) < (la.length:Int):=by omega
 have kk:(0:Int) <= (kx:Int) /\ (kx:Int) < (lb.length:Int):=by omega
 clear hca hcb hp hq a1 a2 b1 b2 ha1 hx hA hB hba hbb;go_enter Tryz.func87,Tryz.ntmps87;go_upto_region 1 with fail
 try rw [hW1]
 try rw [hs]
 clear hW1 hs;refine wp_region_valsU (by kernel_rfl) 19 46 rfl (by kernel_rfl) (by kernel_rfl) [some (.pointer (some ⟨x,0,none⟩)),some (.pointer (some ⟨x,0,none⟩)),some (.pointer (some ⟨x,0,none⟩)),some (.slice (some ⟨ba,oa,none⟩) la.length ca),some (.pointer (some ⟨s,0,none⟩)),some (.int .i64 (ix:Nat)),some (.pointer (some ⟨ba,oa + ix * 2,none⟩)),some (.agg #[.int .i64 p1,.int .i64 p2]),some (.pointer (some ⟨x,0,none⟩)),some (.pointer (some ⟨x,0,none⟩)),some (.pointer (some ⟨x,1,none⟩)),some (.slice (some ⟨bb,ob,none⟩) lb.length cb),some (.pointer (some ⟨s,1,none⟩)),some (.int .i64 (kx:Nat)),some (.pointer (some ⟨bb,ob + kx * 2,none⟩)),some (.agg #[.int .i64 q1,.int .i64 q2]),none,none,some undef] (by kernel_rfl) rfl (Am2 W1 (p1,p2)) (Am2.start) ?st1 ?fi1
 case st1 =>
  intro i o v ho hv
  match i,ho,hv with
  | 0,ho,hv =>
   cases ho;cases hv;refine .inl ⟨rfl,fun done a W hz hd hp hk hw K hK=>?_⟩;have e0:=hk.same 0 (by decide);exact op_val (v:=.pointer (some ⟨x,0,none⟩)) (by simp [go_sem,ev' e0]) (hK _ _ (fun u hu=>by cases hu;rfl) (hw.keep (by decide) (by decide)))
  | 1,ho,hv =>
   cases ho;cases hv;refine .inl ⟨rfl,fun done a W hz hd hp hk hw K hK=>?_⟩;have e7:=hk.at_ 0 _ 7 _ rfl (by decide) _ rfl rfl rfl;exact op_val (v:=.pointer (some ⟨x,0,none⟩)) (by simp [go_sem,ev' e7]) (hK _ _ (fun u hu=>by cases hu;rfl) (hw.keep (by decide) (by decide)))
  | 2,ho,hv =>
   cases ho;cases hv;refine .inl ⟨rfl,fun done a W hz hd hp hk hw K hK=>?_⟩;have e8:=hk.at_ 1 _ 8 _ rfl (by decide) _ rfl rfl rfl;exact op_val (v:=.pointer (some ⟨x,0,none⟩)) (by simp [go_sem,ev' e8]) (hK _ _ (fun u hu=>by cases hu;rfl) (hw.keep (by decide) (by decide)))
  | 3,ho,hv =>
   cases ho;cases hv;refine .inl ⟨rfl,fun done a W hz hd hp hk hw K hK=>?_⟩;have e9:=hk.at_ 2 _ 9 _ rfl (by decide) _ rfl rfl rfl;exact op_val (v:=.slice (some ⟨ba,oa,none⟩) la.length ca) (by simp [go_sem,ev' e9,(HX1.out.aft hw.aft).cell 0]) (hK _ _ (fun u hu=>by cases hu;rfl) (hw.keep (by decide) (by decide)))
  | 4,ho,hv =>
   cases ho;cases hv;refine .inl ⟨rfl,fun done a W hz hd hp hk hw K hK=>?_⟩;have e3:=hk.same 3 (by decide);exact op_val (v:=.pointer (some ⟨s,0,none⟩)) (by simp [go_sem,ev' e3]) (hK _ _ (fun u hu=>by cases hu;rfl) (hw.keep (by decide) (by decide)))
  | 5,ho,hv =>
   cases ho;cases hv;refine .inl ⟨rfl,fun done a W hz hd hp hk hw K hK=>?_⟩;have e11:=hk.at_ 4 _ 11 _ rfl (by decide) _ rfl rfl rfl;exact op_val (v:=.int .i64 (ix:Nat)) (by simp [go_sem,ev' e11,(HB1.out.aft hw.aft).cell 0]) (hK _ _ (fun u hu=>by cases hu;rfl) (hw.keep (by decide) (by decide)))
  | 6,ho,hv =>
   cases ho;cases hv;refine .inl ⟨rfl,fun done a W hz hd hp hk hw K hK=>?_⟩;have e10:=hk.at_ 3 _ 10 _ rfl (by decide) _ rfl rfl rfl;have e12:=hk.at_ 5 _ 12 _ rfl (by decide) _ rfl rfl rfl;exact op_val (v:=.pointer (some ⟨ba,oa + ix * 2,none⟩)) (by simp [go_sem,ev' e10,ev' e12,ii]) (hK _ _ (fun u hu=>by cases hu;rfl) (hw.keep (by decide) (by decide)))
  | 7,ho,hv =>
   cases ho;cases hv;refine .inl ⟨rfl,fun done a W hz hd hp hk hw K hK=>?_⟩;have e13:=hk.at_ 6 _ 13 _ rfl (by decide) _ rfl rfl rfl;have c1:=cellA A1 hba1 hw.aft;have c2:=cellA A2 hba1 hw.aft;exact op_val (v:=.agg #[.int .i64 p1,.int .i64 p2]) (by simp [go_sem,ev' e13,c1,c2]) (hK _ _ (fun u hu=>by cases hu;rfl) (hw.keep (by decide) (by decide)))
  | 8,ho,hv =>
   cases ho;cases hv;refine .inl ⟨rfl,fun done a W hz hd hp hk hw K hK=>?_⟩;have e0:=hk.same 0 (by decide);exact op_val (v:=.pointer (some ⟨x,0,none⟩)) (by simp [go_sem,ev' e0]) (hK _ _ (fun u hu=>by cases hu;rfl) (hw.keep (by decide) (by decide)))
  | 9,ho,hv =>
   cases ho;cases hv;refine .inl ⟨rfl,fun done a W hz hd hp hk hw K hK=>?_⟩;have e15:=hk.at_ 8 _ 15 _ rfl (by decide) _ rfl rfl rfl;exact op_val (v:=.pointer (some ⟨x,0,none⟩)) (by simp [go_sem,ev' e15]) (hK _ _ (fun u hu=>by cases hu;rfl) (hw.keep (by decide) (by decide)))
  | 10,ho,hv =>
   cases ho;cases hv;refine .inl ⟨rfl,fun done a W hz hd hp hk hw K hK=>?_⟩;have e16:=hk.at_ 9 _ 16 _ rfl (by decide) _ rfl rfl rfl;exact op_val (v:=.pointer (some ⟨x,1,none⟩)) (by simp [go_sem,ev' e16]) (hK _ _ (fun u hu=>by cases hu;rfl) (hw.keep (by decide) (by decide)))
  | 11,ho,hv =>
   cases ho;cases hv;refine .inl ⟨rfl,fun done a W hz hd hp hk hw K hK=>?_⟩;have e17:=hk.at_ 10 _ 17 _ rfl (by decide) _ rfl rfl rfl;exact op_val (v:=.slice (some ⟨bb,ob,none⟩) lb.length cb) (by simp [go_sem,ev' e17,(HX1.out.aft hw.aft).cell 1]) (hK _ _ (fun u hu=>by cases hu;rfl) (hw.keep (by decide) (by decide)))
  | 12,ho,hv =>
   cases ho;cases hv;refine .inl ⟨rfl,fun done a W hz hd hp hk hw K hK=>?_⟩;have e3:=hk.same 3 (by decide);exact op_val (v:=.pointer (some ⟨s,1,none⟩)) (by simp [go_sem,ev' e3]) (hK _ _ (fun u hu=>by cases hu;rfl) (hw.keep (by decide) (by decide)))
  | 13,ho,hv =>
   cases ho;cases hv;refine .inl ⟨rfl,fun done a W hz hd hp hk hw K hK=>?_⟩;have e19:=hk.at_ 12 _ 19 _ rfl (by decide) _ rfl rfl rfl;exact op_val (v:=.int .i64 (kx:Nat)) (by simp [go_sem,ev' e19,(HB1.out.aft hw.aft).cell 1]) (hK _ _ (fun u hu=>by cases hu;rfl) (hw.keep (by decide) (by decide)))
  | 14,ho,hv =>
   cases ho;cases hv;refine .inl ⟨rfl,fun done a W hz hd hp hk hw K hK=>?_⟩;have e18:=hk.at_ 11 _ 18 _ rfl (by decide) _ rfl rfl rfl;have e20:=hk.at_ 13 _ 20 _ rfl (by decide) _ rfl rfl rfl;exact op_val (v:=.pointer (some ⟨bb,ob + kx * 2,none⟩)) (by simp [go_sem,ev' e18,ev' e20,kk]) (hK _ _ (fun u hu=>by cases hu;rfl) (hw.keep (by decide) (by decide)))
  | 15,ho,hv =>
   cases ho;cases hv;refine .inl ⟨rfl,fun done a W hz hd hp hk hw K hK=>?_⟩;have e21:=hk.at_ 14 _ 21 _ rfl (by decide) _ rfl rfl rfl;have c1:=cellA B1 hbb1 hw.aft;have c2:=cellA B2 hbb1 hw.aft;exact op_val (v:=.agg #[.int .i64 q1,.int .i64 q2]) (by simp [go_sem,ev' e21,c1,c2]) (hK _ _ (fun u hu=>by cases hu;rfl) (hw.keep (by decide) (by decide)))
  | 16,ho,hv =>
   cases ho;cases hv;refine .inl ⟨rfl,fun done a W hz hd hp hk hw K hK=>?_⟩;exact op_valW (w':=W.alloc (.cells zer2 76)) (v:=.pointer (some ⟨W.heap.size,0,none⟩)) (by simp [go_sem,zer2]) (hK _ _ (fun u hu=>by cases hu) (hw.step16 (by rw [hz];decide) hd))
  | 17,ho,hv =>
   cases ho;cases hv;refine .inl ⟨rfl,fun done a W hz hd hp hk hw K hK=>?_⟩;exact op_valW (w':=W.alloc (.cells zer2 76)) (v:=.pointer (some ⟨W.heap.size,0,none⟩)) (by simp [go_sem,zer2]) (hK _ _ (fun u hu=>by cases hu) (hw.step17 (by rw [hz];decide)))
  | 18,ho,hv =>
   cases ho;cases hv;refine .inl ⟨rfl,fun done a W hz hd hp hk hw K hK=>?_⟩;have e14:=hk.at_ 7 _ 14 _ rfl (by decide) _ rfl rfl rfl;obtain ⟨b,e5,hbs,hbk⟩:=hw.x (hp 16 (by decide));have h12:done 18 = false:=hd;rw [h12,if_neg (by decide)] at hbk;have c0:=hbk.cell 0;have c1:=hbk.cell 1;have c4:=hbk.frozen 0;have c5:=hbk.frozen 1;have c8:=hbk.lt;simp only [zer2,List.getElem?_toArray,List.getElem?_cons_zero,List.getElem?_cons_succ] at c0 c1;exact op_skipW (w':=(W.setCell ⟨b,0,none⟩ (.int .i64 p1)).setCell ⟨b,1,none⟩ (.int .i64 p2)) (by simp [go_sem,ev' e5,ev' e14,c0,c1,c4,c5,c8]) (hK _ _ (fun u hu=>by cases hu;rfl) (hw.step18 e5 (hp 16 (by decide)) h12 rfl))
  | _ + 19,_,hv=>cases hv
 intro done us W hus hd hw;obtain ⟨x1,x2,rfl⟩:=list2 hus;obtain ⟨b1,e5,hs1,hb1⟩:=hw.x (hd 16 (by decide));obtain ⟨b2,e6,hs2,hb2,hne0⟩:=hw.y (hd 17 (by decide));have hne1:=hne0 (hd 16 (by decide));rw [if_pos (hd 18 (by decide))] at hb1;rw [e5] at hne1;have hne:b2 ≠ b1:=fun e=>hne1 (by rw [e])
 have hwa:=hw.aft;clear hw hne0 hne1;simp only [fill,List.drop_succ_cons,List.drop_zero,List.zip_cons_cons,List.zip_nil_right,putAll] at e5 e6 ⊢;simp only [Act.put,List.setIfInBounds_toArray,List.set] at e5 e6 ⊢;have e5:x1 = .pointer (some ⟨b1,0,none⟩):=e5;have e6:x2 = .pointer (some ⟨b2,0,none⟩):=e6;subst e5;subst e6;have c0:=hb2.cell 0;have c1:=hb2.cell 1;have c2:=hb2.frozen 0;have c3:=hb2.frozen 1;have c4:=hb2.lt;simp only [zer2,List.getElem?_toArray,List.getElem?_cons_zero,List.getElem?_cons_succ] at c0 c1;have A6:=(hwa.then_setCell (p:=⟨b2,0,none⟩) hs2 (.int .i64 q1)).then_setCell (p:=⟨b2,1,none⟩) hs2 (.int .i64 q2);have HB5:=Lib.hid ((hb1.far (p:=⟨b2,0,none⟩) hne.symm (.int .i64 q1)).far (p:=⟨b2,1,none⟩) hne.symm (.int .i64 q2));have HB6:=Lib.hid ((hb2.store 0 (.int .i64 q1)).store 1 (.int .i64 q2));have HX6:=Lib.hid (HX1.out.aft A6);have HA6:=Lib.hid (HA1.out.trans A6);have hX:∃ X,(W.setCell ⟨b2,0,none⟩ (.int .i64 q1)).setCell ⟨b2,1,none⟩ (.int .i64 q2) = X:=⟨_,rfl⟩;clear A6 hb1 hb2 hwa hd hs1 hs2 HX1 HA1 HB1 hus A1 A2 B1 B2 hba1 hbb1;go_upto_region 2 with fail
 obtain ⟨X,hX⟩:=hX;rw [hX] at HB5 HB6 HX6 HA6 ⊢;clear hX c0 c1 c2 c3 c4;have HB5:Hid (Blk X b1 76 #[.int .i64 p1,.int .i64 p2]):=HB5;have HB6:Hid (Blk X b2 76 #[.int .i64 q1,.int .i64 q2]):=HB6;have w1:IntKind.i64.wrap (p1 - q1) = p1 - q1:=IntWalk.i64_in _ (by omega);have w2:IntKind.i64.wrap (q1 - p1) = q1 - p1:=IntWalk.i64_in _ (by omega);obtain ⟨M,hM⟩:∃ M,(if p1 - q1 < q1 - p1 then q1 - p1 else p1 - q1) = M:=⟨_,rfl⟩
 have hres:decide (M <= play) = (decide (p1 - q1 <= play) && decide (q1 - p1 <= play)):=by
  rw [<- hM,<- Bool.decide_and];apply decide_eq_decide.2;split <;> omega
 by_cases hpq:p2 = q2
 ·have t1:(p2 == q2) = true:=by simpa using hpq
  have HRES:Hid (sameM play (p1,p2) (q1,q2) = decide (M <= play)):=Lib.hid (by unfold sameM;dsimp only;rw [hres,decide_eq_true hpq,Bool.true_and]);clear hres hpq;refine wp_region_valsT (by kernel_rfl) 23 46 rfl (by kernel_rfl) (by kernel_rfl) (by kernel_rfl) [.pointer (some ⟨b1,1,none⟩),.int .i64 p2,.pointer (some ⟨b2,1,none⟩),.int .i64 q2,.bool true,.bool true,.pointer (some ⟨b1,0,none⟩),.int .i64 p1,.pointer (some ⟨b2,0,none⟩),.int .i64 q1,.int .i64 (p1 - q1),.pointer (some ⟨b2,0,none⟩),.int .i64 q1,.pointer (some ⟨b1,0,none⟩),.int .i64 p1,.int .i64 (q1 - p1),.int .i64 M,.pointer (some ⟨x,0,none⟩),.pointer (some ⟨x,0,none⟩),.pointer (some ⟨x,2,none⟩),.int .i64 play,.bool (decide (M <= play)),.bool (decide (M <= play))] rfl (fun _ W=>Aft X W) (Aft.drew _) ?st2 ?fi2
  case st2 =>
   intro i o v ho hv
   match i,ho,hv with
   | 0,ho,hv =>
    cases ho;cases hv;refine .inl ⟨rfl,fun done a W hd hp hk hw K hK=>?_⟩;have e5:=hk.same 5 (by decide);exact op_val (by simp [go_sem,ev' e5]) (hK _ hw)
   | 1,ho,hv =>
    cases ho;cases hv;refine .inl ⟨rfl,fun done a W hd hp hk hw K hK=>?_⟩;have e23:=hk.at_ 0 _ 23 _ rfl (by decide) _ rfl rfl rfl;exact op_val (by simp [go_sem,ev' e23,(HB5.out.aft hw).cell 1]) (hK _ hw)
   | 2,ho,hv =>
    cases ho;cases hv;refine .inl ⟨rfl,fun done a W hd hp hk hw K hK=>?_⟩;have e6:=hk.same 6 (by decide);exact op_val (by simp [go_sem,ev' e6]) (hK _ hw)
   | 3,ho,hv =>
    cases ho;cases hv;refine .inl ⟨rfl,fun done a W hd hp hk hw K hK=>?_⟩;have e25:=hk.at_ 2 _ 25 _ rfl (by decide) _ rfl rfl rfl;exact op_val (by simp [go_sem,ev' e25,(HB6.out.aft hw).cell 1]) (hK _ hw)
   | 4,ho,hv =>
    cases ho;cases hv;refine .inl ⟨rfl,fun done a W hd hp hk hw K hK=>?_⟩;have e24:=hk.at_ 1 _ 24 _ rfl (by decide) _ rfl rfl rfl;have e26:=hk.at_ 3 _ 26 _ rfl (by decide) _ rfl rfl rfl;exact op_val (by simp [go_sem,ev' e24,ev' e26,t1]) (hK _ hw)
   | 5,ho,hv =>
    cases ho;cases hv;refine .inl ⟨rfl,fun done a W hd hp hk hw K hK=>?_⟩;have e27:=hk.at_ 4 _ 27 _ rfl (by decide) _ rfl rfl rfl;exact op_val (by simp [go_sem,ev' e27]) (hK _ hw)
   | 6,ho,hv =>
    cases ho;cases hv;refine .inl ⟨rfl,fun done a W hd hp hk hw K hK=>?_⟩;have e5:=hk.same 5 (by decide);exact op_val (by simp [go_sem,ev' e5]) (hK _ hw)
   | 7,ho,hv =>
    cases ho;cases hv;refine .inl ⟨rfl,fun done a W hd hp hk hw K hK=>?_⟩;have e29:=hk.at_ 6 _ 29 _ rfl (by decide) _ rfl rfl rfl;exact op_val (by simp [go_sem,ev' e29,(HB5.out.aft hw).cell 0]) (hK _ hw)
   | 8,ho,hv =>
    cases ho;cases hv;refine .inl ⟨rfl,fun done a W hd hp hk hw K hK=>?_⟩;have e6:=hk.same 6 (by decide);exact op_val (by simp [go_sem,ev' e6]) (hK _ hw)
   | 9,ho,hv =>
    cases ho;cases hv;refine .inl ⟨rfl,fun done a W hd hp hk hw K hK=>?_⟩;have e31:=hk.at_ 8 _ 31 _ rfl (by decide) _ rfl rfl rfl;exact op_val (by simp [go_sem,ev' e31,(HB6.out.aft hw).cell 0]) (hK _ hw)
   | 10,ho,hv =>
    cases ho;cases hv;refine .inl ⟨rfl,fun done a W hd hp hk hw K hK=>?_⟩;have e30:=hk.at_ 7 _ 30 _ rfl (by decide) _ rfl rfl rfl;have e32:=hk.at_ 9 _ 32 _ rfl (by decide) _ rfl rfl rfl;exact op_val (by simp [go_sem,ev' e30,ev' e32,w1]) (hK _ hw)
   | 11,ho,hv =>
    cases ho;cases hv;refine .inl ⟨rfl,fun done a W hd hp hk hw K hK=>?_⟩;have e6:=hk.same 6 (by decide);exact op_val (by simp [go_sem,ev' e6]) (hK _ hw)
   | 12,ho,hv =>
    cases ho;cases hv;refine .inl ⟨rfl,fun done a W hd hp hk hw K hK=>?_⟩;have e34:=hk.at_ 11 _ 34 _ rfl (by decide) _ rfl rfl rfl;exact op_val (by simp [go_sem,ev' e34,(HB6.out.aft hw).cell 0]) (hK _ hw)
   | 13,ho,hv =>
    cases ho;cases hv;refine .inl ⟨rfl,fun done a W hd hp hk hw K hK=>?_⟩;have e5:=hk.same 5 (by decide);exact op_val (by simp [go_sem,ev' e5]) (hK _ hw)
   | 14,ho,hv =>
    cases ho;cases hv;refine .inl ⟨rfl,fun done a W hd hp hk hw K hK=>?_⟩;have e36:=hk.at_ 13 _ 36 _ rfl (by decide) _ rfl rfl rfl;exact op_val (by simp [go_sem,ev' e36,(HB5.out.aft hw).cell 0]) (hK _ hw)
   | 15,ho,hv =>
    cases ho;cases hv;refine .inl ⟨rfl,fun done a W hd hp hk hw K hK=>?_⟩;have e35:=hk.at_ 12 _ 35 _ rfl (by decide) _ rfl rfl rfl;have e37:=hk.at_ 14 _ 37 _ rfl (by decide) _ rfl rfl rfl;exact op_val (by simp [go_sem,ev' e35,ev' e37,w2]) (hK _ hw)
   | 16,ho,hv =>
    cases ho;cases hv;refine .inl ⟨rfl,fun done a W hd hp hk hw K hK=>?_⟩;have e33:=hk.at_ 10 _ 33 _ rfl (by decide) _ rfl rfl rfl;have e38:=hk.at_ 15 _ 38 _ rfl (by decide) _ rfl rfl rfl;exact op_val (by simp [go_sem,ev' e33,ev' e38,hM]) (hK _ hw)
   | 17,ho,hv =>
    cases ho;cases hv;refine .inl ⟨rfl,fun done a W hd hp hk hw K hK=>?_⟩;have e0:=hk.same 0 (by decide);exact op_val (by simp [go_sem,ev' e0]) (hK _ hw)
   | 18,ho,hv =>
    cases ho;cases hv;refine .inl ⟨rfl,fun done a W hd hp hk hw K hK=>?_⟩;have e40:=hk.at_ 17 _ 40 _ rfl (by decide) _ rfl rfl rfl;exact op_val (by simp [go_sem,ev' e40]) (hK _ hw)
   | 19,ho,hv =>
    cases ho;cases hv;refine .inl ⟨rfl,fun done a W hd hp hk hw K hK=>?_⟩;have e41:=hk.at_ 18 _ 41 _ rfl (by decide) _ rfl rfl rfl;exact op_val (by simp [go_sem,ev' e41]) (hK _ hw)
   | 20,ho,hv =>
    cases ho;cases hv;refine .inl ⟨rfl,fun done a W hd hp hk hw K hK=>?_⟩;have e42:=hk.at_ 19 _ 42 _ rfl (by decide) _ rfl rfl rfl;exact op_val (by simp [go_sem,ev' e42,(HX6.out.aft hw).cell 2]) (hK _ hw)
   | 21,ho,hv =>
    cases ho;cases hv;refine .inl ⟨rfl,fun done a W hd hp hk hw K hK=>?_⟩;have e39:=hk.at_ 16 _ 39 _ rfl (by decide) _ rfl rfl rfl;have e43:=hk.at_ 20 _ 43 _ rfl (by decide) _ rfl rfl rfl;exact op_val (by simp [go_sem,ev' e39,ev' e43]) (hK _ hw)
   | 22,ho,hv =>
    cases ho;cases hv;refine .inl ⟨rfl,fun done a W hd hp hk hw K hK=>?_⟩;have e28:=hk.at_ 5 _ 28 _ rfl (by decide) _ rfl rfl rfl;have e44:=hk.at_ 21 _ 44 _ rfl (by decide) _ rfl rfl rfl;exact op_val (by simp [go_sem,ev' e28,ev' e44]) (hK _ hw)
   | _ + 23,_,hv=>cases hv
  intro done W hd hw;simp only [List.drop_succ_cons,List.drop_zero,List.zip_cons_cons,List.zip_nil_right,putAll];simp only [Act.put,List.setIfInBounds_toArray,List.set];clear hd;go_wp2_with fail
  go_ret;exact ⟨by rw [HRES.out];rfl,HA6.out.trans hw⟩
 ·have t1:(p2 == q2) = false:=by simpa using hpq
  have HRES:Hid (sameM play (p1,p2) (q1,q2) = false):=Lib.hid (by unfold sameM;dsimp only;rw [decide_eq_false hpq,Bool.false_and]);clear hres hpq;refine wp_region_valsT (by kernel_rfl) 23 46 rfl (by kernel_rfl) (by kernel_rfl) (by kernel_rfl) [.pointer (some ⟨b1,1,none⟩),.int .i64 p2,.pointer (some ⟨b2,1,none⟩),.int .i64 q2,.bool false,.bool false,undef,undef,undef,undef,undef,undef,undef,undef,undef,undef,undef,undef,undef,undef,undef,undef,.bool false] rfl (fun _ W=>Aft X W) (Aft.drew _) ?st3 ?fi3
  case st3 =>
   intro i o v ho hv
   match i,ho,hv with
   | 0,ho,hv =>
    cases ho;cases hv;refine .inl ⟨rfl,fun done a W hd hp hk hw K hK=>?_⟩;have e5:=hk.same 5 (by decide);exact op_val (by simp [go_sem,ev' e5]) (hK _ hw)
   | 1,ho,hv =>
    cases ho;cases hv;refine .inl ⟨rfl,fun done a W hd hp hk hw K hK=>?_⟩;have e23:=hk.at_ 0 _ 23 _ rfl (by decide) _ rfl rfl rfl;exact op_val (by simp [go_sem,ev' e23,(HB5.out.aft hw).cell 1]) (hK _ hw)
   | 2,ho,hv =>
    cases ho;cases hv;refine .inl ⟨rfl,fun done a W hd hp hk hw K hK=>?_⟩;have e6:=hk.same 6 (by decide);exact op_val (by simp [go_sem,ev' e6]) (hK _ hw)
   | 3,ho,hv =>
    cases ho;cases hv;refine .inl ⟨rfl,fun done a W hd hp hk hw K hK=>?_⟩;have e25:=hk.at_ 2 _ 25 _ rfl (by decide) _ rfl rfl rfl;exact op_val (by simp [go_sem,ev' e25,(HB6.out.aft hw).cell 1]) (hK _ hw)
   | 4,ho,hv =>
    cases ho;cases hv;refine .inl ⟨rfl,fun done a W hd hp hk hw K hK=>?_⟩;have e24:=hk.at_ 1 _ 24 _ rfl (by decide) _ rfl rfl rfl;have e26:=hk.at_ 3 _ 26 _ rfl (by decide) _ rfl rfl rfl;exact op_val (by simp [go_sem,ev' e24,ev' e26,t1]) (hK _ hw)
   | 5,ho,hv =>
    cases ho;cases hv;refine .inl ⟨rfl,fun done a W hd hp hk hw K hK=>?_⟩;have e27:=hk.at_ 4 _ 27 _ rfl (by decide) _ rfl rfl rfl;exact op_val (by simp [go_sem,ev' e27]) (hK _ hw)
   | 6,ho,hv=>cases ho;cases hv;exact .inr ⟨rfl,rfl,fun _ _ h=>h⟩
   | 7,ho,hv=>cases ho;cases hv;exact .inr ⟨rfl,rfl,fun _ _ h=>h⟩
   | 8,ho,hv=>cases ho;cases hv;exact .inr ⟨rfl,rfl,fun _ _ h=>h⟩
   | 9,ho,hv=>cases ho;cases hv;exact .inr ⟨rfl,rfl,fun _ _ h=>h⟩
   | 10,ho,hv=>cases ho;cases hv;exact .inr ⟨rfl,rfl,fun _ _ h=>h⟩
   | 11,ho,hv=>cases ho;cases hv;exact .inr ⟨rfl,rfl,fun _ _ h=>h⟩
   | 12,ho,hv=>cases ho;cases hv;exact .inr ⟨rfl,rfl,fun _ _ h=>h⟩
   | 13,ho,hv=>cases ho;cases hv;exact .inr ⟨rfl,rfl,fun _ _ h=>h⟩
   | 14,ho,hv=>cases ho;cases hv;exact .inr ⟨rfl,rfl,fun _ _ h=>h⟩
   | 15,ho,hv=>cases ho;cases hv;exact .inr ⟨rfl,rfl,fun _ _ h=>h⟩
   | 16,ho,hv=>cases ho;cases hv;exact .inr ⟨rfl,rfl,fun _ _ h=>h⟩
   | 17,ho,hv=>cases ho;cases hv;exact .inr ⟨rfl,rfl,fun _ _ h=>h⟩
   | 18,ho,hv=>cases ho;cases hv;exact .inr ⟨rfl,rfl,fun _ _ h=>h⟩
   | 19,ho,hv=>cases ho;cases hv;exact .inr ⟨rfl,rfl,fun _ _ h=>h⟩
   | 20,ho,hv=>cases ho;cases hv;exact .inr ⟨rfl,rfl,fun _ _ h=>h⟩
   | 21,ho,hv=>cases ho;cases hv;exact .inr ⟨rfl,rfl,fun _ _ h=>h⟩
   | 22,ho,hv =>
    cases ho;cases hv;refine .inl ⟨rfl,fun done a W hd hp hk hw K hK=>?_⟩;have e28:=hk.at_ 5 _ 28 _ rfl (by decide) _ rfl rfl rfl;have e44:=hk.at_ 21 _ 44 _ rfl (by decide) _ rfl rfl rfl;exact op_val (by simp [go_sem,ev' e28,ev' e44]) (hK _ hw)
   | _ + 23,_,hv=>cases hv
  intro done W hd hw;simp only [List.drop_succ_cons,List.drop_zero,List.zip_cons_cons,List.zip_nil_right,putAll];simp only [Act.put,List.setIfInBounds_toArray,List.set];clear hd;go_wp2_with fail
  go_ret;exact ⟨by rw [HRES.out];rfl,HA6.out.trans hw⟩
end Go.Proofs
end
section
/- Walks: outside,same of the reference;ratio of the law. -/
namespace Go.Proofs
open Go.RowKit
attribute [local go_sem] Oper.semAt_some
set_option maxHeartbeats 1000000 in
theorem outside_any (n a b:Int) (w:World) :
  Calls Tryz.prog 40 #[.int .i64 n,.int .i64 a,.int .i64 b] w fun e w'=>e = .returned (.bool (!fromB n a b)) /\ w = w':=by
 go_enter Tryz.func40,Tryz.ntmps40;go_wp2
 all_goals go_ret
 all_goals exact ⟨ret_bool (by unfold fromB;by_cases h1:a <= n <;> by_cases h2:n <= b <;> simp [h1,h2] <;> omega),rfl⟩
set_option maxRecDepth 100000 in
set_option maxHeartbeats 1000000 in
theorem ratioL_any (n d:Int) (w:World) :
  Calls Tryz.prog 20 #[.int .i64 n,.int .i64 d] w fun e w'=>e = .returned (.agg #[.int .i64 n,.int .i64 d]) /\ Aft w w':=by
 obtain ⟨s,hs⟩:∃ s,w.heap.size = s:=⟨_,rfl⟩;have HB:=Lib.hid (hs ▸ Blk.new w 29 #[.int .i64 0,.int .i64 0]);have HA:=Lib.hid (Aft.alloc w (.cells #[.int .i64 0,.int .i64 0] 29));have hw:w.heap.size <= s:=Nat.le_of_eq hs;go_enter Tryz.func20,Tryz.ntmps20;go_upto_region 1 with fail
 try rw [hs]
 generalize w.alloc (.cells #[.int .i64 0,.int .i64 0] 29) = W at *;have c0:W.cell? ⟨s,0,none⟩ = some (.int .i64 0):=HB.out.cell 0;have c1:W.cell? ⟨s,1,none⟩ = some (.int .i64 0):=HB.out.cell 1;have c2:=HB.out.frozen 0;have c3:=HB.out.frozen 1;have c4:=HB.out.lt;go_wp2_with fail
 have B2:=(HB.out.store 0 (.int .i64 n)).store 1 (.int .i64 d);have A2:=(HA.out.then_setCell (p:=⟨s,0,none⟩) hw (.int .i64 n)).then_setCell (p:=⟨s,1,none⟩) hw (.int .i64 d);generalize (W.setCell ⟨s,0,none⟩ (.int .i64 n)).setCell ⟨s,1,none⟩ (.int .i64 d) = X at *;have z0:X.cell? ⟨s,0,none⟩ = some (.int .i64 n):=B2.cell 0;have z1:X.cell? ⟨s,1,none⟩ = some (.int .i64 d):=B2.cell 1;exact bodyPost_ret (v:=.agg #[.int .i64 n,.int .i64 d]) (by simp [results,Tryz.results20,go_sem,z0,z1]) rfl ⟨rfl,A2⟩
end Go.Proofs
end
