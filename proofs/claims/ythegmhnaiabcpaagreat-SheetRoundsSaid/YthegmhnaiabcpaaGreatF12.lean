/- Own texts, merged: Re0. -/
import Derived.Test.YthegmhnaiabcpaaGreatF11
set_option linter.unusedSimpArgs false
set_option linter.unusedVariables false
set_option linter.unnecessarySimpa false
section
/- Plain: what the reference's apart reckons. -/
namespace Sheet
def optE (x:Int):Option Int:=if x < 1000000000000000000 then some x else none
theorem optE_some {x m:Int}:optE x = some m ↔ x < 1000000000000000000 /\ x = m:=by
 unfold optE;by_cases h:x < 1000000000000000000
 ·rw [if_pos h];exact ⟨fun e=>by cases e;exact ⟨h,rfl⟩,fun e=>by rw [e.2]⟩
 ·rw [if_neg h];exact ⟨(fun e=>by cases e),fun e=>absurd e.1 h⟩
theorem optE_lt {x:Int} (h:x < 1000000000000000000):optE x = some x:=if_pos h
theorem walk_ge {E:List Edge} {n:Nat} {M:Int} (hE:In E n) (hn:0 < n) (hneg:NoNeg E) (hM:∀ a b w,(a,b,w) ∈ E -> -M <= w /\ w <= M) (hM0:0 <= M) {a b k:Nat} {s:Int} (h:Wk E a b k s):-(M * n) <= s:=by
 have hm:AtMost E 0 (-1):=fun a k s hw _=>by have:=hneg a k s hw;omega
 obtain ⟨k',s',h1,-,h3,h4⟩:=h.short hE hn hm k (Nat.le_refl _);have h7:=h3.bound (p:=0) (q:=-1) (M:=M) fun a b w e=>by have:=hM a b w e;omega
 have h8:M * (k':Int) <= M * (n:Int):=Int.mul_le_mul_of_nonneg_left (by omega) hM0;omega
def mn (x y:Int):Int:=if y < x then y else x
theorem mn_le (x y:Int):mn x y <= x /\ mn x y <= y /\ (mn x y = x \/ mn x y = y):=by unfold mn;split <;> omega
def ap1 (J:List Jo) (D N:Int) (a b i:Nat) (x:Int):Int :=
 if (jo J i).2.1 = a /\ (jo J i).1 = b then mn (if (jo J i).1 = a /\ (jo J i).2.1 = b then mn x ((jo J i).2.2 * D + N) else x) (N - (jo J i).2.2 * D) else (if (jo J i).1 = a /\ (jo J i).2.1 = b then mn x ((jo J i).2.2 * D + N) else x)
def ap0 (J:List Jo) (D N:Int) (a b:Nat):Nat -> Int
 | 0=>if a = b then 0 else 1000000000000000000
 | i + 1=>ap1 J D N a b i (ap0 J D N a b i)
structure ApI (J:List Jo) (D N:Int) (a b:Nat) (tr:Nat × Bool -> Prop) (x:Int):Prop where
 walk:x < 1000000000000000000 -> ∃ l,Wk (sc D N (legs J)) a b l x
 dia:a = b -> x <= 0
 leg:∀ g,tr g -> g.1 < J.length -> from_ J g = a -> into J g = b -> x <= wt J D N g
 le:x = 1000000000000000000 \/ (-2000000000 <= x /\ x <= 2000000000)
section
variable {J:List Jo} {D N:Int} {a b:Nat} {tr:Nat × Bool -> Prop} {x:Int}
theorem ApI.congr (h:ApI J D N a b tr x) {tr':Nat × Bool -> Prop} (ht:∀ g,tr' g -> tr g):ApI J D N a b tr' x:=⟨h.walk,h.dia,fun g hg=>h.leg g (ht g hg),h.le⟩
theorem ApI.take (h:ApI J D N a b tr x) {g:Nat × Bool} (hg:g.1 < J.length) (hf:from_ J g = a) (hi:into J g = b) (hw:-2000000000 <= wt J D N g /\ wt J D N g <= 2000000000):ApI J D N a b (fun y=>tr y \/ y = g) (mn x (wt J D N g)):=by
 obtain ⟨h1,h2,h3⟩:=mn_le x (wt J D N g);refine ⟨fun hx=>?_,fun e=>Int.le_trans h1 (h.dia e),fun y hy hl hfy hiy=>?_,?_⟩
 ·rcases h3 with e | e
  ·rw [e] at hx ⊢;exact h.walk hx
  ·rw [e];have:=Wk.one (sc_mem (D:=D) (N:=N) (leg_mem hg));rw [hf,hi] at this;exact ⟨1,this⟩
 ·rcases hy with hy | rfl
  ·exact Int.le_trans h1 (h.leg y hy hl hfy hiy)
  ·exact h2
 ·rcases h3 with e | e
  ·rw [e];exact h.le
  ·rw [e];exact .inr hw
theorem ApI.skip (h:ApI J D N a b tr x) {g:Nat × Bool} (hn:¬ (from_ J g = a /\ into J g = b)):ApI J D N a b (fun y=>tr y \/ y = g) x :=
 ⟨h.walk,h.dia,fun y hy hl hf hi=>by
  rcases hy with hy | rfl
  ·exact h.leg y hy hl hf hi
  ·exact absurd ⟨hf,hi⟩ hn,h.le⟩
theorem ap0_is (hw:∀ g:Nat × Bool,g.1 < J.length -> -2000000000 <= wt J D N g /\ wt J D N g <= 2000000000):∀ i,i <= J.length -> ApI J D N a b (fun g=>g.1 < i) (ap0 J D N a b i)
 | 0,_=>by
  refine ⟨fun hx=>?_,fun e=>?_,fun g hg=>absurd hg (Nat.not_lt_zero _),?_⟩
  ·unfold ap0 at hx ⊢;by_cases e:a = b
   ·subst e;rw [if_pos rfl];exact ⟨0,.nil a⟩
   ·rw [if_neg e] at hx;exact absurd hx (Int.lt_irrefl _)
  ·unfold ap0;rw [if_pos e];exact Int.le_refl _
  ·unfold ap0;by_cases e:a = b
   ·rw [if_pos e];exact .inr (by omega)
   ·rw [if_neg e];exact .inl rfl
 | i + 1,hi=>by
  have h0:=ap0_is hw i (by omega);have e1:wt J D N (i,false) = (jo J i).2.2 * D + N:=rfl
  have e2:wt J D N (i,true) = N - (jo J i).2.2 * D:=by
   have:wt J D N (i,true) = -(jo J i).2.2 * D + N:=rfl;rw [this,Int.neg_mul];omega
  have h1:ApI J D N a b (fun y=>y.1 < i \/ y = (i,false)) (if (jo J i).1 = a /\ (jo J i).2.1 = b then mn (ap0 J D N a b i) ((jo J i).2.2 * D + N) else ap0 J D N a b i):=by
   by_cases e:(jo J i).1 = a /\ (jo J i).2.1 = b
   ·rw [if_pos e,<- e1];exact h0.take (g:=(i,false)) (by show i < J.length;omega) e.1 e.2 (hw _ (by show i < J.length;omega))
   ·rw [if_neg e];exact h0.skip (g:=(i,false)) e
  have h2:ApI J D N a b (fun y=>(y.1 < i \/ y = (i,false)) \/ y = (i,true)) (ap0 J D N a b (i + 1)):=by
   show ApI J D N a b _ (ap1 J D N a b i (ap0 J D N a b i));unfold ap1;by_cases e:(jo J i).2.1 = a /\ (jo J i).1 = b
   ·rw [if_pos e,<- e2];exact h1.take (g:=(i,true)) (by show i < J.length;omega) e.1 e.2 (hw _ (by show i < J.length;omega))
   ·rw [if_neg e];exact h1.skip (g:=(i,true)) e
  refine h2.congr fun g hg=>?_
  obtain ⟨g1,g2⟩:=g;by_cases e:g1 < i
  ·exact .inl (.inl e)
  ·have:g1 = i:=by have:g1 < i + 1:=hg;omega
   subst this;cases g2
   ·exact .inl (.inr rfl)
   ·exact .inr rfl
end
theorem Fl.zero {n:Nat} {J:List Jo} {D N:Int} {V:Nat -> Nat -> Int} (hw:∀ g:Nat × Bool,g.1 < J.length -> -2000000000 <= wt J D N g /\ wt J D N g <= 2000000000) (h:∀ a b,a < n -> b < n -> ApI J D N a b (fun g=>g.1 < J.length) (V a b)):Fl (sc D N (legs J)) n 0 fun a b=>optE (V a b):=by
 refine ⟨fun a b m ha hb hm=>?_,fun a b s ha hb hv=>?_⟩
 ·obtain ⟨h1,rfl⟩:=optE_some.1 hm;exact (h a b ha hb).walk h1
 ·cases hv with
  | nil =>
   have:=(h a a ha ha).dia rfl;exact ⟨V a a,optE_lt (by omega),this⟩
  | leg e =>
   obtain ⟨w',h1,rfl⟩:=mem_sc e;obtain ⟨g,g1,g2,g3,g4⟩:=mem_leg h1;have h5:=(h a b ha hb).leg g g1 g1 g2 g3;have h6:=hw g g1;have h7:wt J D N g = w' * D + N:=by unfold wt;rw [g4]
   refine ⟨V a b,optE_lt (by omega),by omega⟩
  | cat hv=>exact absurd hv (Nat.not_lt_zero _)
structure FlI (E:List Edge) (n k:Nat) (T0:Nat -> Nat -> Int) (B:Int) (T:Nat -> Nat -> Int) (i j:Nat):Prop where
 walk:∀ a b,a < n -> b < n -> T a b < 1000000000000000000 -> ∃ l,Wk E a b l (T a b)
 mono:∀ a b,a < n -> b < n -> T a b <= T0 a b
 thr:∀ a b,a < n -> b < n -> (a < i \/ (a = i /\ b < j)) -> T0 a k < 1000000000000000000 -> T0 k b < 1000000000000000000 -> T a b <= T0 a k + T0 k b
 bnd:∀ a b,a < n -> b < n -> T a b < 1000000000000000000 -> T a b <= 2 * B
 bndk:∀ a b,a < n -> b < n -> (a = k \/ b = k) -> T a b < 1000000000000000000 -> T a b <= B
section
variable {E:List Edge} {n k:Nat} {T0 T:Nat -> Nat -> Int} {B:Int} {i j:Nat}
theorem FlI.start (h:Fl E n k fun a b=>optE (T0 a b)) (hB:0 <= B) (hb:∀ a b,a < n -> b < n -> T0 a b < 1000000000000000000 -> T0 a b <= B):FlI E n k T0 B T0 0 0 :=
 ⟨fun a b h1 h2 h3=>h.walk a b _ h1 h2 (optE_lt h3),fun _ _ _ _=>Int.le_refl _,fun a b _ _ h=>absurd h (by omega),fun a b h1 h2 h3=>by have:=hb a b h1 h2 h3;omega,fun a b h1 h2 _ h3=>hb a b h1 h2 h3⟩
theorem FlI.row (h:FlI E n k T0 B T i n):FlI E n k T0 B T (i + 1) 0 :=
 ⟨h.walk,h.mono,fun a b h1 h2 h3=>h.thr a b h1 h2 (by omega),h.bnd,h.bndk⟩
theorem FlI.keep (h:FlI E n k T0 B T i j) (hi:i < n) (hj:j < n) (hk:k < n) (hn:¬ (T i k < 1000000000000000000 /\ T k j < 1000000000000000000)):FlI E n k T0 B T i (j + 1) :=
 ⟨h.walk,h.mono,fun a b h1 h2 h3 h4 h5=>by
  by_cases e:a = i /\ b = j
  ·obtain ⟨rfl,rfl⟩:=e;have:=h.mono a k h1 hk;have:=h.mono k b hk h2;exact absurd (show _ /\ _ by omega) hn
  ·exact h.thr a b h1 h2 (by omega) h4 h5,h.bnd,h.bndk⟩
def putZ (V:Nat -> Nat -> Int) (a b:Nat) (x:Int):Nat -> Nat -> Int:=fun i k=>if i = a /\ k = b then x else V i k
theorem FlI.put (h:FlI E n k T0 B T i j) (hB:2 * B < 1000000000000000000) (hi:i < n) (hj:j < n) (hk:k < n) (h1:T i k < 1000000000000000000) (h2:T k j < 1000000000000000000):FlI E n k T0 B (putZ T i j (mn (T i j) (T i k + T k j))) i (j + 1):=by
 obtain ⟨m1,m2,m3⟩:=mn_le (T i j) (T i k + T k j);obtain ⟨l1,w1⟩:=h.walk i k hi hk h1;obtain ⟨l2,w2⟩:=h.walk k j hk hj h2;have b1:=h.bndk i k hi hk (.inr rfl) h1;have b2:=h.bndk k j hk hj (.inl rfl) h2;have p0:putZ T i j (mn (T i j) (T i k + T k j)) i j = mn (T i j) (T i k + T k j):=if_pos ⟨rfl,rfl⟩;have p1:∀ a b,¬ (a = i /\ b = j) -> putZ T i j (mn (T i j) (T i k + T k j)) a b = T a b:=fun a b e=>if_neg e
 refine ⟨fun a b ha hb hx=>?_,fun a b ha hb=>?_,fun a b ha hb hd h4 h5=>?_,fun a b ha hb hx=>?_,fun a b ha hb hab hx=>?_⟩
 ·by_cases e:a = i /\ b = j
  ·obtain ⟨rfl,rfl⟩:=e;rw [p0] at hx ⊢;rcases m3 with e | e
   ·rw [e] at hx ⊢;exact h.walk a b ha hb hx
   ·rw [e];exact ⟨_,w1.append w2⟩
  ·rw [p1 a b e] at hx ⊢;exact h.walk a b ha hb hx
 ·by_cases e:a = i /\ b = j
  ·obtain ⟨rfl,rfl⟩:=e;rw [p0];exact Int.le_trans m1 (h.mono a b ha hb)
  ·rw [p1 a b e];exact h.mono a b ha hb
 ·by_cases e:a = i /\ b = j
  ·obtain ⟨rfl,rfl⟩:=e;rw [p0];have:=h.mono a k ha hk;have:=h.mono k b hk hb;omega
  ·rw [p1 a b e];exact h.thr a b ha hb (by omega) h4 h5
 ·by_cases e:a = i /\ b = j
  ·obtain ⟨rfl,rfl⟩:=e;rw [p0];omega
  ·rw [p1 a b e] at hx ⊢;exact h.bnd a b ha hb hx
 ·by_cases e:a = i /\ b = j
  ·obtain ⟨rfl,rfl⟩:=e;rw [p0];rcases hab with rfl | rfl <;> omega
  ·rw [p1 a b e] at hx ⊢;exact h.bndk a b ha hb hab hx
theorem FlI.next (h0:Fl E n k fun a b=>optE (T0 a b)) (h:FlI E n k T0 B T n 0) (hB:2 * B < 1000000000000000000) (hneg:NoNeg E) (hk:k < n) (hb0:∀ a b,a < n -> b < n -> T0 a b < 1000000000000000000 -> T0 a b <= B):Fl E n (k + 1) fun a b=>optE (T a b):=by
 refine h0.stage hneg hk (fun a b m ha hb hm=>?_) (fun a b m ha hb hm=>?_) fun a b x y ha hb hx hy=>?_
 ·obtain ⟨h1,rfl⟩:=optE_some.1 hm;exact h.walk a b ha hb h1
 ·obtain ⟨h1,rfl⟩:=optE_some.1 hm;have:=h.mono a b ha hb;exact ⟨T a b,optE_lt (by omega),this⟩
 ·obtain ⟨h1,rfl⟩:=optE_some.1 hx;obtain ⟨h2,rfl⟩:=optE_some.1 hy;have h3:=h.thr a b ha hb (.inl ha) h1 h2;have:=hb0 a k ha hk h1;have:=hb0 k b hk hb h2;exact ⟨T a b,optE_lt (by omega),h3⟩
theorem FlI.sum {M:Int} (h:FlI E n k T0 B T i j) (hE:In E n) (hneg:NoNeg E) (hM:∀ a b w,(a,b,w) ∈ E -> -M <= w /\ w <= M) (hM0:0 <= M) (hk:k < n) {a b:Nat} (ha:a < n) (hb:b < n) (h1:T a b < 1000000000000000000):-(M * n) <= T a b /\ T a b <= 2 * B:=by
 obtain ⟨l1,w1⟩:=h.walk a b ha hb h1;exact ⟨walk_ge hE (by omega) hneg hM hM0 w1,h.bnd a b ha hb h1⟩
end
end Sheet
end
