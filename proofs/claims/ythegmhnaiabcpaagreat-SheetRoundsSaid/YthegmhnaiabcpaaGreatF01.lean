/- Own texts, merged: PWk PRt PLs PKr PTb Lim. -/
import Derived.WalkKit
import Derived.WalkSpells
import Derived.WalkLawsBesides
import Derived.WalkSmall
import Derived.BigQuiet
import Derived.Deep.QuietTactic
import Derived.Deep.Draws
import Derived.Lib.Hide
import Derived.Lib.SliceRun
import Derived.Deep.OwnRows
import Derived.OneCell
set_option linter.unusedSimpArgs false
set_option linter.unusedVariables false
set_option linter.unnecessarySimpa false
section
/- Plain: walks in a graph of sheets whose legs have weights;rounds that are left out;the greatest walks of so many legs and the greatest mean of rounds (Karp). -/
namespace Sheet
abbrev Edge:=Nat × Nat × Int
inductive Wk (E:List Edge):Nat -> Nat -> Nat -> Int -> Prop
 | nil (a:Nat):Wk E a a 0 0
 | snoc {a b c k:Nat} {s w:Int} (h:Wk E a b k s) (e:(b,c,w) ∈ E):Wk E a c (k + 1) (s + w)
variable {E:List Edge} {a b c k l:Nat} {s t w:Int}
theorem Wk.one (e:(a,b,w) ∈ E):Wk E a b 1 w:=by
 have:=(Wk.nil (E:=E) a).snoc e;simpa using this
theorem Wk.append (h1:Wk E a b k s) (h2:Wk E b c l t):Wk E a c (k + l) (s + t):=by
 induction h2 with
 | nil=>simpa using h1
 | snoc h e ih =>
  have:=ih.snoc e;rw [Int.add_assoc] at this;exact this
theorem Wk.of_eq (h:Wk E a b k s) (hk:k = l) (hs:s = t):Wk E a b l t:=by subst hk hs;exact h
theorem Wk.rows (h:Wk E a b k s):∃ (v:Nat -> Nat) (u:Nat -> Int),v 0 = a /\ v k = b /\ u 0 = 0 /\ u k = s /\ ∀ i,i < k -> (v i,v (i + 1),u (i + 1) - u i) ∈ E:=by
 induction h with
 | nil=>exact ⟨fun _=>a,fun _=>0,rfl,rfl,rfl,rfl,fun i hi=>absurd hi (Nat.not_lt_zero _)⟩
 | @snoc b c k s w h e ih =>
  obtain ⟨v,u,h0,hk,u0,uk,hi⟩:=ih;refine ⟨fun i=>if i <= k then v i else c,fun i=>if i <= k then u i else s + w,by simp [h0],if_neg (by omega),by simp [u0],if_neg (by omega),fun i hik=>?_⟩;by_cases e1:i < k
  ·have:=hi i e1;simp only [show i <= k by omega,show i + 1 <= k by omega,if_true];exact this
  ·have e2:i = k:=by omega
   subst e2;simp only [Nat.le_refl,if_true,show ¬ (i + 1 <= i) by omega,if_false,hk,uk];have:s + w - s = w:=by omega
   rw [this];exact e
theorem Wk.of_rows {v:Nat -> Nat} {u:Nat -> Int}:∀ (m i:Nat),(∀ j,i <= j -> j < i + m -> (v j,v (j + 1),u (j + 1) - u j) ∈ E) -> Wk E (v i) (v (i + m)) m (u (i + m) - u i)
 | 0,i,_=>(Wk.nil (v i)).of_eq rfl (by simp)
 | m + 1,i,h=>by
  have h1:=Wk.of_rows m i fun j h1 h2=>h j h1 (by omega)
  have h2:=h1.snoc (h (i + m) (by omega) (by omega));exact h2.of_eq rfl (by rw [show i + (m + 1) = i + m + 1 from rfl];omega)
theorem twice:∀ (n:Nat) (f:Nat -> Nat),(∀ i,i <= n -> f i < n) -> ∃ i j,i < j /\ j <= n /\ f i = f j
 | 0,f,h=>absurd (h 0 (Nat.le_refl _)) (Nat.not_lt_zero _)
 | n + 1,f,h=>by
  by_cases hx:∃ i,i <= n /\ f i = f (n + 1)
  ·obtain ⟨i,hi,e⟩:=hx;exact ⟨i,n + 1,by omega,Nat.le_refl _,e⟩
  ·have hne:∀ i,i <= n -> f i ≠ f (n + 1):=fun i hi e=>hx ⟨i,hi,e⟩
   obtain ⟨i,j,hij,hj,e⟩:=twice n (fun i=>if f i > f (n + 1) then f i - 1 else f i) fun i hi=>by
    have h1:=h i (by omega);have h2:=h (n + 1) (Nat.le_refl _);have h3:=hne i hi;show (if f i > f (n + 1) then f i - 1 else f i) < n;split <;> omega
   refine ⟨i,j,hij,by omega,?_⟩;have h1:=hne i (by omega);have h2:=hne j (by omega);have e:(if f i > f (n + 1) then f i - 1 else f i) = (if f j > f (n + 1) then f j - 1 else f j):=e;split at e <;> split at e <;> omega
def In (E:List Edge) (n:Nat):Prop:=∀ a b w,(a,b,w) ∈ E -> a < n /\ b < n
theorem Wk.round {n:Nat} (hE:In E n) (h:Wk E a b k s) (hk:n <= k) (h0:0 < k):∃ c i j l s1 s2 s3,Wk E a c i s1 /\ Wk E c c j s2 /\ Wk E c b l s3 /\ 0 < j /\ i + j + l = k /\ s1 + s2 + s3 = s:=by
 obtain ⟨v,u,v0,vk,u0,uk,he⟩:=h.rows
 have hv:∀ i,i <= k -> v i < n:=fun i hi=>by
  by_cases e:i < k
  ·exact (hE _ _ _ (he i e)).1
  ·have e2:i = (k - 1) + 1:=by omega
   rw [e2];exact (hE _ _ _ (he (k - 1) (by omega))).2
 obtain ⟨i,j,hij,hj,e⟩:=twice n v fun i hi=>hv i (by omega)
 refine ⟨v i,i,j - i,k - j,u i - u 0,u j - u i,u k - u j,?_,?_,?_,by omega,by omega,by omega⟩
 ·have:=Wk.of_rows (E:=E) (v:=v) (u:=u) i 0 fun x _ h2=>he x (by omega)
  rw [Nat.zero_add,v0] at this;exact this
 ·have:=Wk.of_rows (E:=E) (v:=v) (u:=u) (j - i) i fun x _ h2=>he x (by omega)
  rw [show i + (j - i) = j by omega,<- e] at this;exact this
 ·have:=Wk.of_rows (E:=E) (v:=v) (u:=u) (k - j) j fun x _ h2=>he x (by omega)
  rw [show j + (k - j) = k by omega,vk,<- e] at this;exact this
def AtMost (E:List Edge) (p q:Int):Prop:=∀ a k s,Wk E a a k s -> 0 < k -> q * s <= p * k
theorem Wk.short {n:Nat} {p q:Int} (hE:In E n) (hn:0 < n) (hm:AtMost E p q):∀ (m:Nat) {a b k:Nat} {s:Int},k <= m -> Wk E a b k s -> ∃ k' s',k' < n /\ k' <= k /\ Wk E a b k' s' /\ q * s - p * k <= q * s' - p * k'
 | 0,a,b,k,s,hk,h=>⟨k,s,by omega,Nat.le_refl _,h,Int.le_refl _⟩
 | m + 1,a,b,k,s,hk,h=>by
  by_cases e:k < n
  ·exact ⟨k,s,e,Nat.le_refl _,h,Int.le_refl _⟩
  ·obtain ⟨c,i,j,l,s1,s2,s3,h1,h2,h3,hj,hk2,hs2⟩:=h.round hE (by omega) (by omega);obtain ⟨k',s',a1,a2,a3,a4⟩:=Wk.short hE hn hm m (show i + l <= m by omega) (h1.append h3);refine ⟨k',s',a1,by omega,a3,Int.le_trans ?_ a4⟩;have:=hm c j s2 h2 hj;have e1:(k:Int) = i + j + l:=by omega
   rw [e1,<- hs2];have e2:q * (s1 + s2 + s3) = q * (s1 + s3) + q * s2:=by rw [<- Int.mul_add];congr 1;omega
   have e3:p * ((i:Int) + j + l) = p * ((i + l:Nat):Int) + p * j:=by rw [<- Int.mul_add];congr 1;omega
   rw [e2,e3];omega
def Best (E:List Edge) (k b:Nat) (m:Int):Prop:=(∃ a,Wk E a b k m) /\ ∀ a s,Wk E a b k s -> s <= m
theorem karp_le {n:Nat} {p q:Int} (hE:In E n) (hn:0 < n) (hm:AtMost E p q) (hq:0 <= q) {b:Nat} {m:Int} (hb:Best E n b m):∃ k mk,k < n /\ (∃ a,Wk E a b k mk) /\ ∀ mk',(∀ a s,Wk E a b k s -> s <= mk') -> q * (m - mk') <= p * ((n - k:Nat):Int):=by
 obtain ⟨⟨a,ha⟩,_⟩:=hb;obtain ⟨k,s,h1,h2,h3,h4⟩:=Wk.short hE hn hm n (Nat.le_refl _) ha;refine ⟨k,s,h1,⟨a,h3⟩,fun mk' hmk=>?_⟩;have h5:=Int.mul_le_mul_of_nonneg_left (hmk a s h3) hq;have e1:((n - k:Nat):Int) = (n:Int) - k:=by omega
 rw [e1,Int.mul_sub,Int.mul_sub];omega
theorem max_ex {P:Int -> Prop} {B:Int} (h0:∃ x,P x) (hB:∀ x,P x -> x <= B):∃ m,P m /\ ∀ x,P x -> x <= m:=by
 obtain ⟨x,hx⟩:=h0
 have main:∀ (d:Nat) (x:Int),P x -> (B - x).toNat <= d -> ∃ m,P m /\ ∀ y,P y -> y <= m:=by
  intro d
  induction d with
  | zero=>exact fun x hx hd=>⟨x,hx,fun y hy=>by have:=hB y hy;have:=hB x hx;omega⟩
  | succ d ih =>
   intro x hx hd;by_cases h:∃ y,P y /\ x < y
   ·obtain ⟨y,hy,hxy⟩:=h;exact ih y hy (by have:=hB y hy;omega)
   ·exact ⟨x,hx,fun y hy=>Int.not_lt.1 fun hlt=>h ⟨y,hy,hlt⟩⟩
 exact main _ x hx (Nat.le_refl _)
theorem edge_bound (p q:Int):∀ E:List Edge,∃ M:Int,0 <= M /\ ∀ a b w,(a,b,w) ∈ E -> q * w - p <= M
 | []=>⟨0,Int.le_refl _,fun _ _ _ h=>by cases h⟩
 | (a,b,w) :: r=>by
  obtain ⟨M,h0,hM⟩:=edge_bound p q r;refine ⟨max M (q * w - p),by omega,fun a' b' w' h=>?_⟩;rcases List.mem_cons.1 h with e | h
  ·cases e;omega
  ·have:=hM a' b' w' h;omega
theorem Wk.bound {p q M:Int} (hM:∀ a b w,(a,b,w) ∈ E -> q * w - p <= M) (h:Wk E a b k s):q * s - p * k <= M * k:=by
 induction h with
 | nil=>simp
 | @snoc b c k s w h e ih =>
  have:=hM _ _ _ e;have e1:q * (s + w) = q * s + q * w:=Int.mul_add _ _ _;have e2:p * ((k + 1:Nat):Int) = p * k + p:=by rw [Int.natCast_add,Int.mul_add];simp
  have e3:M * ((k + 1:Nat):Int) = M * k + M:=by rw [Int.natCast_add,Int.mul_add];simp
  rw [e1,e2,e3];omega
theorem Wk.times (h:Wk E a a k s):∀ f:Nat,Wk E a a (f * k) (f * s)
 | 0=>(Wk.nil a).of_eq (by simp) (by simp)
 | f + 1=>((Wk.times h f).append h).of_eq (by rw [Nat.add_mul,Nat.one_mul]) (by rw [Int.natCast_add,Int.add_mul];simp)
theorem karp_ge {n:Nat} {p q:Int} (hE:In E n) (hn:0 < n) (hm:AtMost E p q) {c j:Nat} {sc:Int} (hc:Wk E c c j sc) (hj:0 < j) (hs:q * sc = p * j) :
  ∃ b s,(∃ a,Wk E a b n s) /\ ∀ k a' s',k < n -> Wk E a' b k s' -> p * ((n - k:Nat):Int) <= q * (s - s'):=by
 have hmax:∃ k a s,k < n /\ Wk E a c k s /\ ∀ a' k' s',Wk E a' c k' s' -> q * s' - p * k' <= q * s - p * k:=by
  obtain ⟨M,M0,hM⟩:=edge_bound p q E;obtain ⟨m,⟨k,a,s,h1,h2,rfl⟩,h3⟩:=max_ex (P:=fun x=>∃ k a s,k < n /\ Wk E a c k s /\ q * s - p * k = x) (B:=M * n) ⟨_,0,c,0,hn,.nil c,rfl⟩ (by
   rintro x ⟨k,a,s,h1,h2,rfl⟩;have h4:=h2.bound hM;have h5:M * (k:Int) <= M * n:=Int.mul_le_mul_of_nonneg_left (by omega) M0;omega)
  refine ⟨k,a,s,h1,h2,fun a' k' s' h=>?_⟩;obtain ⟨k2,s2,h5,-,h6,h7⟩:=Wk.short hE hn hm k' (Nat.le_refl _) h;exact Int.le_trans h7 (h3 _ ⟨k2,a',s2,h5,h6,rfl⟩)
 obtain ⟨k,a,s,hk,hw,hall⟩:=hmax;obtain ⟨v,u,v0,vj,u0,uj,he⟩:=hc.rows;have hdm:(n - k) / j * j + (n - k) % j = n - k:=by rw [Nat.mul_comm];exact Nat.div_add_mod _ _
 have hlt:(n - k) % j < j:=Nat.mod_lt _ hj;generalize (n - k) / j = f at hdm;generalize (n - k) % j = r at hdm hlt
 have w1:Wk E c (v r) r (u r):=by
  have:=Wk.of_rows (E:=E) (v:=v) (u:=u) r 0 fun x _ h2=>he x (by omega)
  rw [Nat.zero_add,v0,u0] at this;exact this.of_eq rfl (by omega)
 have w2:Wk E (v r) c (j - r) (sc - u r):=by
  have:=Wk.of_rows (E:=E) (v:=v) (u:=u) (j - r) r fun x _ h2=>he x (by omega)
  rw [show r + (j - r) = j by omega,vj,uj] at this;exact this
 refine ⟨v r,s + f * sc + u r,⟨a,((hw.append (hc.times f)).append w1).of_eq (by omega) rfl⟩,fun k' a' s' hk' hw'=>?_⟩;have h1:=hall a' (k' + (j - r)) (s' + (sc - u r)) (hw'.append w2);have e1:q * (s' + (sc - u r)) = q * s' + (p * j - q * u r):=by rw [Int.mul_add,Int.mul_sub,hs]
 have e2:p * ((k' + (j - r):Nat):Int) = p * k' + (p * j - p * r):=by rw [show ((k' + (j - r):Nat):Int) = (k':Int) + ((j:Int) - r) by omega,Int.mul_add,Int.mul_sub]
 have e3:q * (s + f * sc + u r - s') = q * s + f * (p * j) + q * u r - q * s':=by
  rw [Int.mul_sub,Int.mul_add,Int.mul_add,Int.mul_left_comm q (f:Int) sc,hs]
 have e4:p * ((n - k':Nat):Int) = p * n - p * k':=by rw [show ((n - k':Nat):Int) = (n:Int) - k' by omega,Int.mul_sub]
 have e5:p * (n:Int) = p * k + f * (p * j) + p * r:=by
  have:(n:Int) = k + f * j + r:=by
   have h2:k + (f * j + r) = n:=by omega
   rw [<- h2];simp [Int.natCast_add,Int.natCast_mul,Int.add_assoc]
  rw [this,Int.mul_add,Int.mul_add,Int.mul_left_comm p (f:Int) (j:Int)]
 rw [e1,e2] at h1;rw [e3,e4,e5];omega
end Sheet
end
section
/- Plain: fractions in lowest terms. -/
namespace Sheet
def low (n d:Int):Int × Int:=(n / (Nat.gcd n.natAbs d.toNat:Nat),d / (Nat.gcd n.natAbs d.toNat:Nat))
theorem low_facts (n d:Int) (hd:0 < d):∃ g:Int,0 < g /\ n = (low n d).1 * g /\ d = (low n d).2 * g /\ 0 < (low n d).2 /\ Nat.gcd (low n d).1.natAbs (low n d).2.toNat = 1:=by
 have hg:0 < Nat.gcd n.natAbs d.toNat:=Nat.gcd_pos_of_pos_right _ (by omega)
 have h1:((Nat.gcd n.natAbs d.toNat:Nat):Int) ∣ n:=by
  rw [<- Int.dvd_natAbs];exact Int.natCast_dvd_natCast.2 (Nat.gcd_dvd_left _ _)
 have h2:((Nat.gcd n.natAbs d.toNat:Nat):Int) ∣ d:=by
  have e:d = (d.toNat:Int):=by omega
  rw [e];simp only [Int.toNat_natCast];exact Int.natCast_dvd_natCast.2 (Nat.gcd_dvd_right _ _)
 have hgi:0 < ((Nat.gcd n.natAbs d.toNat:Nat):Int):=by omega
 have hp:0 < (low n d).2:=Int.ediv_pos_of_pos_of_dvd hd (by omega) h2;refine ⟨_,hgi,(Int.ediv_mul_cancel h1).symm,(Int.ediv_mul_cancel h2).symm,hp,?_⟩
 have e1:n.natAbs / Nat.gcd n.natAbs d.toNat = (low n d).1.natAbs:=by
  unfold low;simp only;rw [Int.natAbs_ediv_of_dvd h1];rfl
 have e2:d.toNat / Nat.gcd n.natAbs d.toNat = (low n d).2.toNat:=by
  unfold low;simp only;generalize Nat.gcd n.natAbs d.toNat = g;have e:d = (d.toNat:Int):=by omega
  conv=>rhs;rw [e]
  rw [<- Int.natCast_ediv,Int.toNat_natCast]
 rw [<- e1,<- e2];exact Nat.coprime_div_gcd_div_gcd hg
theorem low_same {n d n' d':Int} (hd:0 < d) (hd':0 < d') (h:n * d' = n' * d):low n d = low n' d':=by
 obtain ⟨g,g0,hn,hdd,hp,hc⟩:=low_facts n d hd;obtain ⟨g',g0',hn',hdd',hp',hc'⟩:=low_facts n' d' hd';generalize low n d = x at *;generalize low n' d' = y at *;obtain ⟨x1,x2⟩:=x;obtain ⟨y1,y2⟩:=y;simp only at *
 have e:x1 * y2 = y1 * x2:=by
  have e1:x1 * y2 * (g * g') = y1 * x2 * (g * g'):=by
   rw [hn,hdd',hn',hdd] at h
   calc x1 * y2 * (g * g') = x1 * g * (y2 * g'):=by rw [Int.mul_assoc,Int.mul_assoc,Int.mul_left_comm y2 g g']
    _ = y1 * g' * (x2 * g):=h
    _ = y1 * x2 * (g * g'):=by rw [Int.mul_assoc,Int.mul_assoc,Int.mul_left_comm g' x2 g,Int.mul_comm g' g]
  exact Int.eq_of_mul_eq_mul_right (Int.ne_of_gt (Int.mul_pos g0 g0')) e1
 have en:x1.natAbs * y2.toNat = y1.natAbs * x2.toNat:=by
  have e2:=congrArg Int.natAbs e;rw [Int.natAbs_mul,Int.natAbs_mul] at e2;have a1:y2.natAbs = y2.toNat:=by omega
  have a2:x2.natAbs = x2.toNat:=by omega
  rw [a1,a2] at e2;exact e2
 have d1:x2.toNat ∣ y2.toNat:=by
  have:x2.toNat ∣ x1.natAbs * y2.toNat:=⟨y1.natAbs,by rw [en,Nat.mul_comm]⟩;exact (Nat.Coprime.symm hc:Nat.Coprime x2.toNat x1.natAbs).dvd_of_dvd_mul_left this
 have d2:y2.toNat ∣ x2.toNat:=by
  have:y2.toNat ∣ y1.natAbs * x2.toNat:=⟨x1.natAbs,by rw [<- en,Nat.mul_comm]⟩;exact (Nat.Coprime.symm hc':Nat.Coprime y2.toNat y1.natAbs).dvd_of_dvd_mul_left this
 have e3:x2 = y2:=by
  have:=Nat.dvd_antisymm d1 d2;omega
 subst e3;have e4:x1 = y1:=Int.eq_of_mul_eq_mul_right (Int.ne_of_gt hp) e;rw [e4]
end Sheet
end
section
/- Plain: the least play of a graph: no round has more a leg,and some round has it (or it is 0);there is one,and it is one number. -/
namespace Sheet
structure Least (E:List Edge) (p q:Int):Prop where
 q0:0 < q
 p0:0 <= p
 most:AtMost E p q
 has:p = 0 \/ ∃ c j s,Wk E c c j s /\ 0 < j /\ q * s = p * j
theorem Least.le {E:List Edge} {p q p' q':Int} (h:Least E p q) (hm:AtMost E p' q') (hp':0 <= p'):p * q' <= p' * q:=by
 rcases h.has with e | ⟨c,j,s,hw,hj,e⟩
 ·subst e;have:=Int.mul_nonneg hp' (Int.le_of_lt h.q0);omega
 ·have h1:=hm c j s hw hj;have hj':(0:Int) < j:=by omega
  have h2:p * q' * j <= p' * q * j:=by
   have e1:p * q' * j = q * (q' * s):=by
    rw [Int.mul_left_comm q q' s,e,Int.mul_comm p q',Int.mul_assoc]
   have e2:p' * q * j = q * (p' * j):=by rw [Int.mul_comm p' q,Int.mul_assoc]
   rw [e1,e2];exact Int.mul_le_mul_of_nonneg_left h1 (Int.le_of_lt h.q0)
  exact Int.le_of_mul_le_mul_right h2 hj'
theorem Least.same {E:List Edge} {p q p' q':Int} (h:Least E p q) (h':Least E p' q'):p * q' = p' * q :=
 Int.le_antisymm (h.le h'.most h'.p0) (h'.le h.most h.p0)
theorem Least.low {E:List Edge} {p q p' q':Int} (h:Least E p q) (h':Least E p' q'):Sheet.low p q = Sheet.low p' q':=low_same h.q0 h'.q0 (h.same h')
theorem round_parts {E:List Edge} {n:Nat} (hE:In E n) {a k:Nat} {s:Int} (h:Wk E a a k s) (hk:n < k):∃ c j s1 l s2,Wk E c c j s1 /\ Wk E a a l s2 /\ 0 < j /\ 0 < l /\ j < k /\ l < k /\ j + l = k /\ s1 + s2 = s:=by
 obtain ⟨v,u,v0,vk,u0,uk,he⟩:=h.rows;have hv:∀ i,i <= n -> v i < n:=fun i hi=>(hE _ _ _ (he i (by omega))).1
 obtain ⟨i,j,hij,hj,e⟩:=twice n v hv;refine ⟨v i,j - i,u j - u i,i + (k - j),(u i - u 0) + (u k - u j),?_,?_,by omega,by omega,by omega,by omega,by omega,by omega⟩
 ·have:=Wk.of_rows (E:=E) (v:=v) (u:=u) (j - i) i fun x _ h2=>he x (by omega)
  rw [show i + (j - i) = j by omega,<- e] at this;exact this
 ·have h1:=Wk.of_rows (E:=E) (v:=v) (u:=u) i 0 fun x _ h2=>he x (by omega)
  rw [Nat.zero_add,v0] at h1;have h2:=Wk.of_rows (E:=E) (v:=v) (u:=u) (k - j) j fun x _ h2=>he x (by omega)
  rw [show j + (k - j) = k by omega,vk,<- e] at h2;exact h1.append h2
theorem most_short {E:List Edge} {n:Nat} {p q:Int} (hE:In E n) (h:∀ a k s,Wk E a a k s -> 0 < k -> k <= n -> q * s <= p * k):AtMost E p q:=by
 have main:∀ (m a k:Nat) (s:Int),k <= m -> Wk E a a k s -> 0 < k -> q * s <= p * k:=by
  intro m
  induction m with
  | zero=>intro a k s hk _ h0;omega
  | succ m ih =>
   intro a k s hk hw h0;by_cases e:k <= n
   ·exact h a k s hw h0 e
   ·obtain ⟨c,j,s1,l,s2,w1,w2,j0,l0,jk,lk,e1,e2⟩:=round_parts hE hw (by omega);have h1:=ih c j s1 (by omega) w1 j0;have h2:=ih a l s2 (by omega) w2 l0;have e3:(k:Int) = j + l:=by omega
    rw [<- e2,e3,Int.mul_add,Int.mul_add];omega
 exact fun a k s hw h0=>main k a k s (Nat.le_refl _) hw h0
theorem least_ex {E:List Edge} {n:Nat} (hE:In E n):∃ p q,Least E p q:=by
 have main:∀ m:Nat,∃ p q:Int,0 < q /\ 0 <= p /\ (∀ a k s,Wk E a a k s -> 0 < k -> k <= m -> q * s <= p * k) /\ (p = 0 \/ ∃ c j s,Wk E c c j s /\ 0 < j /\ q * s = p * j):=by
  intro m
  induction m with
  | zero=>exact ⟨0,1,by decide,by decide,fun a k s _ h0 hk=>by omega,.inl rfl⟩
  | succ m ih =>
   obtain ⟨p,q,q0,p0,hm,hs⟩:=ih;by_cases hx:∃ a s,Wk E a a (m + 1) s /\ p * (m + 1:Nat) < q * s
   ·obtain ⟨a,s,hw,hlt⟩:=hx;obtain ⟨M,M0,hM⟩:=edge_bound 0 1 E;obtain ⟨t,⟨b,hb⟩,ht⟩:=max_ex (P:=fun x=>∃ b,Wk E b b (m + 1) x) (B:=M * (m + 1:Nat)) ⟨s,a,hw⟩ (by
     rintro x ⟨b,hb⟩;have:=hb.bound hM;simpa using this)
    have hst:=ht s ⟨a,hw⟩;have hq:q * s <= q * t:=Int.mul_le_mul_of_nonneg_left hst (Int.le_of_lt q0);have hp1:0 <= p * ((m + 1:Nat):Int):=Int.mul_nonneg p0 (by omega)
    have ht0:0 < t:=by
     refine Int.lt_of_not_ge fun hle=>?_
     have:q * t <= 0:=by
      have:=Int.mul_le_mul_of_nonneg_left hle (Int.le_of_lt q0);simpa using this
     omega
    refine ⟨t,((m + 1:Nat):Int),by omega,by omega,fun a' k s' hw' h0 hk=>?_,.inr ⟨b,m + 1,t,hb,by omega,Int.mul_comm _ _⟩⟩;by_cases e:k <= m
    ·have h1:=hm a' k s' hw' h0 e
     have h2:q * (((m + 1:Nat):Int) * s') <= q * (t * k):=by
      have a1:q * (((m + 1:Nat):Int) * s') = ((m + 1:Nat):Int) * (q * s'):=Int.mul_left_comm _ _ _;have a2:((m + 1:Nat):Int) * (q * s') <= ((m + 1:Nat):Int) * (p * k):=Int.mul_le_mul_of_nonneg_left h1 (by omega);have a3:((m + 1:Nat):Int) * (p * k) = (p * ((m + 1:Nat):Int)) * k:=by rw [<- Int.mul_assoc,Int.mul_comm ((m + 1:Nat):Int) p]
      have a4:(p * ((m + 1:Nat):Int)) * k <= (q * t) * k:=Int.mul_le_mul_of_nonneg_right (by omega) (by omega);have a5:(q * t) * (k:Int) = q * (t * k):=Int.mul_assoc _ _ _;omega
     exact Int.le_of_mul_le_mul_left h2 q0
    ·have ek:k = m + 1:=by omega
     subst ek;have:=ht s' ⟨a',hw'⟩;rw [Int.mul_comm t];exact Int.mul_le_mul_of_nonneg_left this (by omega)
   ·refine ⟨p,q,q0,p0,fun a' k s' hw' h0 hk=>?_,hs⟩;by_cases e:k <= m
    ·exact hm a' k s' hw' h0 e
    ·have ek:k = m + 1:=by omega
     subst ek;exact Int.not_lt.1 fun hlt=>hx ⟨a',s',hw',hlt⟩
 obtain ⟨p,q,q0,p0,hm,hs⟩:=main n;exact ⟨p,q,q0,p0,most_short hE hm,hs⟩
end Sheet
end
section
/- Plain: what Karp's sums say of the least play. -/
namespace Sheet
def Table (E:List Edge) (W:Nat -> Nat -> Option Int) (k b:Nat):Prop:=(∀ m,W k b = some m -> Best E k b m) /\ (W k b = none -> ∀ a s,¬ Wk E a b k s)
structure Shows (n:Nat) (W:Nat -> Nat -> Option Int) (a:Nat) (m x y:Int):Prop where
 y0:0 < y
 has:∃ k mk,k < n /\ W k a = some mk /\ x * ((n - k:Nat):Int) = (m - mk) * y
 all:∀ k mk,k < n -> W k a = some mk -> x * ((n - k:Nat):Int) <= (m - mk) * y
theorem karp {E:List Edge} {n:Nat} {W:Nat -> Nat -> Option Int} (hE:In E n) (hn:0 < n) (hW:∀ k b,k <= n -> b < n -> Table E W k b) {p q:Int} (hL:Least E p q) {N D:Int} (hD:0 < D) (hN:0 <= N)
  (h1:N = 0 \/ ∃ a m,a < n /\ W n a = some m /\ Shows n W a m N D) (h2:∀ a m,a < n -> W n a = some m -> ∃ x y,Shows n W a m x y /\ x * D <= N * y):N * q = p * D:=by
 have hq:=hL.q0;refine Int.le_antisymm ?_ ?_
 ·rcases h1 with rfl | ⟨a,m,ha,hm,hs⟩
  ·have:=Int.mul_nonneg hL.p0 (Int.le_of_lt hD);omega
  ·obtain ⟨k,mk,hk,⟨c,hc⟩,hb⟩:=karp_le hE hn hL.most (Int.le_of_lt hq) ((hW n a (Nat.le_refl _) ha).1 m hm)
   cases hwk:W k a with
   | none=>exact absurd hc ((hW k a (by omega) ha).2 hwk c mk)
   | some wk =>
    have h3:=hb wk ((hW k a (by omega) ha).1 wk hwk).2;have h4:=hs.all k wk hk hwk;have hnk:(0:Int) < ((n - k:Nat):Int):=by omega
    generalize ((n - k:Nat):Int) = r at h3 h4 hnk
    have h5:N * q * r <= p * D * r:=by
     have a1:N * q * r = q * (N * r):=by rw [Int.mul_comm N q,Int.mul_assoc]
     have a2:q * (N * r) <= q * ((m - wk) * D):=Int.mul_le_mul_of_nonneg_left h4 (Int.le_of_lt hq);have a3:q * ((m - wk) * D) = q * (m - wk) * D:=(Int.mul_assoc _ _ _).symm;have a4:q * (m - wk) * D <= p * r * D:=Int.mul_le_mul_of_nonneg_right h3 (Int.le_of_lt hD);have a5:p * r * D = p * D * r:=by rw [Int.mul_assoc,Int.mul_comm r D,<- Int.mul_assoc]
     omega
    exact Int.le_of_mul_le_mul_right h5 hnk
 ·rcases hL.has with rfl | ⟨c,j,sc,hw,hj,hs⟩
  ·have:=Int.mul_nonneg hN (Int.le_of_lt hq);omega
  ·obtain ⟨b,s,⟨a,ha⟩,hall⟩:=karp_ge hE hn hL.most hw hj hs
   have hb:b < n:=by
    cases ha with
    | nil=>omega
    | snoc _ e=>exact (hE _ _ _ e).2
   cases hm:W n b with
   | none=>exact absurd ha ((hW n b (Nat.le_refl _) hb).2 hm a s)
   | some m =>
    have hsm:=((hW n b (Nat.le_refl _) hb).1 m hm).2 a s ha;obtain ⟨x,y,hsh,hxy⟩:=h2 b m hb hm;obtain ⟨k,mk,hk,hwk,he⟩:=hsh.has;obtain ⟨⟨a',ha'⟩,_⟩:=(hW k b (by omega) hb).1 mk hwk;have h3:=hall k a' mk hk ha';have h4:q * (s - mk) <= q * (m - mk):=Int.mul_le_mul_of_nonneg_left (by omega) (Int.le_of_lt hq);have hnk:(0:Int) < ((n - k:Nat):Int):=by omega
    generalize ((n - k:Nat):Int) = r at h3 he hnk;have h5:p * r <= q * (m - mk):=Int.le_trans h3 h4
    have h6:p * y <= q * x:=by
     have a1:p * y * r <= q * x * r:=by
      have b1:p * y * r = p * r * y:=by rw [Int.mul_assoc,Int.mul_comm y r,<- Int.mul_assoc]
      have b2:p * r * y <= q * (m - mk) * y:=Int.mul_le_mul_of_nonneg_right h5 (Int.le_of_lt hsh.y0);have b3:q * (m - mk) * y = q * (x * r):=by rw [Int.mul_assoc,he]
      have b4:q * (x * r) = q * x * r:=(Int.mul_assoc _ _ _).symm;omega
     exact Int.le_of_mul_le_mul_right a1 hnk
    have h7:p * D * y <= N * q * y:=by
     have b1:p * D * y = p * y * D:=by rw [Int.mul_assoc,Int.mul_comm D y,<- Int.mul_assoc]
     have b2:p * y * D <= q * x * D:=Int.mul_le_mul_of_nonneg_right h6 (Int.le_of_lt hD);have b3:q * x * D = q * (x * D):=Int.mul_assoc _ _ _;have b4:q * (x * D) <= q * (N * y):=Int.mul_le_mul_of_nonneg_left hxy (Int.le_of_lt hq);have b5:q * (N * y) = N * q * y:=by rw [<- Int.mul_assoc,Int.mul_comm q N]
     omega
    exact Int.le_of_mul_le_mul_right h7 hsh.y0
end Sheet
end
section
/- Plain: the reference's table of greatest walks,leg by leg. -/
namespace Sheet
variable {E:List Edge} {n:Nat} {W:Nat -> Nat -> Option Int}
theorem table_zero (h:∀ b,b < n -> W 0 b = some 0) {b:Nat} (hb:b < n):Table E W 0 b:=by
 refine ⟨fun m hm=>?_,fun hm=>?_⟩
 ·rw [h b hb] at hm;cases hm;refine ⟨⟨b,.nil b⟩,fun a s hw=>?_⟩;cases hw;exact Int.le_refl _
 ·rw [h b hb] at hm;cases hm
theorem table_step (hE:In E n) {k:Nat} (h:∀ b,b < n -> Table E W k b) {c:Nat}
  (hs:∀ m,W (k + 1) c = some m -> ∃ b w y,(b,c,w) ∈ E /\ W k b = some y /\ m = y + w) (hl:∀ b w y,(b,c,w) ∈ E -> W k b = some y -> ∃ m,W (k + 1) c = some m /\ y + w <= m):Table E W (k + 1) c:=by
 have key:∀ a s,Wk E a c (k + 1) s -> ∃ m,W (k + 1) c = some m /\ s <= m:=by
  intro a s hw
  cases hw with
  | @snoc b _ _ s' w h1 e =>
   have hb:=(hE _ _ _ e).1
   cases hy:W k b with
   | none=>exact absurd h1 ((h b hb).2 hy a s')
   | some y =>
    obtain ⟨m,h2,h3⟩:=hl b w y e hy;have:=((h b hb).1 y hy).2 a s' h1;exact ⟨m,h2,by omega⟩
 refine ⟨fun m hm=>⟨?_,fun a s hw=>?_⟩,fun hm a s hw=>?_⟩
 ·obtain ⟨b,w,y,h1,h2,rfl⟩:=hs m hm;obtain ⟨⟨a,h3⟩,_⟩:=(h b (hE _ _ _ h1).1).1 y h2;exact ⟨a,h3.snoc h1⟩
 ·obtain ⟨m',h1,h2⟩:=key a s hw;rw [hm] at h1;cases h1;exact h2
 ·obtain ⟨m',h1,_⟩:=key a s hw;rw [hm] at h1;cases h1
end Sheet
end
section
/- Words for memory that the walks of this seat use: a later world,a slice that reads as a list. -/
namespace Go
open Go.RowKit
structure Later (w:World) where
 to:World
 ok:Below w.heap.size w to
def World.lat (w:World) (u:Later w):World:=u.to
theorem World.lat_below (w:World) (u:Later w):Below w.heap.size w (w.lat u):=u.ok
theorem World.lat_of {w w':World} (h:Below w.heap.size w w'):∃ u:Later w,w' = w.lat u:=⟨⟨w',h⟩,rfl⟩
theorem World.lat_size (w:World) (u:Later w):w.heap.size <= (w.lat u).heap.size:=u.ok.size
section
variable (w:World) (u:Later w)
@[go_sem] theorem World.lat_cell (n i:Nat) (h:n < w.heap.size):(w.lat u).cell? ⟨n,i,none⟩ = w.cell? ⟨n,i,none⟩:=(w.lat_below u).cell (p:=⟨n,i,none⟩) h
@[go_sem] theorem World.lat_frozen (n i:Nat) (h:n < w.heap.size):(w.lat u).frozen? ⟨n,i,none⟩ = w.frozen? ⟨n,i,none⟩:=(w.lat_below u).frozen (p:=⟨n,i,none⟩) h
@[go_sem] theorem World.lat_heap (n:Nat) (h:n < w.heap.size):(w.lat u).heap[n]? = w.heap[n]?:=(w.lat_below u).block n h
@[go_sem] theorem World.lat_lt (n:Nat) (h:n < w.heap.size):(n < (w.lat u).heap.size) = True:=eq_true (Nat.lt_of_lt_of_le h (w.lat_size u))
end
theorem lt_succ_true (n m:Nat) (h:n < m):(n < m + 1) = True:=eq_true (by omega)
attribute [go_sem] lt_succ_true
def Later.refl (w:World):Later w:=⟨w,Below.refl _ _⟩
def Later.trans {w:World} (u:Later w) (v:Later (w.lat u)):Later w:=⟨(w.lat u).lat v,u.ok.trans (v.ok.mono u.ok.size)⟩
@[go_sem] theorem World.lat_lat (w:World) (u:Later w) (v:Later (w.lat u)):(w.lat u).lat v = w.lat (u.trans v):=rfl
def Later.drew {w:World} (u:Later w):Later w:=⟨(w.lat u).drew,u.ok.drew⟩
@[go_sem] theorem World.lat_drew (w:World) (u:Later w):(w.lat u).drew = w.lat u.drew:=rfl
def Later.drewN {w:World} (u:Later w) (n:Nat):Later w:=⟨(w.lat u).drewN n,below_drewN u.ok n⟩
@[go_sem] theorem World.lat_drewN (w:World) (u:Later w) (n:Nat):(w.lat u).drewN n = w.lat (u.drewN n):=rfl
def Later.ofDrewN (w:World) (n:Nat):Later w:=⟨w.drewN n,below_drewN (Below.refl _ _) n⟩
def Aft (w:World) (w':World):Prop:=∃ u:Later w,w' = w.lat u
theorem Aft.of_below {w w':World} (h:Below w.heap.size w w'):Aft w w':=World.lat_of h
theorem Aft.below {w w':World} (h:Aft w w'):Below w.heap.size w w':=by obtain ⟨u,rfl⟩:=h;exact w.lat_below u
theorem Aft.refl (w:World):Aft w w:=⟨Later.refl w,rfl⟩
theorem Aft.trans {a b c:World} (h:Aft a b) (k:Aft b c):Aft a c:=by
 obtain ⟨u,rfl⟩:=h;obtain ⟨v,rfl⟩:=k;exact ⟨u.trans v,rfl⟩
theorem Aft.lat (w:World) (u:Later w):Aft w (w.lat u):=⟨u,rfl⟩
theorem Aft.drewN (w:World) (n:Nat):Aft w (w.drewN n):=⟨Later.ofDrewN w n,rfl⟩
theorem Aft.drew (w:World):Aft w w.drew:=⟨Later.ofDrewN w 1,rfl⟩
theorem Aft.alloc (w:World) (o:Obj):Aft w (w.alloc o):=.of_below ((Below.refl _ _).alloc (Nat.le_refl _) o)
theorem Aft.then_alloc {a w:World} (h:Aft a w) (o:Obj):Aft a (w.alloc o):=h.trans (.alloc w o)
theorem Aft.then_drew {a w:World} (h:Aft a w):Aft a w.drew:=h.trans (.drew w)
theorem Aft.then_drewN {a w:World} (h:Aft a w) (n:Nat):Aft a (w.drewN n):=h.trans (.drewN w n)
theorem Aft.then_lat {a w:World} (h:Aft a w) (u:Later w):Aft a (w.lat u):=h.trans (.lat w u)
theorem Aft.then_setCell {a w:World} (h:Aft a w) {p:Addr} (hp:a.heap.size <= p.block) (v:Value):Aft a (w.setCell p v) :=
 .of_below (h.below.setCell hp v)
theorem Aft.size {a w:World} (h:Aft a w):a.heap.size <= w.heap.size:=h.below.size
section rows
variable {α:Type}
def RowsP (w:World) (A:Option Addr) (sz:Nat) (R:World -> α -> List Value -> Prop) (l:List α):Prop :=
 l.length * sz <= 17592186043904 /\ (l = [] \/ ∃ b o,A = some ⟨b,o,none⟩ /\ b < w.heap.size /\
  ∀ i,(h:i < l.length) -> ∃ vs:List Value,vs.length = sz /\ R w l[i] vs /\ ∀ j,(hj:j < vs.length) -> w.cell? ⟨b,o + i * sz + j,none⟩ = some vs[j])
def MonoR (R:World -> α -> List Value -> Prop):Prop:=∀ w u x vs,R w x vs -> R (w.lat u) x vs
theorem RowsP.lat {w:World} {A:Option Addr} {sz:Nat} {R:World -> α -> List Value -> Prop} {l:List α} (hR:MonoR R) (h:RowsP w A sz R l) (u:Later w):RowsP (w.lat u) A sz R l:=by
 refine ⟨h.1,?_⟩;rcases h.2 with h | ⟨b,o,rfl,hb,hc⟩
 ·exact .inl h
 ·refine .inr ⟨b,o,rfl,Nat.lt_of_lt_of_le hb (w.lat_size u),fun i hi=>?_⟩;obtain ⟨vs,h1,h2,h3⟩:=hc i hi;exact ⟨vs,h1,hR _ _ _ _ h2,fun j hj=>by rw [World.lat_cell _ _ _ _ hb];exact h3 j hj⟩
theorem RowsP.aft {w w':World} {A:Option Addr} {sz:Nat} {R:World -> α -> List Value -> Prop} {l:List α} (hR:MonoR R) (h:RowsP w A sz R l) (hl:Aft w w'):RowsP w' A sz R l:=by
 obtain ⟨u,rfl⟩:=hl;exact h.lat hR u
theorem RowsP.nil {w:World} {A:Option Addr} {sz:Nat} {R:World -> α -> List Value -> Prop}:RowsP w A sz R []:=⟨by simp,.inl rfl⟩
theorem RowsP.at {w:World} {A:Option Addr} {sz:Nat} {R:World -> α -> List Value -> Prop} {l:List α} (h:RowsP w A sz R l) {k:Nat} (hk:k < l.length) :
  ∃ b o,A = some ⟨b,o,none⟩ /\ b < w.heap.size /\ ∀ i,(h:i < l.length) -> ∃ vs:List Value,vs.length = sz /\ R w l[i] vs /\ ∀ j,(hj:j < vs.length) -> w.cell? ⟨b,o + i * sz + j,none⟩ = some vs[j]:=by
 rcases h.2 with rfl | h
 ·simp at hk
 ·exact h
theorem RowsP.len {w:World} {A:Option Addr} {sz:Nat} {R:World -> α -> List Value -> Prop} {l:List α} (h:RowsP w A sz R l) (hs:0 < sz):l.length <= 17592186043904 :=
 Nat.le_trans (Nat.le_mul_of_pos_right _ hs) h.1
end rows
def IntR:World -> Int -> List Value -> Prop:=fun _ n vs=>vs = [.int .i64 n]
theorem IntR.mono:MonoR IntR:=fun _ _ _ _ h=>h
def Ints (w:World) (A:Option Addr) (l:List Int):Prop:=RowsP w A 1 IntR l
theorem Ints.lat {w:World} {A:Option Addr} {l:List Int} (h:Ints w A l) (u:Later w):Ints (w.lat u) A l:=RowsP.lat IntR.mono h u
theorem Ints.aft {w w':World} {A:Option Addr} {l:List Int} (h:Ints w A l) (hl:Aft w w'):Ints w' A l:=RowsP.aft IntR.mono h hl
theorem Ints.len {w:World} {A:Option Addr} {l:List Int} (h:Ints w A l):l.length <= 17592186043904:=RowsP.len h (by decide)
theorem Ints.at {w:World} {A:Option Addr} {l:List Int} (h:Ints w A l) {k:Nat} (hk:k < l.length) :
  ∃ b o,A = some ⟨b,o,none⟩ /\ b < w.heap.size /\ ∀ i,(h:i < l.length) -> w.cell? ⟨b,o + i,none⟩ = some (.int .i64 l[i]):=by
 obtain ⟨b,o,rfl,hb,hc⟩:=RowsP.at h hk;refine ⟨b,o,rfl,hb,fun i hi=>?_⟩;obtain ⟨vs,h1,rfl,h3⟩:=hc i hi;simpa using h3 0 (by simp)
theorem ret_int {k:IntKind} {a b:Int} (h:a = b):Ending.returned (.int k a) = .returned (.int k b):=by rw [h]
theorem ret_bool {a b:Bool} (h:a = b):Ending.returned (.bool a) = .returned (.bool b):=by rw [h]
def Asks (P:Program) (K:FuncId) (cap:List Value) (w:World) (arg:Value) (b:Bool):Prop :=
 ∀ u:Later w,Calls P K (arg :: cap).toArray (w.lat u) fun e w'=>e = .returned (.bool b) /\ Aft (w.lat u) w'
theorem Asks.lat {P:Program} {K:FuncId} {cap:List Value} {w:World} {arg:Value} {b:Bool} (h:Asks P K cap w arg b) (u:Later w):Asks P K cap (w.lat u) arg b :=
 fun v=>h (u.trans v)
theorem Asks.at {P:Program} {K:FuncId} {cap:List Value} {w:World} {arg:Value} {b:Bool} (h:Asks P K cap w arg b) {W:World} (hW:Aft w W) :
  Calls P K (arg :: cap).toArray W fun e w'=>e = .returned (.bool b) /\ Aft W w':=by
 obtain ⟨u,rfl⟩:=hW;exact h u
theorem any_take_succ {α:Type} (l:List α) (p:α -> Bool) (k:Nat) (h:k < l.length):(l.take (k + 1)).any p = ((l.take k).any p || p l[k]):=by
 rw [List.take_succ_eq_append_getElem h,List.any_append,List.any_cons,List.any_nil,Bool.or_false]
theorem any_of_get {α:Type} (l:List α) (p:α -> Bool) (k:Nat) (h:k < l.length) (hp:p l[k] = true):l.any p = true:=List.any_eq_true.2 ⟨_,List.getElem_mem h,hp⟩
structure SliceTy (P:Program) (t e:TypeId) (size bytes:Nat):Prop where
 ht:P.underlying t = some (.slice e)
 hi:∃ i z,P.info? e = some i /\ i.zero = some z /\ i.size = size /\ i.bytes = bytes /\ z.cells.size = size
 hsz:0 < size
theorem SliceTy.mk' {P:Program} {t e:TypeId} {z:Value} {size bytes:Nat} (ht:P.underlying t = some (.slice e))
  (h:(P.info? e).map (fun i=>(i.zero,i.size,i.bytes)) = some (some z,size,bytes)) (hz:z.cells.size = size) (hs:0 < size):SliceTy P t e size bytes:=by
 obtain ⟨i,h1,h2,h3,h4⟩:=info_parts h;exact ⟨ht,⟨i,z,h1,h2,h3,h4,hz⟩,hs⟩
theorem own_ge {w:World} {base:Nat} {e:TypeId} {size:Nat} {v:Value} {n:Nat} {xs:List Value} (h:w.ownsRow base e size v n xs):∀ k,v.ownBlock = some k -> base <= k:=fun k hk=>(h.lt k hk).1
theorem Aft.grown {a w w':World} {row:Option Nat} (h:Aft a w) (hg:w.grownBy w' row) (hr:∀ k,row = some k -> a.heap.size <= k):Aft a w' :=
 .of_below (h.below.grown hg h.size hr)
theorem own_lat {w:World} {base:Nat} {e:TypeId} {size:Nat} {v:Value} {n:Nat} {xs:List Value} (h:w.ownsRow base e size v n xs) (u:Later w):(w.lat u).ownsRow base e size v n xs :=
 h.kept (row:=none) ⟨u.ok.os,u.ok.tape,u.ok.output,u.ok.size,fun k hk _=>u.ok.block k hk⟩ (by cases v.ownBlock <;> simp)
theorem own_aft {w w':World} {base:Nat} {e:TypeId} {size:Nat} {v:Value} {n:Nat} {xs:List Value} (h:w.ownsRow base e size v n xs) (ha:Aft w w'):w'.ownsRow base e size v n xs:=by
 obtain ⟨u,rfl⟩:=ha;exact own_lat h u
theorem src_new (W:World) (cs:Array Value) (t:TypeId):∀ j u,cs.toList[j]? = some u -> (W.alloc (.cells cs t)).cell? ((⟨W.heap.size,0,none⟩:Addr).add j) = some u:=by
 intro j u h;rw [Addr.add_lit];simpa using h
theorem run_app_none {P:Program} {w:World} {base:Nat} {t ty e:TypeId} {i:TypeInfo} {size:Nat} (ht:P.underlying t = some (.slice e)) (hi:P.info? e = some i)
  {v:Value} {n:Nat} {xs:List Value} (hown:w.ownsRow base e size v n xs) (c:Nat):(Builtin.append_ #[t,t] ty #[v,.slice none 0 c]).run P w = .ok v w:=by
 rcases hown.2 with ⟨rfl,rfl⟩ | ⟨g,cap,cur,rfl,_,_,hnc,_⟩
 ·simp [Builtin.append_,run_underlying ht,sizeOf,typeInfo,hi,Builtin.lenOf,Builtin.firstCells]
 ·simp [Builtin.append_,run_underlying ht,sizeOf,typeInfo,hi,Builtin.lenOf,Builtin.firstCells,hnc,storeCells]
theorem wpList_app {P:Program} {w:World} {ops:Array Oper} {rest:List Oper} {o:Oper} {a:Act} {Q:Exit -> Act -> World -> Prop} {t e:TypeId} {size bytes:Nat} (hT:SliceTy P t e size bytes)
  (hgd:o.guard = none) (s x:Operand) (ho:o.op = .call { callee:=.builtin .append,args:=#[s,x],argTypes:=#[t,t] })
  {w0:World} (haft:Aft w0 w) {v:Value} {n:Nat} {xs:List Value} (hs:a.eval s = v) (hown:w.ownsRow w0.heap.size e size v n xs)
  {A:Option Addr} {m c:Nat} {news:List Value} (hx:a.eval x = .slice A m c) (hl:news.length = m * size) (hA:A = none -> m = 0)
  (hnews:∀ ad,A = some ad -> ∀ j u,news[j]? = some u -> w.cell? (ad.add j) = some u) (h1:∀ u ∈ news,u.oneCell' = true)
  (hbytes:(n + m) * bytes <= 140737488355328) (hpos:0 < bytes)
  (h:∀ v' w',w'.ownsRow w0.heap.size e size v' (n + m) (xs ++ news) -> w.grownBy w' v.ownBlock -> Aft w0 w' -> wpList P ops Q rest (a.put o.dst v') w'):wpList P ops Q (o :: rest) a w:=by
 obtain ⟨ht,⟨i,z,hi,hz,hsize,hby,hzs⟩,hsz⟩:=hT
 have h63:n + m <= maxLen:=by
  have:(n + m) * 1 <= (n + m) * bytes:=Nat.mul_le_mul_left _ hpos;unfold maxLen;omega
 cases A with
 | some ad =>
  exact wpList_append_own w hgd s x t ho w0.heap.size e i z size bytes ht hi hz hsize hby hzs hsz v n xs hs hown ad m c news hx hl (hnews ad rfl) h1 h63 hbytes haft.size
   fun v' w' h2 h3 _=>h v' w' h2 h3 (haft.grown h3 (own_ge hown))
 | none =>
  have hm:=hA rfl;subst hm;have hn:news = []:=List.eq_nil_of_length_eq_zero (by simpa using hl);subst hn;refine wpList_plain hgd fun K hK=>?_
  have hr:=run_app_none (ty:=o.type) ht hi hown c;unfold Oper.wp execOp;simp only [ho,resolve,invoke,builtin,Sem.run_bind,Sem.run_pure,Result.andThen_ok,List.map_toArray,List.map_cons,List.map_nil,hs,hx,hr];exact hK _ _ (h v w (by simpa using hown) (World.grownBy.refl w _) haft)
theorem own_ints {w:World} {base:Nat} {v:Value} {l:List Int} (h:w.ownsRow base 3 1 v l.length (l.map (Value.int .i64))) (hl:l.length <= 17592186043904) :
  ∃ A c,v = .slice A l.length c /\ l.length <= c /\ Ints w A l:=by
 rcases h.2 with ⟨rfl,h0⟩ | ⟨g,cap,cur,rfl,hg,hh,hc,hm,hs,ht⟩
 ·have:l = []:=List.eq_nil_of_length_eq_zero h0;subst this;exact ⟨none,0,rfl,Nat.le_refl _,by simp,.inl rfl⟩
 ·refine ⟨_,cap,rfl,hc,by omega,.inr ⟨g,0,rfl,(Array.getElem?_eq_some_iff.1 hh).1,fun i hi=>⟨_,by simp,rfl,fun j hj=>?_⟩⟩⟩;have:=h.cells (g:=g) rfl i (.int .i64 l[i]) (by simp [hi]);rw [Addr.add_lit] at this;simp at hj;subst hj;simpa using this
def Blk (w:World) (g:Nat) (t:TypeId) (cs:Array Value):Prop:=w.heap[g]? = some (.cells cs t (0,0))
section
variable {w:World} {g:Nat} {t:TypeId} {cs:Array Value}
theorem Blk.cell (h:Blk w g t cs) (i:Nat):w.cell? ⟨g,i,none⟩ = cs[i]?:=cell_of_row w g i cs t (0,0) h
theorem Blk.frozen (h:Blk w g t cs) (i:Nat):w.frozen? ⟨g,i,none⟩ = false:=by unfold Blk at h;simp [World.frozen?,h]
theorem Blk.lt (h:Blk w g t cs):g < w.heap.size:=(Array.getElem?_eq_some_iff.1 h).1
theorem Blk.store (h:Blk w g t cs) (i:Nat) (v:Value):Blk (w.setCell ⟨g,i,none⟩ v) g t (cs.setIfInBounds i v):=by
 unfold Blk at h ⊢;simp [World.setCell,Array.getElem?_modify,h]
theorem Blk.new (w:World) (t:TypeId) (cs:Array Value):Blk (w.alloc (.cells cs t)) w.heap.size t cs:=heap_alloc_new w _
theorem Blk.lat (h:Blk w g t cs) (u:Later w):Blk (w.lat u) g t cs:=(World.lat_heap w u g h.lt).trans h
theorem Blk.aft {w':World} (h:Blk w g t cs) (ha:Aft w w'):Blk w' g t cs:=by obtain ⟨u,rfl⟩:=ha;exact h.lat u
theorem Blk.drew (h:Blk w g t cs):Blk w.drew g t cs:=h
theorem Blk.drewN (h:Blk w g t cs) (n:Nat):Blk (w.drewN n) g t cs:=h
theorem Blk.alloc (h:Blk w g t cs) (o:Obj):Blk (w.alloc o) g t cs:=(Below.heap_alloc w o g h.lt).trans h
theorem Blk.far (h:Blk w g t cs) {p:Addr} (hp:g ≠ p.block) (u:Value):Blk (w.setCell p u) g t cs:=(Below.heap_setCell w p u g hp).trans h
theorem Blk.grown {w':World} {row:Option Nat} (h:Blk w g t cs) (hb:w.grownBy w' row) (hg:some g ≠ row):Blk w' g t cs:=(hb.block g h.lt hg).trans h
end
theorem only_refl (w:World) (row:Option Nat):w.grownBy w row:=World.grownBy.refl w row
theorem only_drew {a w:World} {row:Option Nat} (h:a.grownBy w row):a.grownBy w.drew row:=⟨h.os,h.tape,h.output,h.size,h.block⟩
theorem only_aft {a w w':World} {row:Option Nat} (h:a.grownBy w row) (ha:Aft w w'):a.grownBy w' row:=by
 have hb:=ha.below;exact ⟨hb.os.trans h.os,hb.tape.trans h.tape,hb.output.trans h.output,Nat.le_trans h.size hb.size,fun i hi hne=>(hb.block i (Nat.lt_of_lt_of_le hi h.size)).trans (h.block i hi hne)⟩
theorem only_setCell {a w:World} {g:Nat} (h:a.grownBy w (some g)) {p:Addr} (hp:p.block = g \/ a.heap.size <= p.block) (u:Value):a.grownBy (w.setCell p u) (some g) :=
 ⟨h.os,h.tape,h.output,by simpa [World.setCell] using h.size,fun i hi hne=>(Below.heap_setCell w p u i (by
  rintro rfl;rcases hp with hp | hp
  ·exact hne (by rw [hp])
  ·omega)).trans (h.block i hi hne)⟩
theorem only_of_aft {a w:World} (h:Aft a w) (row:Option Nat):a.grownBy w row:=only_aft (only_refl a row) h
def Nums (cs:Array Value) (l:List Int):Prop:=l.length <= cs.size /\ ∀ t,(h:t < l.length) -> cs[t]? = some (.int .i64 l[t])
theorem Nums.set {cs:Array Value} {l:List Int} (h:Nums cs l) (i:Nat) (x:Int):Nums (cs.setIfInBounds i (.int .i64 x)) (l.set i x):=by
 refine ⟨by simpa using h.1,fun t ht=>?_⟩;have ht':t < l.length:=by simpa using ht
 rw [Array.getElem?_setIfInBounds];have:=h.1;by_cases e:i = t
 ·subst e;simp [show i < cs.size by omega]
 ·rw [if_neg e,h.2 t ht',List.getElem_set_ne e]
theorem Nums.at {cs:Array Value} {l:List Int} (h:Nums cs l) {i:Nat} (hi:i < l.length):cs[i]? = some (.int .i64 l[i]):=h.2 i hi
theorem Nums.of_eq {cs:Array Value} {l l':List Int} (h:Nums cs l) (e:l = l'):Nums cs l':=e ▸ h
theorem own_blk {w:World} {base:Nat} {v:Value} {l:List Int} (h:w.ownsRow base 3 1 v l.length (l.map (Value.int .i64))) :
  (v = .slice none 0 0 /\ l = []) \/ ∃ g c cs,v = .slice (some ⟨g,0,none⟩) l.length c /\ base <= g /\ Blk w g 3 cs /\ Nums cs l /\ cs.size = c /\ l.length <= c /\ c <= maxLen:=by
 rcases h.2 with ⟨rfl,h0⟩ | ⟨g,cap,cur,rfl,hg,hh,hc,hm,hs,ht⟩
 ·exact .inl ⟨rfl,List.eq_nil_of_length_eq_zero h0⟩
 ·refine .inr ⟨g,cap,cur,rfl,hg,hh,⟨by omega,fun t ht'=>?_⟩,by omega,hc,hm⟩;have:=h.cells (g:=g) rfl t (.int .i64 l[t]) (by simp [ht']);rw [Addr.add_lit] at this;simpa [cell_of_row w g _ cur 3 (0,0) hh] using this
end Go
end
