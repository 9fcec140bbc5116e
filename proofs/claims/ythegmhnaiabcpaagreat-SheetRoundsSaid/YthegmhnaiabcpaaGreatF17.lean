/- Own texts, merged: Up Uq Ur Rj0 Opr Rj Rc. -/
import Derived.Test.YthegmhnaiabcpaaGreatF16
set_option linter.unusedSimpArgs false
set_option linter.unusedVariables false
set_option linter.unnecessarySimpa false
section
/- Plain: walks and potentials. -/
namespace Sheet
variable {E:List Edge} {a b k:Nat} {s p q:Int} {f:Nat -> Int}
theorem Wk.pot (h:∀ e ∈ E,q * e.2.2 <= p + (f e.2.1 - f e.1)) (hw:Wk E a b k s):q * s <= p * k + (f b - f a):=by
 induction hw with
 | nil=>simp
 | @snoc b c k s w h1 e ih =>
  have:=h _ e;dsimp only at this;rw [Int.mul_add,show ((k + 1:Nat):Int) = k + 1 from rfl,Int.mul_add,Int.mul_one];omega
theorem most_pot (f:Nat -> Int) (h:∀ e ∈ E,q * e.2.2 <= p + (f e.2.1 - f e.1)):AtMost E p q:=fun a k s hw _=>by
 have:=hw.pot h;omega
theorem Wk.least (h:∀ e ∈ E,f e.2.1 - f e.1 <= e.2.2) (hw:Wk E a b k s):f b - f a <= s:=by
 induction hw with
 | nil=>omega
 | snoc h1 e ih =>
  have:=h _ e;dsimp only at this;omega
theorem dist_pot (f:Nat -> Int) (h:∀ e ∈ E,f e.2.1 - f e.1 <= e.2.2) (hw:Wk E a b k s) (hs:s <= f b - f a):Dist E a b (some s) :=
 ⟨fun m hm=>by cases hm;exact ⟨k,hw⟩,fun k' s' hw'=>⟨s,rfl,by have:=hw'.least h;omega⟩⟩
theorem Calms.tells {n:Nat} {J:List Jo} {D N:Int} {t:Nat -> Nat -> Int} (h:Calms n J D N t) (ha:a < n) (f:Nat -> Int) (hf:∀ e ∈ sc D N (legs J),f e.2.1 - f e.1 <= e.2.2) (hw:Wk (sc D N (legs J)) a b k s) (hs:s <= f b - f a):t a b = s :=
 (opt_some.1 ((h.dist ha b).same (dist_pot f hf hw hs))).1
def threeX:List Jo:=[(0,1,10),(1,2,20),(0,2,36)]
def threeY:List Jo:=[(0,1,0),(1,2,0),(0,2,0)]
def ringX:List Jo:=[(0,1,1),(1,2,1),(2,3,1),(3,0,1)]
def ringY:List Jo:=[(0,1,0),(1,2,0),(2,3,0),(3,0,0)]
def fl (l:List Int) (n:Nat):Int:=l.getD n 0
theorem three_least:Least (legs threeX) 2 1 :=
 ⟨by decide,by decide,most_pot (fl [0,12,34]) (by decide),.inr ⟨0,3,6,((((Wk.nil 0).snoc (c:=2) (w:=36) (by decide)).snoc (c:=1) (w:=-20) (by decide)).snoc (c:=0) (w:=-10) (by decide)).of_eq rfl rfl,by decide,by decide⟩⟩
theorem three_leastY:Least (legs threeY) 0 1:=⟨by decide,by decide,most_pot (fun _=>0) (by decide),.inl rfl⟩
theorem ring_least:Least (legs ringX) 1 1 :=
 ⟨by decide,by decide,most_pot (fun _=>0) (by decide),.inr ⟨0,4,4,(((((Wk.nil 0).snoc (c:=1) (w:=1) (by decide)).snoc (c:=2) (w:=1) (by decide)).snoc (c:=3) (w:=1) (by decide)).snoc (c:=0) (w:=1) (by decide)).of_eq rfl rfl,by decide,by decide⟩⟩
theorem ring_leastY:Least (legs ringY) 0 1:=⟨by decide,by decide,most_pot (fun _=>0) (by decide),.inl rfl⟩
theorem three_x3 {t:Nat -> Nat -> Int} (h:Calms 3 threeX 1 3 t):t 0 1 = 13 /\ t 1 0 = -10 :=
 ⟨h.tells (by decide) (fl [0,13,36]) (by decide) (k:=1) (Wk.one (by decide)) (by decide),
  h.tells (by decide) (fl [-10,0,23]) (by decide) ((Wk.one (b:=2) (w:=23) (by decide)).snoc (w:=-33) (by decide)) (by decide)⟩
theorem three_y3 {t:Nat -> Nat -> Int} (h:Calms 3 threeY 1 3 t):t 0 1 = 3 /\ t 1 0 = 3 :=
 ⟨h.tells (by decide) (fl [0,3,3]) (by decide) (k:=1) (Wk.one (by decide)) (by decide),
  h.tells (by decide) (fl [3,0,3]) (by decide) (k:=1) (Wk.one (by decide)) (by decide)⟩
theorem three_x2 {t:Nat -> Nat -> Int} (h:Calms 3 threeX 1 2 t):t 0 1 = 12 /\ t 1 0 = -12 :=
 ⟨h.tells (by decide) (fl [0,12,34]) (by decide) (k:=1) (Wk.one (by decide)) (by decide),
  h.tells (by decide) (fl [-12,0,22]) (by decide) ((Wk.one (b:=2) (w:=22) (by decide)).snoc (w:=-34) (by decide)) (by decide)⟩
end Sheet
end
section
/- Plain: plays of sets that are changed,and what lies between two sheets. -/
namespace Sheet
theorem low_le {n d n' d':Int} (hd:0 < d) (hd':0 < d') (h:n * d' <= n' * d):(low n d).1 * (low n' d').2 <= (low n' d').1 * (low n d).2:=by
 obtain ⟨g,g0,e1,e2,e3,-⟩:=low_facts n d hd;obtain ⟨g',g0',e1',e2',e3',-⟩:=low_facts n' d' hd';generalize (low n d).1 = x at *;generalize (low n d).2 = y at *;generalize (low n' d').1 = x' at *;generalize (low n' d').2 = y' at *;subst e1 e2 e1' e2'
 have h2:(x * y') * (g * g') <= (x' * y) * (g * g'):=by
  have a1:x * g * (y' * g') = (x * y') * (g * g'):=by simp only [Int.mul_left_comm,Int.mul_comm]
  have a2:x' * g' * (y * g) = (x' * y) * (g * g'):=by simp only [Int.mul_left_comm,Int.mul_comm]
  rw [<- a1,<- a2];exact h
 exact Int.le_of_mul_le_mul_right h2 (Int.mul_pos g0 g0')
end Sheet
namespace Go.Proofs
theorem PlayOf.char {S:SetL} {p:Int × Int} (h:PlayOf S p):Sheet.low p.1 p.2 = p /\ (p.1 = 0 \/ ∃ north,Sheet.Least (Sheet.legs (joOf north S.J)) p.1 p.2):=by
 obtain ⟨p0,p1,h0,h1,rfl⟩:=h.parts
 have g:∀ a b:Int × Int,(gr2 a b = a \/ gr2 a b = b):=fun a b=>by
  rcases gr2_cases a b with ⟨e,_⟩ | ⟨e,_⟩
  ·exact .inr e
  ·exact .inl e
 rcases g (gr2 (0,1) p0) p1 with e | e
 ·rw [e];rcases g (0,1) p0 with e | e
  ·rw [e];exact ⟨by decide,.inl rfl⟩
  ·rw [e];exact ⟨h0.low,.inr ⟨false,h0.least⟩⟩
 ·rw [e];exact ⟨h1.low,.inr ⟨true,h1.least⟩⟩
theorem PlayOf.d0 {S:SetL} {p:Int × Int} (h:PlayOf S p):0 < p.2:=by
 have:=h.ok.d1;omega
theorem PlayOf.le {S:SetL} {p:Int × Int} (h:PlayOf S p) {N D:Int} (hN:0 <= N) (hD:0 < D) (hm:∀ north,Sheet.AtMost (Sheet.legs (joOf north S.J)) N D):p.1 * D <= N * p.2:=by
 rcases h.char.2 with e | ⟨north,hl⟩
 ·rw [e];have:=Int.mul_nonneg hN (Int.le_of_lt h.d0);omega
 ·exact hl.le (hm north) hN
def BtOk (S:SetL) (N D:Int) (a b:Nat) (t0 t1:Nat -> Nat -> Int) (w:World) (e:Ending) (w':World):Prop:=Aft w w' /\ Sheet.Calms S.n.toNat (joOf false S.J) D N t0 /\ Sheet.Calms S.n.toNat (joOf true S.J) D N t1 /\
  ((t0 a b = Sheet.far /\ e = .returned (.tuple #[.agg #[.int .i64 0,.int .i64 0,.int .i64 0,.int .i64 0],.agg #[.int .i64 0,.int .i64 0,.int .i64 0,.int .i64 0],.int .i64 7])) \/
   (t0 a b ≠ Sheet.far /\ e = .returned (.tuple #[.agg (encS (bt4 D t0 a b)),.agg (encS (bt4 D t1 a b)),.int .i64 0])))
theorem BtR.most {S:SetL} {N D:Int} {a b:Nat} {w w':World} {e:Ending} (h:BtR S N D a b w e w') (hm:∀ north,Sheet.AtMost (Sheet.legs (joOf north S.J)) N D):∃ t0 t1,BtOk S N D a b t0 t1 w e w':=by
 obtain ⟨h1,h2⟩:=h;rcases h2 with ⟨-,north,l,hc⟩ | ⟨t0,t1,c0,c1,h3⟩
 ·exact absurd (hm north) hc.not
 ·exact ⟨t0,t1,h1,c0,c1,h3⟩
end Go.Proofs
end
section
/- Plain: how bounds compare. -/
namespace Sheet
variable {n:Nat} {J J':List Jo} {D N N':Int} {t t':Nat -> Nat -> Int} {a b c:Nat}
theorem Calms.none (h:Calms n J D N t) (ha:a < n) (hf:t a b = far):∀ k s,¬ Wk (legs J) a b k s:=fun k s hw=>by
 obtain ⟨m,h1,-⟩:=(h.dist ha b).2 _ _ (hw.sc (D:=D) (N:=N));exact (opt_some.1 h1).2 hf
theorem Calms.way (h:Calms n J D N t) (ha:a < n) (hf:t a b ≠ far):∃ k s,Wk (legs J) a b k s /\ t a b = s * D + k * N:=by
 obtain ⟨k,hk⟩:=(h.dist ha b).1 _ (opt_some.2 ⟨rfl,hf⟩);obtain ⟨s,h1,e⟩:=hk.unsc;exact ⟨k,s,h1,e⟩
theorem Calms.least (h:Calms n J D N t) (ha:a < n) {k:Nat} {s:Int} (hw:Wk (legs J) a b k s):t a b ≠ far /\ t a b <= s * D + k * N:=by
 obtain ⟨m,h1,h2⟩:=(h.dist ha b).2 _ _ (hw.sc (D:=D) (N:=N));obtain ⟨rfl,h3⟩:=opt_some.1 h1;exact ⟨h3,h2⟩
end Sheet
namespace Go.Proofs
theorem PlayOf.small {S:SetL} {p:Int × Int} (h:PlayOf S p):p.2 <= 12 /\ p.1 <= 12000000:=by
 obtain ⟨p0,p1,h0,h1,rfl⟩:=h.parts
 have g:∀ a b:Int × Int,(gr2 a b = a \/ gr2 a b = b):=fun a b=>by
  rcases gr2_cases a b with ⟨e,_⟩ | ⟨e,_⟩
  ·exact .inr e
  ·exact .inl e
 rcases g (gr2 (0,1) p0) p1 with e | e
 ·rw [e];rcases g (0,1) p0 with e | e
  ·rw [e];decide
  ·rw [e];exact ⟨h0.d1,h0.n1⟩
 ·rw [e];exact ⟨h1.d1,h1.n1⟩
end Go.Proofs
end
section
/- Plain: the least play exists;what lies between two sheets is one answer. -/
namespace Sheet
theorem lm_ex {n:Nat} {W:Nat -> Nat -> Option Int} {a:Nat} {m:Int} (hb:∀ k mk,k < n -> W k a = some mk -> -24000000 <= m - mk /\ m - mk <= 24000000):∀ k,k <= n -> ∃ q,LmI n W a m k q
 | 0,_=>⟨(0,0),.start⟩
 | k + 1,hk=>by
  obtain ⟨q,hq⟩:=lm_ex hb k (by omega)
  cases hw:W k a with
  | none=>exact ⟨q,hq.skip hw⟩
  | some mk =>
   by_cases h:q.2 = 0 \/ (Sheet.low (m - mk) ((n - k:Nat):Int)).1 * q.2 < q.1 * (Sheet.low (m - mk) ((n - k:Nat):Int)).2
   ·exact ⟨_,hq.take hw (by omega) (hb k mk (by omega) hw) h⟩
   ·exact ⟨q,hq.keep hw (by omega) (fun e=>h (.inl e)) (fun e=>h (.inr e))⟩
theorem bm_ex {n:Nat} {W:Nat -> Nat -> Option Int} (hn:0 < n) (h0:∀ a,a < n -> W 0 a = some 0) (hb:∀ a m,a < n -> W n a = some m -> ∀ k mk,k < n -> W k a = some mk -> -24000000 <= m - mk /\ m - mk <= 24000000):∀ a,a <= n -> ∃ p,BmI n W a p
 | 0,_=>⟨(0,1),.start hn⟩
 | a + 1,ha=>by
  obtain ⟨p,hp⟩:=bm_ex hn h0 hb a (by omega)
  cases hw:W n a with
  | none=>exact ⟨p,hp.skip hw⟩
  | some m =>
   obtain ⟨q,hq⟩:=lm_ex (hb a m (by omega) hw) n (Nat.le_refl _);by_cases h:p.1 * q.2 < q.1 * p.2
   ·exact ⟨q,hp.take hn (by omega) (h0 a (by omega)) hw hq h⟩
   ·exact ⟨p,hp.keep hn (h0 a (by omega)) hw hq h⟩
end Sheet
namespace Go.Proofs
theorem num_bd {S:SetL} (hS:SetOk S) (north:Bool):∀ g:Nat × Bool,g.1 < (joOf north S.J).length -> -1000000 <= Sheet.num (joOf north S.J) g /\ Sheet.num (joOf north S.J) g <= 1000000:=fun g hg=>by
 obtain ⟨g1,g2⟩:=g;have hg':g1 < S.J.length:=by rw [<- joOf_len north];exact hg
 have h1:=way_le hS north _ (List.getElem_mem hg');unfold Sheet.num;dsimp only;rw [jo_of north S.J hg'];cases g2 <;> simp <;> omega
theorem lp_ex {S:SetL} (hS:SetOk S) (north:Bool):∃ p,LP S north p:=by
 have hn1:=hS.n1;have hn2:=hS.n2;obtain ⟨n,hn⟩:∃ n,S.n.toNat = n:=⟨_,rfl⟩;have hok:=hS.ok north;rw [hn] at hok;have hbd:=Sheet.wkT_bnd hok (num_bd hS north)
 obtain ⟨p,hp⟩:=Sheet.bm_ex (n:=n) (W:=fun i b=>Sheet.optW (Sheet.wkT (joOf north S.J) i b)) (by omega) (fun a ha=>rfl) (fun a m ha hm k mk hk hmk=>by
  obtain ⟨h1,rfl⟩:=Sheet.optW_some.1 hm;obtain ⟨h2,rfl⟩:=Sheet.optW_some.1 hmk;have:=hbd n (by omega) a ha;have:=hbd k (by omega) a ha;omega) n (Nat.le_refl _)
 obtain ⟨h1,h2,h3⟩:=hp.least hok (num_bd hS north) (by omega) (by omega);exact ⟨p,h1,hp.low,h2,h3⟩
theorem gr2_zero {S:SetL} {north:Bool} {p:Int × Int} (h:LP S north p):gr2 (0,1) p = p:=by
 rcases gr2_cases (0,1) p with ⟨e,-⟩ | ⟨e,h1⟩
 ·exact e
 ·rw [e];have h0:=h.least.p0;have hd:=h.least.q0
  have hz:p.1 = 0:=by
   dsimp only at h1;omega
  have hl:=h.low;rw [hz] at hl;rw [<- hl];unfold Sheet.low;have:Nat.gcd (0:Int).natAbs p.2.toNat = p.2.toNat:=by simp
  rw [this,Int.toNat_of_nonneg (by omega),Int.ediv_self (by omega)]
  simp
theorem playOf_two {S:SetL} {p q:Int × Int} (h:LP S false p) (h':LP S true q):PlayOf S (gr2 p q):=.inr (.inr ⟨rfl,p,q,h,h',by rw [gr2_zero h]⟩)
def btv (D x1 x2:Int):Q4:=⟨(Sheet.low (-x1) D).1,(Sheet.low (-x1) D).2,(Sheet.low x2 D).1,(Sheet.low x2 D).2⟩
def BtG (S:SetL) (a b:Nat) (N D:Int) (o:Q4 × Q4 × Int):Prop:=∃ p,PlayOf S p /\ ((N * p.2 < p.1 * D /\ o = (z4,z4,8)) \/ (¬ N * p.2 < p.1 * D /\ (¬ ∃ k s,Sheet.Wk (Sheet.legs (joOf false S.J)) a b k s) /\ o = (z4,z4,7)) \/
 (¬ N * p.2 < p.1 * D /\ (∃ k s,Sheet.Wk (Sheet.legs (joOf false S.J)) a b k s) /\ ∃ x1 x2 y1 y2,Sheet.Dist (Sheet.sc D N (Sheet.legs (joOf false S.J))) b a (some x1) /\ Sheet.Dist (Sheet.sc D N (Sheet.legs (joOf false S.J))) a b (some x2) /\
  Sheet.Dist (Sheet.sc D N (Sheet.legs (joOf true S.J))) b a (some y1) /\ Sheet.Dist (Sheet.sc D N (Sheet.legs (joOf true S.J))) a b (some y2) /\ o = (btv D x1 x2,btv D y1 y2,0)))
theorem BtG.same {S:SetL} {a b:Nat} {N D:Int} {o o':Q4 × Q4 × Int} (h:BtG S a b N D o) (h':BtG S a b N D o'):o = o':=by
 obtain ⟨p,hp,h⟩:=h;obtain ⟨p',hp',h'⟩:=h';obtain rfl:=hp.same hp';rcases h with ⟨h1,rfl⟩ | ⟨h1,h2,rfl⟩ | ⟨h1,h2,x1,x2,y1,y2,d1,d2,d3,d4,rfl⟩
 ·rcases h' with ⟨g1,rfl⟩ | ⟨g1,g2,rfl⟩ | ⟨g1,g2,-⟩
  ·rfl
  ·exact absurd h1 g1
  ·exact absurd h1 g1
 ·rcases h' with ⟨g1,rfl⟩ | ⟨g1,g2,rfl⟩ | ⟨g1,g2,-⟩
  ·exact absurd g1 h1
  ·rfl
  ·exact absurd g2 h2
 ·rcases h' with ⟨g1,rfl⟩ | ⟨g1,g2,rfl⟩ | ⟨g1,g2,u1,u2,v1,v2,e1,e2,e3,e4,rfl⟩
  ·exact absurd g1 h1
  ·exact absurd h2 g2
  ·cases d1.same e1;cases d2.same e2;cases d3.same e3;cases d4.same e4;rfl
def BtO (S:SetL) (a b N D:Int) (o:Q4 × Q4 × Int):Prop:=if setE S ≠ 0 then o = (z4,z4,setE S) else if fromB a 0 (S.n - 1) = false \/ fromB b 0 (S.n - 1) = false then o = (z4,z4,2) else if partB N D 0 = false then o = (z4,z4,4) else BtG S a.toNat b.toNat N D o
theorem BtO.same {S:SetL} {a b N D:Int} {o o':Q4 × Q4 × Int} (h:BtO S a b N D o) (h':BtO S a b N D o'):o = o':=by
 unfold BtO at h h';split at h
 ·rw [if_pos (by assumption)] at h';rw [h,h']
 ·rw [if_neg (by assumption)] at h';split at h
  ·rw [if_pos (by assumption)] at h';rw [h,h']
  ·rw [if_neg (by assumption)] at h';split at h
   ·rw [if_pos (by assumption)] at h';rw [h,h']
   ·rw [if_neg (by assumption)] at h';exact h.same h'
theorem play_most {S:SetL} {p:Int × Int} (hp:PlayOf S p) {N D:Int} (hN:0 <= N) (hD:0 < D) (h:¬ N * p.2 < p.1 * D) (north:Bool):Sheet.AtMost (Sheet.legs (joOf north S.J)) N D :=
 most_up (hp.most north) hp.d0 (by omega) (by omega)
theorem wk_north {J:List Q4} {a b:Nat} (h:∃ k s,Sheet.Wk (Sheet.legs (joOf false J)) a b k s):∃ k s,Sheet.Wk (Sheet.legs (joOf true J)) a b k s:=by
 obtain ⟨k,s,h⟩:=h;obtain ⟨s',h'⟩:=Sheet.wk_map (fun a b w he=>legs_ways J false true a b w he) h;exact ⟨k,s',h'⟩
theorem wk_turn {J:List Q4} {north:Bool} {a b:Nat} (h:∃ k s,Sheet.Wk (Sheet.legs (joOf north J)) a b k s):∃ k s,Sheet.Wk (Sheet.legs (joOf north J)) b a k s:=by
 obtain ⟨k,s,h⟩:=h;exact Sheet.wk_back (fun a b w he=>⟨_,Sheet.legs_sym _ _ _ _ he⟩) h
theorem bt_prog {S:SetL} (hS:SetOk S) {a b:Nat} {N D:Int} (ha:a < S.n.toNat) (hb:b < S.n.toNat) (hk:PlayOk N D) {w:World} {e:Ending} {w':World} (h:BtR S N D a b w e w'):∃ o:Q4 × Q4 × Int,BtG S a b N D o /\ e = .returned (.tuple #[.agg (encS o.1),.agg (encS o.2.1),.int .i64 o.2.2]):=by
 obtain ⟨p0,h0⟩:=lp_ex hS false;obtain ⟨p1,h1⟩:=lp_ex hS true;have hp:=playOf_two h0 h1;generalize gr2 p0 p1 = p at hp;have hd1:=hk.d1;have hn1:=hk.n1;rcases h.2 with ⟨he,north,l,hc⟩ | ⟨t0,t1,ht0,ht1,h2⟩
 ·refine ⟨(z4,z4,8),⟨p,hp,.inl ⟨Classical.byContradiction fun hn=>hc.not (play_most hp hn1 (by omega) hn north),rfl⟩⟩,he⟩
 ·have hle:=hp.le hn1 (show 0 < D by omega) (fun north=>by
   cases north
   ·exact ht0.most (hS.ok false)
   ·exact ht1.most (hS.ok true))
  have hnot:¬ N * p.2 < p.1 * D:=by omega
  rcases h2 with ⟨hf,he⟩ | ⟨hf,he⟩
  ·refine ⟨(z4,z4,7),⟨p,hp,.inr (.inl ⟨hnot,fun ⟨k,s,hw⟩=>ht0.none ha hf k s hw,rfl⟩)⟩,he⟩
  ·obtain ⟨k,s,hw,-⟩:=ht0.way ha hf;have w1:∃ k s,Sheet.Wk (Sheet.legs (joOf false S.J)) a b k s:=⟨k,s,hw⟩;have w2:=wk_turn w1;have w3:=wk_north w1;have w4:=wk_north w2;obtain ⟨k2,s2,hw2⟩:=w2;obtain ⟨k3,s3,hw3⟩:=w3;obtain ⟨k4,s4,hw4⟩:=w4;have f2:=(ht0.least hb hw2).1;have f3:=(ht1.least ha hw3).1;have f4:=(ht1.least hb hw4).1;have d1:=ht0.dist hb a;have d2:=ht0.dist ha b;have d3:=ht1.dist hb a;have d4:=ht1.dist ha b;rw [Sheet.opt_some.2 ⟨rfl,f2⟩] at d1;rw [Sheet.opt_some.2 ⟨rfl,hf⟩] at d2;rw [Sheet.opt_some.2 ⟨rfl,f4⟩] at d3;rw [Sheet.opt_some.2 ⟨rfl,f3⟩] at d4;exact ⟨(btv D (t0 b a) (t0 a b),btv D (t1 b a) (t1 a b),0),⟨p,hp,.inr (.inr ⟨hnot,w1,_,_,_,_,d1,d2,d3,d4,rfl⟩)⟩,he⟩
end Go.Proofs
end
section
/- A drawn region with open answers and with boxes that are laid,and some filled,in whatever order (for wp_region_valsU). -/
namespace Go.Proofs
open Go.RowKit
structure BoxI where
 op:Nat
 tmp:Nat
 ty:TypeId
 sop:Nat
 vop:Nat
 vtmp:Nat
structure OpR (W0:World) (FI:List (Nat × Nat)) (BI:List BoxI) (P:Nat -> Value -> World -> Prop) (z:Nat -> Array Value) (done:Nat -> Bool) (a:Act) (W:World):Prop where
 mono:∀ i v W W',P i v W -> Aft W W' -> P i v W'
 aft:Aft W0 W
 fact:∀ x ∈ FI,done x.1 = true -> P x.1 (a.eval (.tmp x.2)) W
 box:∀ x ∈ BI,done x.op = true -> ∃ b cs,a.eval (.tmp x.tmp) = .pointer (some ⟨b,0,none⟩) /\ W0.heap.size <= b /\ Blk W b x.ty cs /\ (done x.sop = false -> cs = z x.op) /\ (done x.sop = true -> a.eval (.tmp x.vtmp) = .agg cs)
 late:∀ x ∈ BI,done x.sop = true -> done x.vop = true /\ done x.op = true
 ne:∀ x ∈ BI,∀ y ∈ BI,x.op ≠ y.op -> done x.op = true -> done y.op = true -> a.eval (.tmp x.tmp) ≠ a.eval (.tmp y.tmp)
 no:done 99 = false
def okKeep (FI:List (Nat × Nat)) (BI:List BoxI) (i:Nat) (dst:Option Nat):Bool :=
 (i != 99) && FI.all (fun x=>x.1 != i && dst != some x.2) && BI.all (fun x=>x.op != i && x.sop != i && dst != some x.tmp && (dst != some x.vtmp || x.vop == i))
def okFact (FI:List (Nat × Nat)) (BI:List BoxI) (i t:Nat):Bool :=
 (i != 99) && FI.all (fun x=>(x.1 == i && x.2 == t) || (x.1 != i && x.2 != t)) && BI.all (fun x=>x.op != i && x.sop != i && x.tmp != t && (x.vtmp != t || x.vop == i))
def okLay (FI:List (Nat × Nat)) (BI:List BoxI) (i t:Nat) (ty:TypeId):Bool :=
 (i != 99) && FI.all (fun x=>x.1 != i && x.2 != t) && BI.all (fun x=>((x.op == i && x.tmp == t && x.ty == ty) || (x.op != i && x.tmp != t)) && x.sop != i && x.vtmp != t)
section
variable {W0 W W':World} {FI:List (Nat × Nat)} {BI:List BoxI} {P:Nat -> Value -> World -> Prop} {z:Nat -> Array Value} {done:Nat -> Bool} {a:Act}
theorem upd_up {done:Nat -> Bool} {i j:Nat} (h:done j = true):Go.upd done i j = true:=by unfold Go.upd;split <;> first | rfl | exact h
theorem OpR.start (hm:∀ i v W W',P i v W -> Aft W W' -> P i v W'):OpR W0 FI BI P z (fun _=>false) a W0.drew :=
 ⟨hm,Aft.drew _,(fun _ _ h=>by cases h),(fun _ _ h=>by cases h),(fun _ _ h=>by cases h),(fun _ _ _ _ _ h=>by cases h),rfl⟩
theorem OpR.keep (h:OpR W0 FI BI P z done a W) (ha:Aft W W') {i:Nat} {dst:Option Tmp} {v:Value} (hd:done i = false) (hk:okKeep FI BI i dst = true):OpR W0 FI BI P z (Go.upd done i) (a.put dst v) W':=by
 unfold okKeep at hk;simp only [Bool.and_eq_true,List.all_eq_true,bne_iff_ne,ne_eq,Bool.or_eq_true,beq_iff_eq] at hk;obtain ⟨⟨h0,h1⟩,h2⟩:=hk;refine ⟨h.mono,h.aft.trans ha,fun x hx p=>?_,fun x hx p=>?_,fun x hx p=>?_,fun x hx y hy hn p q=>?_,by rw [upd_ne' (Ne.symm h0)];exact h.no⟩
 ·obtain ⟨e1,e2⟩:=h1 x hx;rw [upd_ne' e1] at p;rw [evne e2];exact h.mono _ _ _ _ (h.fact x hx p) ha
 ·obtain ⟨⟨⟨e1,e2⟩,e3⟩,e4⟩:=h2 x hx;rw [upd_ne' e1] at p;obtain ⟨b,cs,f1,f2,f3,f4,f5⟩:=h.box x hx p;refine ⟨b,cs,by rw [evne e3];exact f1,f2,f3.aft ha,fun q=>f4 (by rw [upd_ne' e2] at q;exact q),fun q=>?_⟩;rw [upd_ne' e2] at q;rcases e4 with e4 | e4
  ·rw [evne e4];exact f5 q
  ·have:=(h.late x hx q).1;rw [e4,hd] at this;cases this
 ·obtain ⟨⟨⟨e1,e2⟩,e3⟩,e4⟩:=h2 x hx;rw [upd_ne' e2] at p;exact ⟨upd_up (h.late x hx p).1,upd_up (h.late x hx p).2⟩
 ·obtain ⟨⟨⟨e1,e2⟩,e3⟩,e4⟩:=h2 x hx;obtain ⟨⟨⟨g1,g2⟩,g3⟩,g4⟩:=h2 y hy;rw [upd_ne' e1] at p;rw [upd_ne' g1] at q;rw [evne e3,evne g3];exact h.ne x hx y hy hn p q
theorem OpR.step (h:OpR W0 FI BI P z done a W) (ha:Aft W W') {i t:Nat} {v:Value} (hd:done i = false) (hp:P i v W') (hz:t < a.tmps.size) (hk:okFact FI BI i t = true):OpR W0 FI BI P z (Go.upd done i) (a.put (some t) v) W':=by
 unfold okFact at hk;simp only [Bool.and_eq_true,List.all_eq_true,bne_iff_ne,ne_eq,Bool.or_eq_true,beq_iff_eq] at hk;obtain ⟨⟨h0,h1⟩,h2⟩:=hk;have ns:∀ s:Nat,s ≠ t -> (a.put (some t) v).eval (.tmp s) = a.eval (.tmp s):=fun s hs=>evne fun e=>hs (Option.some.inj e).symm
 refine ⟨h.mono,h.aft.trans ha,fun x hx p=>?_,fun x hx p=>?_,fun x hx p=>?_,fun x hx y hy hn p q=>?_,by rw [upd_ne' (Ne.symm h0)];exact h.no⟩
 ·rcases h1 x hx with ⟨e1,e2⟩ | ⟨e1,e2⟩
  ·rw [e1,e2,Act.eval_put_same _ _ _ hz];exact hp
  ·rw [upd_ne' e1] at p;rw [ns _ e2];exact h.mono _ _ _ _ (h.fact x hx p) ha
 ·obtain ⟨⟨⟨e1,e2⟩,e3⟩,e4⟩:=h2 x hx;rw [upd_ne' e1] at p;obtain ⟨b,cs,f1,f2,f3,f4,f5⟩:=h.box x hx p;refine ⟨b,cs,by rw [ns _ e3];exact f1,f2,f3.aft ha,fun q=>f4 (by rw [upd_ne' e2] at q;exact q),fun q=>?_⟩;rw [upd_ne' e2] at q;rcases e4 with e4 | e4
  ·rw [ns _ e4];exact f5 q
  ·have:=(h.late x hx q).1;rw [e4,hd] at this;cases this
 ·obtain ⟨⟨⟨e1,e2⟩,e3⟩,e4⟩:=h2 x hx;rw [upd_ne' e2] at p;exact ⟨upd_up (h.late x hx p).1,upd_up (h.late x hx p).2⟩
 ·obtain ⟨⟨⟨e1,e2⟩,e3⟩,e4⟩:=h2 x hx;obtain ⟨⟨⟨g1,g2⟩,g3⟩,g4⟩:=h2 y hy;rw [upd_ne' e1] at p;rw [upd_ne' g1] at q;rw [ns _ e3,ns _ g3];exact h.ne x hx y hy hn p q
theorem OpR.lay (h:OpR W0 FI BI P z done a W) {i t:Nat} {ty:TypeId} (hd:done i = false) (hz:t < a.tmps.size) (hk:okLay FI BI i t ty = true) :
  OpR W0 FI BI P z (Go.upd done i) (a.put (some t) (.pointer (some ⟨W.heap.size,0,none⟩))) (W.alloc (.cells (z i) ty)):=by
 unfold okLay at hk;simp only [Bool.and_eq_true,List.all_eq_true,bne_iff_ne,ne_eq,Bool.or_eq_true,beq_iff_eq] at hk;obtain ⟨⟨h0,h1⟩,h2⟩:=hk;have ha:=Aft.alloc W (.cells (z i) ty);have ns:∀ s:Nat,s ≠ t -> (a.put (some t) (.pointer (some ⟨W.heap.size,0,none⟩))).eval (.tmp s) = a.eval (.tmp s):=fun s hs=>evne fun e=>hs (Option.some.inj e).symm
 have nn:(a.put (some t) (.pointer (some ⟨W.heap.size,0,none⟩))).eval (.tmp t) = .pointer (some ⟨W.heap.size,0,none⟩):=Act.eval_put_same _ _ _ hz;refine ⟨h.mono,h.aft.trans ha,fun x hx p=>?_,fun x hx p=>?_,fun x hx p=>?_,fun x hx y hy hn p q=>?_,by rw [upd_ne' (Ne.symm h0)];exact h.no⟩
 ·obtain ⟨e1,e2⟩:=h1 x hx;rw [upd_ne' e1] at p;rw [ns _ e2];exact h.mono _ _ _ _ (h.fact x hx p) ha
 ·obtain ⟨⟨e1,e2⟩,e3⟩:=h2 x hx;rcases e1 with ⟨⟨e1,e4⟩,e5⟩ | ⟨e1,e4⟩
  ·refine ⟨W.heap.size,z i,by rw [e4];exact nn,h.aft.size,by rw [e5];exact Blk.new _ _ _,fun _=>by rw [e1],fun q=>?_⟩;rw [upd_ne' e2] at q;have:=(h.late x hx q).2;rw [e1,hd] at this;cases this
  ·rw [upd_ne' e1] at p;obtain ⟨b,cs,f1,f2,f3,f4,f5⟩:=h.box x hx p;refine ⟨b,cs,by rw [ns _ e4];exact f1,f2,f3.aft ha,fun q=>f4 (by rw [upd_ne' e2] at q;exact q),fun q=>?_⟩;rw [upd_ne' e2] at q;rw [ns _ e3];exact f5 q
 ·obtain ⟨⟨e1,e2⟩,e3⟩:=h2 x hx;rw [upd_ne' e2] at p;exact ⟨upd_up (h.late x hx p).1,upd_up (h.late x hx p).2⟩
 ·obtain ⟨⟨e1,e2⟩,e3⟩:=h2 x hx;obtain ⟨⟨g1,g2⟩,g3⟩:=h2 y hy;rcases e1 with ⟨⟨e1,e4⟩,e5⟩ | ⟨e1,e4⟩
  ·rcases g1 with ⟨⟨g1,g4⟩,g5⟩ | ⟨g1,g4⟩
   ·exact absurd (e1.trans g1.symm) hn
   ·rw [upd_ne' g1] at q;obtain ⟨b,cs,f1,f2,f3,f4,f5⟩:=h.box y hy q;rw [e4,nn,ns _ g4,f1];intro e;cases e;exact absurd f3.lt (Nat.lt_irrefl _)
  ·rw [upd_ne' e1] at p;rcases g1 with ⟨⟨g1,g4⟩,g5⟩ | ⟨g1,g4⟩
   ·obtain ⟨b,cs,f1,f2,f3,f4,f5⟩:=h.box x hx p;rw [g4,nn,ns _ e4,f1];intro e;cases e;exact absurd f3.lt (Nat.lt_irrefl _)
   ·rw [upd_ne' g1] at q;rw [ns _ e4,ns _ g4];exact h.ne x hx y hy hn p q
theorem OpR.put (h:OpR W0 FI BI P z done a W) {x:BoxI} (hx:x ∈ BI) (ho:done x.op = true) (hv:done x.vop = true) {b:Nat} (eb:a.eval (.tmp x.tmp) = .pointer (some ⟨b,0,none⟩)) {cs':Array Value} (ev:a.eval (.tmp x.vtmp) = .agg cs')
  (haft:Aft W0 W') (hblk:Blk W' b x.ty cs') (hoth:∀ b' t cs,b' ≠ b -> Blk W b' t cs -> Blk W' b' t cs) (hF:∀ y ∈ FI,done y.1 = true -> P y.1 (a.eval (.tmp y.2)) W -> P y.1 (a.eval (.tmp y.2)) W')
  (hk:((x.sop != 99) && FI.all (fun y=>y.1 != x.sop) && BI.all (fun y=>y.op != x.sop && (y.sop != x.sop || y.op == x.op) && (y.op != x.op || (y.tmp == x.tmp && y.ty == x.ty && y.vtmp == x.vtmp && y.vop == x.vop && y.sop == x.sop)))) = true):OpR W0 FI BI P z (Go.upd done x.sop) (a.put none undef) W':=by
 simp only [Bool.and_eq_true,List.all_eq_true,bne_iff_ne,ne_eq,Bool.or_eq_true,beq_iff_eq] at hk;obtain ⟨⟨h0,h1⟩,h2⟩:=hk;have ns:∀ s:Nat,(a.put none undef).eval (.tmp s) = a.eval (.tmp s):=fun s=>rfl
 refine ⟨h.mono,haft,fun y hy p=>?_,fun y hy p=>?_,fun y hy p=>?_,fun y hy y' hy' hn p q=>?_,by rw [upd_ne' (Ne.symm h0)];exact h.no⟩
 ·rw [upd_ne' (h1 y hy)] at p;exact hF y hy p (h.fact y hy p)
 ·obtain ⟨⟨e1,e2⟩,e3⟩:=h2 y hy;rw [upd_ne' e1] at p;by_cases e:y.op = x.op
  ·rcases e3 with e3 | ⟨⟨⟨⟨e3,e4⟩,e5⟩,e6⟩,e7⟩
   ·exact absurd e e3
   ·refine ⟨b,cs',by rw [ns,e3];exact eb,?_,by rw [e4];exact hblk,fun q=>?_,fun _=>by rw [ns,e5];exact ev⟩
    ·obtain ⟨b',cs,f1,f2,-⟩:=h.box x hx ho;rw [eb] at f1;cases f1;exact f2
    ·rw [e7,upd_same'] at q;cases q
  ·obtain ⟨b2,cs2,f1,f2,f3,f4,f5⟩:=h.box y hy p;have hb:b2 ≠ b:=fun e9=>h.ne y hy x hx e p ho (by rw [f1,eb,e9])
   have hsop:y.sop ≠ x.sop:=by
    rcases e2 with e2 | e2
    ·exact e2
    ·exact absurd e2 e
   refine ⟨b2,cs2,f1,f2,hoth _ _ _ hb f3,fun q=>f4 (by rw [upd_ne' hsop] at q;exact q),fun q=>f5 (by rw [upd_ne' hsop] at q;exact q)⟩
 ·obtain ⟨⟨e1,e2⟩,e3⟩:=h2 y hy;by_cases e10:y.sop = x.sop
  ·rcases e2 with e2 | e2
   ·exact absurd e10 e2
   ·rcases e3 with e3 | ⟨⟨⟨⟨e3,e4⟩,e5⟩,e6⟩,e7⟩
    ·exact absurd e2 e3
    ·rw [e6,e2];exact ⟨upd_up hv,upd_up ho⟩
  ·rw [upd_ne' e10] at p;exact ⟨upd_up (h.late y hy p).1,upd_up (h.late y hy p).2⟩
 ·obtain ⟨⟨e1,-⟩,-⟩:=h2 y hy;obtain ⟨⟨g1,-⟩,-⟩:=h2 y' hy';rw [upd_ne' e1] at p;rw [upd_ne' g1] at q;exact h.ne y hy y' hy' hn p q
end
theorem own_block_ne {W:World} {base:Nat} {e t:TypeId} {size:Nat} {v:Value} {n:Nat} {xs:List Value} (h:W.ownsRow base e size v n xs) {b:Nat} {cs:Array Value} (hb:Blk W b t cs) (hne:e ≠ t):some b ≠ v.ownBlock:=by
 rcases h.2 with ⟨rfl,-⟩ | ⟨g,cap,cur,rfl,-,hh,-⟩
 ·intro h;cases h
 ·intro h;have h:some b = some g:=h;cases h;unfold Blk at hb;rw [hb] at hh;injection hh with hh
  injection hh with _ hh
  exact hne hh.symm
theorem blk_push {W W':World} {base:Nat} {e t:TypeId} {size:Nat} {v:Value} {n:Nat} {xs:List Value} {b:Nat} {cs:Array Value} (hb:Blk W b t cs) (h:W.ownsRow base e size v n xs) (hg:W.grownBy W' v.ownBlock) (hne:e ≠ t):Blk W' b t cs:=hb.grown hg (own_block_ne h hb hne)
theorem own_far2 {W:World} {base:Nat} {e t:TypeId} {size:Nat} {v:Value} {n:Nat} {xs:List Value} (h:W.ownsRow base e size v n xs) {b:Nat} {cs:Array Value} (hb:Blk W b t cs) (hne:e ≠ t) (i:Nat) (u:Value):(W.setCell ⟨b,i,none⟩ u).ownsRow base e size v n xs:=by
 have h0:=own_block_ne h hb hne;rcases h with ⟨h1,h2⟩
 refine ⟨h1,?_⟩;rcases h2 with h2 | ⟨g,cap,cur,rfl,hg,hh,hr⟩
 ·exact .inl h2
 ·refine .inr ⟨g,cap,cur,rfl,hg,?_,hr⟩;rw [Below.heap_setCell W ⟨b,i,none⟩ u g (fun e=>h0 (by show some b = some g;rw [e]))];exact hh
theorem own_slice_form {W:World} {base:Nat} {e:TypeId} {size:Nat} {v:Value} {n:Nat} {xs:List Value} (h:W.ownsRow base e size v n xs):∃ A m c,v = .slice A m c:=by
 rcases h.2 with ⟨rfl,-⟩ | ⟨g,cap,cur,rfl,-⟩
 ·exact ⟨_,_,_,rfl⟩
 ·exact ⟨_,_,_,rfl⟩
end Go.Proofs
end
section
/- Walks: the reference's Play 15. -/
namespace Go.Proofs
open Go.RowKit
attribute [local go_sem] Oper.semAt_some
set_option maxRecDepth 100000 in
set_option maxHeartbeats 2000000 in
theorem refPlay_bad (S:SetL) (A:Option Addr) (c:Nat) (w:World) (hA:Quads w A S.J) (he:setE S ≠ 0) :
  Calls Tryz.prog 15 #[.agg #[.int .i64 S.n,.slice A S.J.length c]] w fun e w'=>e = .returned (.tuple #[.agg #[.int .i64 0,.int .i64 0],.int .i64 (setE S)]) /\ Aft w w':=by
 obtain ⟨s,hs⟩:∃ s,w.heap.size = s:=⟨_,rfl⟩;have F0:=((Fr.start w).alloc rfl 37 #[.int .i64 S.n,.slice A S.J.length c]).alloc (by simp) 29 #[.int .i64 0,.int .i64 0];simp only [List.nil_append,List.cons_append] at F0;rw [hs] at F0;have HO:=Lib.hid (refCheck_any S A c _ (hA.aft F0.aft));have t1:(setE S != 0) = true:=by simpa using he
 have HF0:=Lib.hid F0;clear hA he F0;generalize setE S = E at *;go_enter Tryz.func15,Tryz.ntmps15;go_upto_region 2 with (go_at_call 39;refine HO.out.mono ?_;rintro e w2 ⟨rfl,u,rfl⟩)
 have HF2:=Lib.hid (HF0.out.later (Aft.lat _ u))
 try rw [hs]
 generalize (((w.alloc (.cells #[.int .i64 S.n,.slice A S.J.length c] 37)).alloc (.cells #[.int .i64 0,.int .i64 0] 29)).lat u) = W2 at *;have z0:=(HF2.out.nth 1 rfl).cell 0;have z1:=(HF2.out.nth 1 rfl).cell 1;have z2:=(HF2.out.nth 1 rfl).lt;have z3:=(HF2.out.nth 1 rfl).frozen 0;have z4:=(HF2.out.nth 1 rfl).frozen 1;simp only [List.getElem?_toArray,List.getElem?_cons_zero,List.getElem?_cons_succ] at z0 z1;clear HF0 HO;go_wp2_with fail
 have B2:=((HF2.out.nth 1 rfl).store 0 (.int .i64 0)).store 1 (.int .i64 0);have A2:=(HF2.out.aft.then_setCell (p:=⟨s + 1,0,none⟩) (by show w.heap.size <= s + 1;omega) (.int .i64 0)).then_setCell (p:=⟨s + 1,1,none⟩) (by show w.heap.size <= s + 1;omega) (.int .i64 0);generalize (W2.setCell ⟨s + 1,0,none⟩ (.int .i64 0)).setCell ⟨s + 1,1,none⟩ (.int .i64 0) = X at *;have z0:X.cell? ⟨s + 1,0,none⟩ = some (.int .i64 0):=B2.cell 0;have z1:X.cell? ⟨s + 1,1,none⟩ = some (.int .i64 0):=B2.cell 1;exact bodyPost_ret (v:=.tuple #[.agg #[.int .i64 0,.int .i64 0],.int .i64 E]) (by simp [results,Tryz.results15,go_sem,z0,z1]) rfl ⟨rfl,A2⟩
set_option maxRecDepth 100000 in
set_option maxHeartbeats 4000000 in
theorem refPlay_two (S:SetL) (A:Option Addr) (c:Nat) (w:World) (hA:Quads w A S.J) (he:setE S = 0) {a1 a2 b1 b2:Int} (hp:LP S false (a1,a2)) (hq:LP S true (b1,b2)) :
  Calls Tryz.prog 15 #[.agg #[.int .i64 S.n,.slice A S.J.length c]] w fun e w'=>e = .returned (.tuple #[.agg #[.int .i64 (gr2 (a1,a2) (b1,b2)).1,.int .i64 (gr2 (a1,a2) (b1,b2)).2],.int .i64 0]) /\ Aft w w':=by
 obtain ⟨s,hs⟩:∃ s,w.heap.size = s:=⟨_,rfl⟩;have hS:=setE_ok he;have F0:=((Fr.start w).alloc rfl 37 #[.int .i64 S.n,.slice A S.J.length c]).alloc (by simp) 29 #[.int .i64 0,.int .i64 0];simp only [List.nil_append,List.cons_append] at F0;rw [hs] at F0;have HO:=refCheck_any S A c _ (hA.aft F0.aft);rw [he] at HO;have HO:=Lib.hid HO;have HS0:=Lib.hid hs;have HQ:=Lib.hid (hA.aft F0.aft)
 have HW:Hid (∀ (north:Bool) (p1 p2:Int),LP S north (p1,p2) -> ∀ W,Quads W A S.J -> Calls Tryz.prog 51 #[.agg #[.int .i64 S.n,.slice A S.J.length c],.bool north] W fun e w'=>e = .returned (.agg #[.int .i64 p1,.int .i64 p2]) /\ Aft W w'):=Lib.hid fun north p1 p2 hl W hW =>
  (refWorst_any S A c north W hW hS).mono fun e w' ⟨q,h1,h2,h3⟩=>by
   obtain rfl:=hl.same h2;exact ⟨h1,h3⟩
 have HWa:=Lib.hid (HW.out false a1 a2 hp);have HWb:=Lib.hid (HW.out true b1 b2 hq);have HF0:=Lib.hid F0;have ha1:=hp.least.p0;have ha2:=hp.n1;have ha3:=hp.least.q0;have ha4:=hp.d1;have hb1:=hq.least.p0;have hb2:=hq.n1;have hb3:=hq.least.q0;have hb4:=hq.d1;dsimp only at ha1 ha2 ha3 ha4 hb1 hb2 hb3 hb4;have e1:=prodb (x:=b1) (y:=a2) (by omega) (by omega) (by omega) (by omega);have e2:=prodb (x:=a1) (y:=b2) (by omega) (by omega) (by omega) (by omega);have HMO:Hid (∀ W,Calls Tryz.prog 47 #[.agg #[.int .i64 b1,.int .i64 b2],.agg #[.int .i64 a1,.int .i64 a2]] W fun e w'=>e = .returned (.bool (decide (a1 * b2 < b1 * a2))) /\ Aft W w'):=Lib.hid fun W=>more_any b1 b2 a1 a2 W e1 e2
 have HGR:Hid (gr2 (a1,a2) (b1,b2) = if decide (a1 * b2 < b1 * a2) = true then (b1,b2) else (a1,a2)):=Lib.hid rfl;generalize gr2 (a1,a2) (b1,b2) = r at *;obtain ⟨t,ht⟩:∃ t,decide (a1 * b2 < b1 * a2) = t:=⟨_,rfl⟩;rw [ht] at HMO HGR;clear hA he F0 hS hp hq HW e1 e2 ha1 ha2 ha3 ha4 hb1 hb2 hb3 hb4 ht;go_enter Tryz.func15,Tryz.ntmps15;go_upto_region 2 with (go_at_call 39;refine HO.out.mono ?_;rintro e w2 ⟨rfl,u,rfl⟩)
 have HF2:=Lib.hid (HF0.out.later (Aft.lat _ u));have HQ2:=Lib.hid (HQ.out.aft (Aft.lat _ u))
 try rw [hs]
 generalize (((w.alloc (.cells #[.int .i64 S.n,.slice A S.J.length c] 37)).alloc (.cells #[.int .i64 0,.int .i64 0] 29)).lat u) = W2 at *;clear HF0 HO HQ;go_upto_region 4 with fail
 refine wp_region_valsU (by kernel_rfl) 6 22 rfl (by kernel_rfl) (by kernel_rfl) [some (.agg #[.int .i64 S.n,.slice A S.J.length c]),some (.agg #[.int .i64 a1,.int .i64 a2]),some (.agg #[.int .i64 S.n,.slice A S.J.length c]),some (.agg #[.int .i64 b1,.int .i64 b2]),none,none] (by kernel_rfl) rfl (OpR W2 [] [⟨4,5,29,99,99,999⟩,⟨5,6,29,99,99,999⟩] (fun _ _ _=>True) (fun _=>#[.int .i64 0,.int .i64 0])) (OpR.start (fun _ _ _ _ _ _=>trivial)) ?st1 ?fi1
 case st1 =>
  intro i o v ho hv
  match i,ho,hv with
  | 0,ho,hv =>
   cases ho;cases hv;refine .inl ⟨rfl,fun done a W hz hd hp hk hw K hK=>?_⟩;have e1:=hk.same 1 (by decide);exact op_val (v:=.agg #[.int .i64 S.n,.slice A S.J.length c]) (by simp [go_sem,ev' e1,(HF2.out.nth 0 rfl |>.aft hw.aft).cell 0,(HF2.out.nth 0 rfl |>.aft hw.aft).cell 1]) (hK _ _ (fun u hu=>by cases hu;rfl) (hw.keep (Aft.refl _) hd (by decide)))
  | 1,ho,hv =>
   cases ho;cases hv;refine .inl ⟨rfl,fun done a W hz hd hp hk hw K hK=>?_⟩;have e13:=hk.at_ 0 _ 13 _ rfl (by decide) _ rfl rfl rfl;refine op_callN rfl rfl rfl _ rfl (vs:=#[.agg #[.int .i64 S.n,.slice A S.J.length c],.bool false]) (by simp [e13];rfl) (HWa.out W (HQ2.out.aft hw.aft)) ?_;rintro e w7 ⟨rfl,hw7⟩;exact ⟨_,rfl,hK _ _ (fun u hu=>by cases hu;rfl) (hw.keep hw7 hd (by decide))⟩
  | 2,ho,hv =>
   cases ho;cases hv;refine .inl ⟨rfl,fun done a W hz hd hp hk hw K hK=>?_⟩;have e1:=hk.same 1 (by decide);exact op_val (v:=.agg #[.int .i64 S.n,.slice A S.J.length c]) (by simp [go_sem,ev' e1,(HF2.out.nth 0 rfl |>.aft hw.aft).cell 0,(HF2.out.nth 0 rfl |>.aft hw.aft).cell 1]) (hK _ _ (fun u hu=>by cases hu;rfl) (hw.keep (Aft.refl _) hd (by decide)))
  | 3,ho,hv =>
   cases ho;cases hv;refine .inl ⟨rfl,fun done a W hz hd hp hk hw K hK=>?_⟩;have e15:=hk.at_ 2 _ 15 _ rfl (by decide) _ rfl rfl rfl;refine op_callN rfl rfl rfl _ rfl (vs:=#[.agg #[.int .i64 S.n,.slice A S.J.length c],.bool true]) (by simp [e15];rfl) (HWb.out W (HQ2.out.aft hw.aft)) ?_;rintro e w7 ⟨rfl,hw7⟩;exact ⟨_,rfl,hK _ _ (fun u hu=>by cases hu;rfl) (hw.keep hw7 hd (by decide))⟩
  | 4,ho,hv =>
   cases ho;cases hv;refine .inl ⟨rfl,fun done a W hz hd hp hk hw K hK=>?_⟩;exact op_valW (w':=W.alloc (.cells #[.int .i64 0,.int .i64 0] 29)) (v:=.pointer (some ⟨W.heap.size,0,none⟩)) (by simp [go_sem]) (hK _ _ (fun u hu=>by cases hu) (hw.lay (i:=4) (t:=5) (ty:=29) hd (by rw [hz];decide) (by decide)))
  | 5,ho,hv =>
   cases ho;cases hv;refine .inl ⟨rfl,fun done a W hz hd hp hk hw K hK=>?_⟩;exact op_valW (w':=W.alloc (.cells #[.int .i64 0,.int .i64 0] 29)) (v:=.pointer (some ⟨W.heap.size,0,none⟩)) (by simp [go_sem]) (hK _ _ (fun u hu=>by cases hu) (hw.lay (i:=5) (t:=6) (ty:=29) hd (by rw [hz];decide) (by decide)))
  | _ + 6,_,hv=>cases hv
 intro done us W hus hd hw;obtain ⟨x1,x2,rfl⟩:=list2 hus;obtain ⟨ba,ca,ea,hba,hka,hza,-⟩:=hw.box ⟨4,5,29,99,99,999⟩ (by simp) (hd 4 (by decide));obtain ⟨bb,cb,eb,hbb,hkb,hzb,-⟩:=hw.box ⟨5,6,29,99,99,999⟩ (by simp) (hd 5 (by decide));have hne:=hw.ne ⟨4,5,29,99,99,999⟩ (by simp) ⟨5,6,29,99,99,999⟩ (by simp) (by decide) (hd 4 (by decide)) (hd 5 (by decide));dsimp only at ea hka hza eb hkb hzb hne;obtain rfl:=hza hw.no;obtain rfl:=hzb hw.no;have hwa:=hw.aft;have ea':x1 = .pointer (some ⟨ba,0,none⟩):=by simpa [fill,putAll,Act.put,Act.eval] using ea
 have eb':x2 = .pointer (some ⟨bb,0,none⟩):=by simpa [fill,putAll,Act.put,Act.eval] using eb
 have hbn:ba ≠ bb:=fun e=>hne (by rw [ea,eb,e])
 clear hw hd hus ea eb hza hzb hne;subst ea' eb';simp only [fill,List.drop_succ_cons,List.drop_zero,List.zip_cons_cons,List.zip_nil_right,putAll];simp only [Act.put,List.setIfInBounds_toArray,List.set];have c0:=hka.cell 0;have c1:=hka.cell 1;have c2:=hka.frozen 0;have c3:=hka.frozen 1;have c4:=hka.lt;simp only [List.getElem?_toArray,List.getElem?_cons_zero,List.getElem?_cons_succ] at c0 c1;have HK1:=Lib.hid ((hka.store 0 (.int .i64 a1)).store 1 (.int .i64 a2));have HK2:=Lib.hid ((hkb.far (p:=⟨ba,0,none⟩) hbn.symm (.int .i64 a1)).far (p:=⟨ba,1,none⟩) hbn.symm (.int .i64 a2));have HA1:=Lib.hid ((hwa.then_setCell (p:=⟨ba,0,none⟩) hba (.int .i64 a1)).then_setCell (p:=⟨ba,1,none⟩) hba (.int .i64 a2));have d0:=HK2.out.cell 0;have d1:=HK2.out.cell 1;have d2:=HK2.out.frozen 0;have d3:=HK2.out.frozen 1;have d4:=HK2.out.lt;simp only [List.getElem?_toArray,List.getElem?_cons_zero,List.getElem?_cons_succ] at d0 d1;clear hwa hka hkb;have HK3:=Lib.hid ((HK2.out.store 0 (.int .i64 b1)).store 1 (.int .i64 b2));have HK4:=Lib.hid ((HK1.out.far (p:=⟨bb,0,none⟩) hbn (.int .i64 b1)).far (p:=⟨bb,1,none⟩) hbn (.int .i64 b2));have HA2:=Lib.hid ((HA1.out.then_setCell (p:=⟨bb,0,none⟩) hbb (.int .i64 b1)).then_setCell (p:=⟨bb,1,none⟩) hbb (.int .i64 b2));have hX:∃ X,(((W.setCell ⟨ba,0,none⟩ (.int .i64 a1)).setCell ⟨ba,1,none⟩ (.int .i64 a2)).setCell ⟨bb,0,none⟩ (.int .i64 b1)).setCell ⟨bb,1,none⟩ (.int .i64 b2) = X:=⟨_,rfl⟩;go_upto_region 5 with fail
 obtain ⟨X,hX⟩:=hX;rw [hX] at HK3 HK4 HA2 ⊢;clear c0 c1 c2 c3 c4 d0 d1 d2 d3 d4 HK1 HK2 HA1 hX hbn hba hbb HWa HWb;have c0:X.cell? ⟨ba,0,none⟩ = some (.int .i64 a1):=HK4.out.cell 0;have c1:X.cell? ⟨ba,1,none⟩ = some (.int .i64 a2):=HK4.out.cell 1;have c2:=HK4.out.lt;have d0:X.cell? ⟨bb,0,none⟩ = some (.int .i64 b1):=HK3.out.cell 0;have d1:X.cell? ⟨bb,1,none⟩ = some (.int .i64 b2):=HK3.out.cell 1;have d2:=HK3.out.lt;have HF3:=Lib.hid (HF2.out.later HA2.out);clear HF2 HA2;cases t
 ·go_upto_region 7 with (go_at_call 47;refine (HMO.out _).mono ?_;rintro e w7 ⟨rfl,hw7⟩)
  have HK5:=Lib.hid (HK4.out.aft hw7);have HF5:=Lib.hid (HF3.out.later hw7);clear c0 c1 c2 d0 d1 d2 hw7 HMO HK3 HK4 HF3;have c0:w7.cell? ⟨ba,0,none⟩ = some (.int .i64 a1):=HK5.out.cell 0;have c1:w7.cell? ⟨ba,1,none⟩ = some (.int .i64 a2):=HK5.out.cell 1;have c2:=HK5.out.lt;have z0:=(HF5.out.nth 1 rfl).cell 0;have z1:=(HF5.out.nth 1 rfl).cell 1;have z2:=(HF5.out.nth 1 rfl).lt;have z3:=(HF5.out.nth 1 rfl).frozen 0;have z4:=(HF5.out.nth 1 rfl).frozen 1;simp only [List.getElem?_toArray,List.getElem?_cons_zero,List.getElem?_cons_succ] at z0 z1;go_wp2_with fail
  have B2:=((HF5.out.nth 1 rfl).store 0 (.int .i64 a1)).store 1 (.int .i64 a2);have A2:=(HF5.out.aft.then_setCell (p:=⟨s + 1,0,none⟩) (by show w.heap.size <= s + 1;rw [HS0.out];omega) (.int .i64 a1)).then_setCell (p:=⟨s + 1,1,none⟩) (by show w.heap.size <= s + 1;rw [HS0.out];omega) (.int .i64 a2);generalize (w7.setCell ⟨s + 1,0,none⟩ (.int .i64 a1)).setCell ⟨s + 1,1,none⟩ (.int .i64 a2) = X at *;have z0:X.cell? ⟨s + 1,0,none⟩ = some (.int .i64 a1):=B2.cell 0;have z1:X.cell? ⟨s + 1,1,none⟩ = some (.int .i64 a2):=B2.cell 1;refine bodyPost_ret (v:=.tuple #[.agg #[.int .i64 a1,.int .i64 a2],.int .i64 0]) (by simp [results,Tryz.results15,go_sem,z0,z1]) rfl ⟨?_,A2⟩;rw [HGR.out];rfl
 ·go_upto_region 6 with (go_at_call 47;refine (HMO.out _).mono ?_;rintro e w7 ⟨rfl,hw7⟩)
  have HK5:=Lib.hid (HK3.out.aft hw7);have HF5:=Lib.hid (HF3.out.later hw7);clear c0 c1 c2 d0 d1 d2 hw7 HMO HK3 HK4 HF3;have c0:w7.cell? ⟨bb,0,none⟩ = some (.int .i64 b1):=HK5.out.cell 0;have c1:w7.cell? ⟨bb,1,none⟩ = some (.int .i64 b2):=HK5.out.cell 1;have c2:=HK5.out.lt;have z0:=(HF5.out.nth 1 rfl).cell 0;have z1:=(HF5.out.nth 1 rfl).cell 1;have z2:=(HF5.out.nth 1 rfl).lt;have z3:=(HF5.out.nth 1 rfl).frozen 0;have z4:=(HF5.out.nth 1 rfl).frozen 1;simp only [List.getElem?_toArray,List.getElem?_cons_zero,List.getElem?_cons_succ] at z0 z1;go_wp2_with fail
  have B2:=((HF5.out.nth 1 rfl).store 0 (.int .i64 b1)).store 1 (.int .i64 b2);have A2:=(HF5.out.aft.then_setCell (p:=⟨s + 1,0,none⟩) (by show w.heap.size <= s + 1;rw [HS0.out];omega) (.int .i64 b1)).then_setCell (p:=⟨s + 1,1,none⟩) (by show w.heap.size <= s + 1;rw [HS0.out];omega) (.int .i64 b2);generalize (w7.setCell ⟨s + 1,0,none⟩ (.int .i64 b1)).setCell ⟨s + 1,1,none⟩ (.int .i64 b2) = X at *;have z0:X.cell? ⟨s + 1,0,none⟩ = some (.int .i64 b1):=B2.cell 0;have z1:X.cell? ⟨s + 1,1,none⟩ = some (.int .i64 b2):=B2.cell 1;refine bodyPost_ret (v:=.tuple #[.agg #[.int .i64 b1,.int .i64 b2],.int .i64 0]) (by simp [results,Tryz.results15,go_sem,z0,z1]) rfl ⟨?_,A2⟩;rw [HGR.out];rfl
theorem refPlay_good (S:SetL) (A:Option Addr) (c:Nat) (w:World) (hA:Quads w A S.J) (he:setE S = 0) :
  Calls Tryz.prog 15 #[.agg #[.int .i64 S.n,.slice A S.J.length c]] w fun e w'=>∃ p:Int × Int,e = .returned (.tuple #[.agg #[.int .i64 p.1,.int .i64 p.2],.int .i64 0]) /\ PlayOf S p /\ Aft w w':=by
 obtain ⟨⟨a1,a2⟩,hp⟩:=lp_ex (setE_ok he) false;obtain ⟨⟨b1,b2⟩,hq⟩:=lp_ex (setE_ok he) true;exact (refPlay_two S A c w hA he hp hq).mono fun e w' ⟨h1,h2⟩=>⟨_,h1,playOf_two hp hq,h2⟩
end Go.Proofs
end
section
/- Walks: the reference's Tied 48. -/
namespace Sheet
structure TdQ (E:List Edge) (n:Nat) (ends:List (Nat × Nat)) (f0 f:Nat -> Nat) (k:Nat):Prop where
 wk:∀ a,a < n -> ∃ l s,Wk E a (f a) l s
 low:∀ a,a < n -> f a <= f0 a
 near:∀ (i a b:Nat),i < k -> ends[i]? = some (a,b) -> f a <= f0 b /\ f b <= f0 a
theorem TdQ.start {E:List Edge} {n:Nat} {ends:List (Nat × Nat)} {f:Nat -> Nat} (h1:∀ a,a < n -> ∃ l s,Wk E a (f a) l s):TdQ E n ends f f 0 :=
 ⟨h1,fun _ _=>Nat.le_refl _,fun i a b h _=>absurd h (Nat.not_lt_zero _)⟩
theorem TdQ.join {E:List Edge} {n:Nat} {ends:List (Nat × Nat)} {f0 f:Nat -> Nat} {k:Nat} (h:TdQ E n ends f0 f k) (hends:∀ (i a b:Nat),ends[i]? = some (a,b) -> a < n /\ b < n) {a b:Nat} (he:ends[k]? = some (a,b)) (h1:∃ w,(a,b,w) ∈ E) (h2:∃ w,(b,a,w) ∈ E):TdQ E n ends f0 (join2 f a b (min (f a) (f b))) (k + 1):=by
 obtain ⟨w1,h1⟩:=h1;obtain ⟨w2,h2⟩:=h2;obtain ⟨ha,hb⟩:=hends k a b he
 have hle:∀ i,i < n -> join2 f a b (min (f a) (f b)) i <= f i:=by
  intro i _;unfold join2;by_cases e1:i = b
  ·rw [if_pos e1,e1];exact Nat.min_le_right _ _
  ·rw [if_neg e1];by_cases e2:i = a
   ·rw [if_pos e2,e2];exact Nat.min_le_left _ _
   ·rw [if_neg e2];exact Nat.le_refl _
 have hwk:∀ x,x = a \/ x = b -> ∃ l s,Wk E x (min (f a) (f b)) l s:=by
  intro x hx;obtain ⟨la,sa,wa⟩:=h.wk a ha;obtain ⟨lb,sb,wb⟩:=h.wk b hb;have e:min (f a) (f b) = f a \/ min (f a) (f b) = f b:=by omega
  rcases hx with rfl | rfl <;> rcases e with e | e <;> rw [e]
  ·exact ⟨_,_,wa⟩
  ·exact ⟨_,_,(Wk.one h1).append wb⟩
  ·exact ⟨_,_,(Wk.one h2).append wa⟩
  ·exact ⟨_,_,wb⟩
 refine ⟨fun x hx=>?_,fun x hx=>Nat.le_trans (hle x hx) (h.low x hx),fun i a' b' hi he'=>?_⟩
 ·unfold join2;by_cases e1:x = b
  ·rw [if_pos e1];exact hwk x (.inr e1)
  ·rw [if_neg e1];by_cases e2:x = a
   ·rw [if_pos e2];exact hwk x (.inl e2)
   ·rw [if_neg e2];exact h.wk x hx
 ·obtain ⟨ha',hb'⟩:=hends i a' b' he';by_cases e:i = k
  ·subst e;rw [he'] at he;cases he
   have h3:join2 f a b (min (f a) (f b)) a = min (f a) (f b):=by
    unfold join2;by_cases e1:a = b
    ·rw [if_pos e1]
    ·rw [if_neg e1,if_pos rfl]
   have h4:join2 f a b (min (f a) (f b)) b = min (f a) (f b):=by unfold join2;rw [if_pos rfl]
   rw [h3,h4];have h5:=h.low a ha;have h6:=h.low b hb;omega
  ·have h3:=h.near i a' b' (by omega) he';have h4:=hle a' ha';have h5:=hle b' hb';omega
end Sheet
namespace Go.Proofs
open Go.RowKit
attribute [local go_sem] Oper.semAt_some
theorem ends_in {S:SetL} (hS:SetOk S):∀ (i a b:Nat),(endsOf S.J)[i]? = some (a,b) -> a < S.n.toNat /\ b < S.n.toNat:=by
 intro i a b h;unfold endsOf at h;rw [List.getElem?_map] at h
 cases hj:S.J[i]? with
 | none=>rw [hj] at h;cases h
 | some j =>
  rw [hj] at h;cases h;have hi:=(List.getElem?_eq_some_iff.1 hj);have hm:j ∈ S.J:=List.mem_of_getElem? hj;have:=hS.ends _ hm;have:=hS.n1;omega
theorem near_done {S:SetL} {f0 f:Nat -> Nat} {k:Nat} (hS:SetOk S) (h0:Sheet.Near (Sheet.legs (joOf false S.J)) S.n.toNat k f0) (h:Sheet.TdQ (Sheet.legs (joOf false S.J)) S.n.toNat (endsOf S.J) f0 f S.J.length):Sheet.Near (Sheet.legs (joOf false S.J)) S.n.toNat (k + 1) f:=by
 refine h0.round (hS.ok false).in h.low fun a b w he=>?_
 obtain ⟨g,g1,g2,g3,-⟩:=Sheet.mem_leg he;have hg:g.1 < S.J.length:=by simpa [joOf] using g1
 have hjo:Sheet.jo (joOf false S.J) g.1 = (S.J[g.1].a.toNat,S.J[g.1].b.toNat,way1 false S.J[g.1]):=by
  unfold Sheet.jo joOf;rw [List.getD_eq_getElem?_getD,List.getElem?_map,List.getElem?_eq_getElem hg];rfl
 have h1:=h.near g.1 _ _ hg (show (endsOf S.J)[g.1]? = some (S.J[g.1].a.toNat,S.J[g.1].b.toNat) by unfold endsOf;rw [List.getElem?_map,List.getElem?_eq_getElem hg];rfl);subst g2;subst g3;unfold Sheet.from_ Sheet.into;rw [hjo];cases g.2
 ·exact h1.1
 ·exact h1.2
set_option maxRecDepth 100000 in
set_option maxHeartbeats 8000000 in
theorem refTied_good (S:SetL) (A:Option Addr) (c:Nat) (w:World) (hA:Quads w A S.J) (he:setE S = 0) :
  Calls Tryz.prog 48 #[.agg #[.int .i64 S.n,.slice A S.J.length c]] w (TiedR S w):=by
 obtain ⟨s,hs⟩:∃ s,w.heap.size = s:=⟨_,rfl⟩;obtain ⟨W1,hW1⟩:∃ W1,w.alloc (.cells #[.int .i64 S.n,.slice A S.J.length c] 37) = W1:=⟨_,rfl⟩;have HAF:=Lib.hid (hW1 ▸ Aft.alloc w (.cells #[.int .i64 S.n,.slice A S.J.length c] 37));have HB1:Hid (Blk W1 s 37 #[.int .i64 S.n,.slice A S.J.length c]):=Lib.hid (by rw [<- hW1,<- hs];exact Blk.new w 37 _);have HA:=Lib.hid (hA.aft HAF.out);have HC:=Lib.hid (refCheck_any S A c W1 HA.out);rw [he] at HC;have hS:=setE_ok he;have hn1:=hS.n1;have hn2:=hS.n2;have HEI:=Lib.hid (ends_in hS);have HS:=Lib.hid hS;have hfew:=hS.few;obtain ⟨n,hn⟩:∃ n,S.n.toNat = n:=⟨_,rfl⟩;have hnn:S.n = (n:Int):=by omega
 have hn12:n <= 12:=by omega
 have hn0:0 < n:=by omega
 rw [hn] at HEI;have HNN:=Lib.hid hnn;have HN:=Lib.hid hn;have HW1:=Lib.hid hW1;have HS1:=Lib.hid hs;clear hA he hS hn hnn hW1 hs;go_enter Tryz.func48,Tryz.ntmps48;go_upto_region 1 with fail
 try rw [HS1.out]
 try rw [HW1.out]
 have c0:W1.cell? ⟨s,0,none⟩ = some (.int .i64 S.n):=HB1.out.cell 0;have c1:W1.cell? ⟨s,1,none⟩ = some (.slice A S.J.length c):=HB1.out.cell 1;have c2:=HB1.out.lt;go_upto_region 2 with (go_at_call 39;refine HC.out.mono ?_;rintro e w2 ⟨rfl,ha2⟩)
 have HA2:=Lib.hid ha2;clear c0 c1 c2 ha2;have c0:w2.cell? ⟨s,0,none⟩ = some (.int .i64 (n:Int)):=by rw [<- HNN.out];exact (HB1.out.aft HA2.out).cell 0
 have c2:=(HB1.out.aft HA2.out).lt;go_upto_block 0 with fail
 clear c0 c2;refine wp_block ?_;go_loopw [5,6] (fun v i wr=>∃ k:Nat,i = .int .i64 (k:Nat) /\ k <= n /\ wr.ownsRow w2.heap.size 3 1 v k ((List.range k).map fun i=>Value.int .i64 ((i:Nat):Int)) /\ Aft w2 wr) (fun _ i _=>n - (intOf i).toNat)
 case atStart=>exact ⟨0,rfl,by omega,World.ownsRow_nil _ _ 3 1,Aft.refl _⟩
 case round =>
  obtain ⟨k,rfl,hk,ho,ha⟩:=hrel;have HO:=Lib.hid ho;have HX:=Lib.hid ha;clear ho ha;have c0:wr.cell? ⟨s,0,none⟩ = some (.int .i64 (n:Int)):=by rw [<- HNN.out];exact (HB1.out.aft (HA2.out.trans HX.out)).cell 0
  have c2:=(HB1.out.aft (HA2.out.trans HX.out)).lt;by_cases hkn:k < n
  ·have t1:decide (k < n) = true:=by simpa using hkn
   have hax:=HX.out.trans (Aft.alloc wr (.cells #[.int .i64 (k:Nat)] 3));have hox:=own_aft HO.out (Aft.alloc wr (.cells #[.int .i64 (k:Nat)] 3));go_wp2_with (at_builtin;refine wpList_app ty24 rfl _ _ rfl hax rfl hox rfl rfl (by intro h;cases h) (by intro ad h;cases h;exact src_new wr #[.int .i64 (k:Nat)] 3) (by intro u hu;simp at hu;subst hu;rfl) (by omega) (by decide) ?_;intro v' w7 ho7 hg7 ha7)
   refine ⟨⟨k + 1,rfl,hkn,?_,ha7⟩,?_⟩
   ·rw [List.range_succ,List.map_append];exact ho7
   ·show n - (((k:Int) + 1).toNat) < n - ((k:Int).toNat);omega
  ·have t1:decide (k < n) = false:=by simpa using hkn
   have ek:n = k:=by omega
   subst ek;obtain ⟨g,cg,hv,hg,hfi⟩:=own_fi HO.out hn0;subst hv;have HFI:=Lib.hid hfi;have hgw:W1.heap.size <= g:=Nat.le_trans HA2.out.size hg;have hgs:s ≠ g:=by have:=HB1.out.lt;omega
   have HGW:Hid (w.heap.size <= g):=Lib.hid (Nat.le_trans HAF.out.size hgw);clear hfi HO;go_upto_block 2 with fail
   clear c0 c2 t1;refine wp_block ?_;go_loopw [7] (fun i wr2=>∃ (k:Nat) (f:Nat -> Nat),i = .int .i64 (k:Nat) /\ k <= n /\ Aft w2 wr2 /\ FI wr2 g n f /\ Hid (∀ a,a < n -> ∃ l s,Sheet.Wk (Sheet.legs (joOf false S.J)) a (f a) l s) /\ Hid (Sheet.Near (Sheet.legs (joOf false S.J)) n k f)) (fun i _=>n - (intOf i).toNat)
   case atStart=>exact ⟨0,fun a=>a,rfl,by omega,HX.out,HFI.out,Lib.hid fun a _=>⟨0,0,.nil a⟩,Lib.hid .start⟩
   case round =>
    obtain ⟨k,f0,rfl,hk,hA3,hF3,HW0,HNE⟩:=hrel;have HX3:=Lib.hid hA3;have HF3:=Lib.hid hF3;clear hA3 hF3 HFI HX;have c0:wr.cell? ⟨s,0,none⟩ = some (.int .i64 (n:Int)):=by rw [<- HNN.out];exact (HB1.out.aft (HA2.out.trans HX3.out)).cell 0
    have c2:=(HB1.out.aft (HA2.out.trans HX3.out)).lt;by_cases hkn:k < n
    ·have t1:decide (k < n) = true:=by simpa using hkn
     go_upto_block 4 with fail
     clear c0 c2 t1;refine wp_block ?_;go_loopw [8] (fun i wr4=>∃ (x:Nat) (f:Nat -> Nat),i = .int .i64 (x:Nat) /\ x <= S.J.length /\ Aft w2 wr4 /\ FI wr4 g n f /\ Hid (Sheet.TdQ (Sheet.legs (joOf false S.J)) n (endsOf S.J) f0 f x)) (fun i _=>S.J.length - (intOf i).toNat)
     case atStart=>exact ⟨0,f0,rfl,by omega,HX3.out,HF3.out,Lib.hid (.start HW0.out)⟩
     case round =>
      obtain ⟨x,f,rfl,hx,hA4,hF4,HT4⟩:=hrel;have HX4:=Lib.hid hA4;have HF4:=Lib.hid hF4;clear hA4 hF4 HX3 HF3;have c1:wr.cell? ⟨s,1,none⟩ = some (.slice A S.J.length c):=(HB1.out.aft (HA2.out.trans HX4.out)).cell 1;have c2:=(HB1.out.aft (HA2.out.trans HX4.out)).lt;by_cases hxl:x < S.J.length
      ·have t1:decide (x < S.J.length) = true:=by simpa using hxl
       obtain ⟨b9,o9,rfl,hb9,hc9⟩:=(HA.out.aft (HA2.out.trans HX4.out)).at hxl;obtain ⟨x0,x1,x2,x3⟩:=hc9 x hxl;have hends:=HS.out.ends _ (List.getElem_mem hxl);have HJL:=Lib.hid (joint_legs hxl);have HEN:Hid ((endsOf S.J)[x]? = some (S.J[x].a.toNat,S.J[x].b.toNat)):=Lib.hid (by unfold endsOf;rw [List.getElem?_map,List.getElem?_eq_getElem hxl];rfl);obtain ⟨⟨ja,jb,jx,jy⟩,hj⟩:∃ j,S.J[x] = j:=⟨_,rfl⟩;rw [hj] at x0 x1 x2 x3 hends HJL HEN;dsimp only at x0 x1 x2 x3 hends;clear hc9 hj;obtain ⟨an,rfl⟩:∃ an:Nat,ja = an:=⟨ja.toNat,by omega⟩;obtain ⟨bn,rfl⟩:∃ bn:Nat,jb = bn:=⟨jb.toNat,by omega⟩;dsimp only [Int.toNat_natCast] at HJL HEN;have hnq:=HNN.out;have han:an < n:=by omega
       have hbn:bn < n:=by omega
       clear hends hnq;have HTJ:=Lib.hid (HT4.out.join HEI.out HEN.out HJL.out.1 HJL.out.2);obtain ⟨zj,hzj⟩:∃ zj,wr.heap.size = zj:=⟨_,rfl⟩;obtain ⟨W5,hW5⟩:∃ W5,wr.alloc (.cells #[.int .i64 (an:Nat),.int .i64 (bn:Nat),.int .i64 jx,.int .i64 jy] 90) = W5:=⟨_,rfl⟩;have ha5:=hW5 ▸ Aft.alloc wr (.cells #[.int .i64 (an:Nat),.int .i64 (bn:Nat),.int .i64 jx,.int .i64 jy] 90);have HB5:Hid (Blk W5 zj 90 #[.int .i64 (an:Nat),.int .i64 (bn:Nat),.int .i64 jx,.int .i64 jy]):=Lib.hid (by rw [<- hW5,<- hzj];exact Blk.new wr 90 _);have hgz:g ≠ zj:=by have:=HF4.out.lt;omega
       have HX5:=Lib.hid (HX4.out.trans ha5);have HF5:=Lib.hid (HF4.out.aft ha5);go_upto_region 16 with fail
       try rw [hW5]
       try rw [hzj]
       clear hW5 hzj x0 x1 x2 x3 ha5 HF4 HX4 HT4 hb9 t1 c1 c2;have c1:=HF5.out.cell han;have c2:=HF5.out.cell hbn;have c3:=HF5.out.lt;have c4:W5.cell? ⟨zj,0,none⟩ = some (.int .i64 (an:Nat)):=HB5.out.cell 0;have c5:W5.cell? ⟨zj,1,none⟩ = some (.int .i64 (bn:Nat)):=HB5.out.cell 1;have c6:=HB5.out.lt;have ia:(0:Int) <= (an:Int) /\ (an:Int) < (n:Int):=by omega
       have ib:(0:Int) <= (bn:Int) /\ (bn:Int) < (n:Int):=by omega
       go_quiet (fail);have hlo:(if f bn < f an then ((f bn:Nat):Int) else ((f an:Nat):Int)) = ((min (f an) (f bn):Nat):Int):=by split <;> omega
       rw [hlo];clear hlo;obtain ⟨W6,hW6⟩:∃ W6,W5.drewN nq = W6:=⟨_,rfl⟩;have ha6:Aft W5 W6:=hW6 ▸ Aft.drewN W5 nq;have HX6:=Lib.hid (HX5.out.trans ha6);have HF6:=Lib.hid (HF5.out.aft ha6);have HB6:=Lib.hid (HB5.out.aft ha6);rw [hW6];clear hW6 ha6 HX5 HF5 HB5 c1 c2 c3 c4 c5 c6;obtain ⟨lo,hlo⟩:∃ lo,min (f an) (f bn) = lo:=⟨_,rfl⟩;rw [hlo] at HTJ ⊢;clear hlo;go_upto_region 17 with fail
       have HI1:Hid (Aft w2 W6.drew /\ FI W6.drew g n f /\ Blk W6.drew zj 90 #[.int .i64 (an:Nat),.int .i64 (bn:Nat),.int .i64 jx,.int .i64 jy]):=Lib.hid ⟨HX6.out.trans (Aft.drew _),HF6.out.aft (Aft.drew _),HB6.out.aft (Aft.drew _)⟩;clear HX6 HF6 HB6;have hg:w2.heap.size <= g:=hg;refine wp_region_valsT (by kernel_rfl) 10 66 rfl (by kernel_rfl) (by kernel_rfl) (by kernel_rfl) [.slice (some ⟨g,0,none⟩) n cg,.pointer (some ⟨zj,0,none⟩),.int .i64 (an:Nat),.slice (some ⟨g,0,none⟩) n cg,.pointer (some ⟨zj,1,none⟩),.int .i64 (bn:Nat),.int .i64 (lo:Nat),.int .i64 (lo:Nat),.pointer (some ⟨g,an,none⟩),undef] rfl (fun done W=>Aft w2 W /\ FI W g n (if done 9 = true then (fun i=>if i = an then lo else f i) else f) /\ Blk W zj 90 #[.int .i64 (an:Nat),.int .i64 (bn:Nat),.int .i64 jx,.int .i64 jy]) (HI1.out) ?st1 ?fi1
       case st1 =>
        intro i o v ho hv
        match i,ho,hv with
        | 0,ho,hv =>
         cases ho;cases hv;refine .inl ⟨rfl,fun done a W hd hp hk hw K hK=>?_⟩;have e5:=hk.same 5 (by decide);exact op_val (by simp [go_sem,ev' e5]) (hK _ (by rw [upd_ne' (by decide)];exact hw))
        | 1,ho,hv =>
         cases ho;cases hv;refine .inl ⟨rfl,fun done a W hd hp hk hw K hK=>?_⟩;have e9:=hk.same 9 (by decide);exact op_val (by simp [go_sem,ev' e9]) (hK _ (by rw [upd_ne' (by decide)];exact hw))
        | 2,ho,hv =>
         cases ho;cases hv;refine .inl ⟨rfl,fun done a W hd hp hk hw K hK=>?_⟩;have e56:=hk.at_ 1 _ 56 _ rfl (by decide) _ rfl rfl rfl;exact op_val (by simp [go_sem,ev' e56,hw.2.2.cell 0]) (hK _ (by rw [upd_ne' (by decide)];exact hw))
        | 3,ho,hv =>
         cases ho;cases hv;refine .inl ⟨rfl,fun done a W hd hp hk hw K hK=>?_⟩;have e5:=hk.same 5 (by decide);exact op_val (by simp [go_sem,ev' e5]) (hK _ (by rw [upd_ne' (by decide)];exact hw))
        | 4,ho,hv =>
         cases ho;cases hv;refine .inl ⟨rfl,fun done a W hd hp hk hw K hK=>?_⟩;have e9:=hk.same 9 (by decide);exact op_val (by simp [go_sem,ev' e9]) (hK _ (by rw [upd_ne' (by decide)];exact hw))
        | 5,ho,hv =>
         cases ho;cases hv;refine .inl ⟨rfl,fun done a W hd hp hk hw K hK=>?_⟩;have e59:=hk.at_ 4 _ 59 _ rfl (by decide) _ rfl rfl rfl;exact op_val (by simp [go_sem,ev' e59,hw.2.2.cell 1]) (hK _ (by rw [upd_ne' (by decide)];exact hw))
        | 6,ho,hv =>
         cases ho;cases hv;refine .inl ⟨rfl,fun done a W hd hp hk hw K hK=>?_⟩;have e10:=hk.same 10 (by decide);exact op_val (by simp [go_sem,ev' e10]) (hK _ (by rw [upd_ne' (by decide)];exact hw))
        | 7,ho,hv =>
         cases ho;cases hv;refine .inl ⟨rfl,fun done a W hd hp hk hw K hK=>?_⟩;have e10:=hk.same 10 (by decide);exact op_val (by simp [go_sem,ev' e10]) (hK _ (by rw [upd_ne' (by decide)];exact hw))
        | 8,ho,hv =>
         cases ho;cases hv;refine .inl ⟨rfl,fun done a W hd hp hk hw K hK=>?_⟩;have e55:=hk.at_ 0 _ 55 _ rfl (by decide) _ rfl rfl rfl;have e57:=hk.at_ 2 _ 57 _ rfl (by decide) _ rfl rfl rfl;exact op_val (by simp [go_sem,ev' e55,ev' e57,ia]) (hK _ (by rw [upd_ne' (by decide)];exact hw))
        | 9,ho,hv =>
         cases ho;cases hv;refine .inl ⟨rfl,fun done a W hd hp hk hw K hK=>?_⟩;have e61:=hk.at_ 6 _ 61 _ rfl (by decide) _ rfl rfl rfl;have e63:=hk.at_ 8 _ 63 _ rfl (by decide) _ rfl rfl rfl;have h12:done 9 = false:=hd;rw [h12,if_neg (by decide)] at hw;have c0:=hw.2.1.cell han;have c1:=hw.2.1.frozen an;have c2:=hw.2.1.lt;refine op_skipW (w':=W.setCell ⟨g,an,none⟩ (.int .i64 (lo:Nat))) (by simp [go_sem,ev' e63,ev' e61,c0,c1,c2]) (hK _ ⟨hw.1.then_setCell (p:=⟨g,an,none⟩) hg _,?_,hw.2.2.far (p:=⟨g,an,none⟩) hgz.symm _⟩);rw [show Go.upd done 9 9 = true from rfl,if_pos rfl];exact hw.2.1.set lo
        | _ + 10,_,hv=>cases hv
       intro done W hd hw;simp only [List.drop_succ_cons,List.drop_zero,List.zip_cons_cons,List.zip_nil_right,putAll];simp only [Act.put,List.setIfInBounds_toArray,List.set];rw [hd 9 (by decide),if_pos rfl] at hw;have HFI:=Lib.hid hw.2.1;have HAI:=Lib.hid hw.1;obtain ⟨v0,c0⟩:∃ v,W.cell? ⟨g,bn,none⟩ = some v:=⟨_,hw.2.1.cell hbn⟩;have c1:=hw.2.1.frozen bn;have c2:=hw.2.1.lt;clear hw hd HI1;go_wp2_with fail
       exact ⟨⟨x + 1,_,by go_num,hxl,HAI.out.then_setCell (p:=⟨g,bn,none⟩) hg _,HFI.out.set lo,HTJ⟩,by simp [intOf];omega⟩
      ·have t1:decide (x < S.J.length) = false:=by simpa using hxl
       have ex:x = S.J.length:=by omega
       subst ex;have HNE2:Hid (Sheet.Near (Sheet.legs (joOf false S.J)) n (k + 1) f):=Lib.hid (by rw [<- HN.out] at HNE HT4 ⊢;exact near_done HS.out HNE.out HT4.out);go_wp2_with fail
       exact ⟨⟨k + 1,f,by go_num,by omega,HX4.out,HF4.out,Lib.hid HT4.out.wk,HNE2⟩,by simp [intOf];omega⟩
    ·have t1:decide (k < n) = false:=by simpa using hkn
     have ek:n = k:=by omega
     subst ek;have HT:Hid (Sheet.TiedIs (Sheet.legs (joOf false S.J)) S.n.toNat f0):=Lib.hid (by rw [HN.out];exact Sheet.Near.tied (by have:=(HS.out.ok false).in;rwa [HN.out] at this) hn0 HNE.out HW0.out);go_wp2_with fail
     exact bodyPost_ret (v:=.tuple #[.slice (some ⟨g,0,none⟩) n cg,.int .i64 0]) (by simp [results,Tryz.results48,go_sem]) rfl ⟨g,cg,f0,by rw [HN.out],HGW.out,by rw [HN.out];exact HF3.out,HT.out,HAF.out.trans (HA2.out.trans HX3.out)⟩
end Go.Proofs
end
