/- Own texts, merged: Rfm Rpc Tab Rgx Mgf Agr. -/
import Derived.Test.YtobpdobneocckaaGreatDoorP11
import Derived.Deep.OwnRows
import Derived.Deep.CutRange
import Derived.BigGuard
import Derived.Scope
import Derived.LoopIn
import Derived.LoopNIn
section
/- Walks: the reference's means and ends: what they answer. -/
namespace Go.Proofs
open Go.RowKit
theorem mean_cells {w:World} {a2:Option Addr} {ws:List (List Mean)} (h:RowsP w a2 1 WordR ws) {n r:Nat} (hn:n < ws.length) (hr:r < ws[n].length) :
  ∃ b2 o2 bm om cm Ak ck Ae ce,a2 = some ⟨b2,o2,none⟩ /\ w.cell? ⟨b2,o2 + n,none⟩ = some (.slice (some ⟨bm,om,none⟩) ws[n].length cm) /\ w.cell? ⟨bm,om + r * 2,none⟩ = some (.slice Ak ws[n][r].kinds.length ck) /\ w.cell? ⟨bm,om + r * 2 + 1,none⟩ = some (.slice Ae ws[n][r].ends.length ce) /\ Ints w Ak ws[n][r].kinds /\ Ints w Ae ws[n][r].ends:=by
 obtain ⟨b2,o2,e,hb,hc⟩:=h.at hn;obtain ⟨vs,_,⟨Am,cm,rfl,hms⟩,hv⟩:=hc n hn;obtain ⟨bm,om,rfl,hbm,hcm⟩:=hms.at hr;obtain ⟨vs,_,⟨Ak,ck,Ae,ce,rfl,hik,hie⟩,hv2⟩:=hcm r hr;refine ⟨b2,o2,bm,om,cm,Ak,ck,Ae,ce,e,?_,?_,?_,hik,hie⟩
 ·have:=hv 0 (by simp);simpa using this
 ·have:=hv2 0 (by simp);simpa using this
 ·have:=hv2 1 (by simp);simpa using this
theorem leg_cells {w:World} {a4:Option Addr} {ls:List Leg} (h:RowsP w a4 2 LegR ls) {i:Nat} (hi:i < ls.length) :
  ∃ b4 o4,a4 = some ⟨b4,o4,none⟩ /\ b4 < w.heap.size /\ w.cell? ⟨b4,o4 + i * 2,none⟩ = some (.int .i64 ls[i].word) /\ w.cell? ⟨b4,o4 + i * 2 + 1,none⟩ = some (.int .i64 ls[i].other):=by
 obtain ⟨b4,o4,e,hb,hc⟩:=h.at hi;obtain ⟨vs,_,rfl,hv⟩:=hc i hi;refine ⟨b4,o4,e,hb,?_,?_⟩
 ·have:=hv 0 (by simp);simpa using this
 ·have:=hv 1 (by simp);simpa using this
theorem read_at {w:World} {T:Treaty} {R:List Int} {AR:Option Addr} (hR:Ints w AR R) (hro:ReadOk T R) {z:Int} (h0:0 <= z) (h1:z < T.words.length) :
  ∃ n r bR oR:Nat,∃ h:n < T.words.length,∃ h':r < T.words[n].length,z = n /\ n < R.length /\ AR = some ⟨bR,oR,none⟩ /\ w.cell? ⟨bR,oR + n,none⟩ = some (.int .i64 r) /\ meanAt T R z = T.words[n][r]:=by
 obtain ⟨n,rfl⟩:=Int.eq_ofNat_of_zero_le h0;have hn:n < T.words.length:=by omega
 have hnR:n < R.length:=by rw [hro.1];exact hn
 have h2:=hro.2 n hnR hn;obtain ⟨r,hr⟩:=Int.eq_ofNat_of_zero_le h2.1;have hr':r < T.words[n].length:=by omega
 obtain ⟨bR,oR,e,hb,hc⟩:=hR.at hnR;have hc':=hc n hnR;rw [hr] at hc';exact ⟨n,r,bR,oR,hn,hr',rfl,hnR,e,hc',meanAt_eq hn hnR hr hr'⟩
theorem means_any (w:World) (T:Treaty) (a1 a2 a3 a4:Option Addr) (c1 c2 c3 c4:Nat) (R:List Int) (AR:Option Addr) (cR:Nat) (hT:TRep w T a1 a2 a3 a4) (hR:Ints w AR R) (ok:TOk T) (hro:ReadOk T R) {i:Nat} (hi:i < T.legs.length) (x:Int) :
  Calls Tryz.prog 163 #[.agg #[.int .i64 T.places,.slice a1 T.ways.length c1,.slice a2 T.words.length c2,.slice a3 T.starts.length c3,.slice a4 T.legs.length c4],.slice AR R.length cR,.int .i64 i,.int .i64 x] w fun e w'=>e = .returned (.bool (hasB (kindsAt T R T.legs[i]) x)) /\ Aft w w':=by
 obtain ⟨b4,o4,rfl,hb4,cL0,cL1⟩:=leg_cells hT.legs hi;have hl:=ok.legs _ (List.getElem_mem hi);obtain ⟨n,r,bR,oR,hn,hr,en,hnR,rfl,cR1,em⟩:=read_at hR hro hl.1 hl.2.1;obtain ⟨b2,o2,bm,om,cm,Ak,ck,Ae,ce,rfl,cW,cK1,cE1,hk,he⟩:=mean_cells hT.words hn hr;rw [en] at cL0;unfold kindsAt;rw [em];generalize hk1:T.words[n][r].kinds = k1 at *
 cases h1:hasB k1 x with
 | false =>
  refine (meansA w T.places a1 a3 T.ways.length T.words.length T.starts.length T.legs.length c1 c2 c3 c4 b2 o2 b4 o4 bR oR R.length cR bm om _ cm r n i k1 _ _ x T.legs[i].other hi hn hnR hr cL0 cL1 cW cR1 cK1 hk h1 hb4).mono ?_;rintro e w' ⟨rfl,ha⟩;refine ⟨ret_bool ?_,ha⟩;split
  ·exact h1.symm
  ·rw [has_common,h1];rfl
 | true =>
  rcases hl.2.2 with ho | ho
  ·rw [ho] at cL1;refine (meansB w T.places a1 a3 T.ways.length T.words.length T.starts.length T.legs.length c1 c2 c3 c4 b2 o2 b4 o4 bR oR R.length cR bm om _ cm r n i k1 _ _ x hi hn hnR hr cL0 cL1 cW cR1 cK1 hk h1 hb4).mono ?_;rintro e w' ⟨rfl,ha⟩;refine ⟨ret_bool ?_,ha⟩;rw [if_pos ho];exact h1.symm
  ·obtain ⟨m,r2,bR',oR',hm,hr2,em2,hmR,e2,cR2,emm⟩:=read_at hR hro ho.1 ho.2;cases e2;obtain ⟨b2',o2',bn,on,cn,Ak',ck',Ae',ce',e3,cW2,cK2,cE2,hk',he'⟩:=mean_cells hT.words hm hr2;cases e3;rw [em2] at cL1;rw [if_neg (by omega),has_common,h1,Bool.true_and,emm];generalize hk2:T.words[m][r2].kinds = k2 at *;exact meansC w T.places a1 a3 T.ways.length T.words.length T.starts.length T.legs.length c1 c2 c3 c4 b2 o2 b4 o4 bR oR R.length cR bm om _ cm r n i k1 _ _ x bn on _ cn r2 k2 _ _ m hm hmR hr2 cW2 cR2 cK2 hk' hi hn hnR hr cL0 cL1 cW cR1 cK1 hk h1 hb4
theorem ends_any (w:World) (T:Treaty) (a1 a2 a3 a4:Option Addr) (c1 c2 c3 c4:Nat) (R:List Int) (AR:Option Addr) (cR:Nat) (hT:TRep w T a1 a2 a3 a4) (hR:Ints w AR R) (ok:TOk T) (hro:ReadOk T R) {i:Nat} (hi:i < T.legs.length) (x:Int) :
  Calls Tryz.prog 164 #[.agg #[.int .i64 T.places,.slice a1 T.ways.length c1,.slice a2 T.words.length c2,.slice a3 T.starts.length c3,.slice a4 T.legs.length c4],.slice AR R.length cR,.int .i64 i,.int .i64 x] w fun e w'=>e = .returned (.bool (hasB (endsAt T R T.legs[i]) x)) /\ Aft w w':=by
 obtain ⟨b4,o4,rfl,hb4,cL0,cL1⟩:=leg_cells hT.legs hi;have hl:=ok.legs _ (List.getElem_mem hi);obtain ⟨n,r,bR,oR,hn,hr,en,hnR,rfl,cR1,em⟩:=read_at hR hro hl.1 hl.2.1;obtain ⟨b2,o2,bm,om,cm,Ak,ck,Ae,ce,rfl,cW,cK1,cE1,hk,he⟩:=mean_cells hT.words hn hr;rw [en] at cL0;unfold endsAt;rw [em];generalize hk1:T.words[n][r].ends = k1 at *
 cases h1:hasB k1 x with
 | false =>
  refine (endsA w T.places a1 a3 T.ways.length T.words.length T.starts.length T.legs.length c1 c2 c3 c4 b2 o2 b4 o4 bR oR R.length cR bm om _ cm r n i k1 _ _ x T.legs[i].other hi hn hnR hr cL0 cL1 cW cR1 cE1 he h1 hb4).mono ?_;rintro e w' ⟨rfl,ha⟩;refine ⟨ret_bool ?_,ha⟩;split
  ·exact h1.symm
  ·rw [has_common,h1];rfl
 | true =>
  rcases hl.2.2 with ho | ho
  ·rw [ho] at cL1;refine (endsB w T.places a1 a3 T.ways.length T.words.length T.starts.length T.legs.length c1 c2 c3 c4 b2 o2 b4 o4 bR oR R.length cR bm om _ cm r n i k1 _ _ x hi hn hnR hr cL0 cL1 cW cR1 cE1 he h1 hb4).mono ?_;rintro e w' ⟨rfl,ha⟩;refine ⟨ret_bool ?_,ha⟩;rw [if_pos ho];exact h1.symm
  ·obtain ⟨m,r2,bR',oR',hm,hr2,em2,hmR,e2,cR2,emm⟩:=read_at hR hro ho.1 ho.2;cases e2;obtain ⟨b2',o2',bn,on,cn,Ak',ck',Ae',ce',e3,cW2,cK2,cE2,hk',he'⟩:=mean_cells hT.words hm hr2;cases e3;rw [em2] at cL1;rw [if_neg (by omega),has_common,h1,Bool.true_and,emm];generalize hk2:T.words[m][r2].ends = k2 at *;exact endsC w T.places a1 a3 T.ways.length T.words.length T.starts.length T.legs.length c1 c2 c3 c4 b2 o2 b4 o4 bR oR R.length cR bm om _ cm r n i k1 _ _ x bn on _ cn r2 k2 _ _ m hm hmR hr2 cW2 cR2 cE2 he' hi hn hnR hr cL0 cL1 cW cR1 cE1 he h1 hb4
end Go.Proofs
end
section
/- Plain: where one can go,filled in by threes until nothing changes. -/
namespace Go.Proofs
theorem ReachP.trans {E:Int -> Int -> Bool} {a b c:Int} (h:ReachP E a b) (k:ReachP E b c):ReachP E a c:=by
 induction h with
 | one h=>exact .step h k
 | step h _ ih=>exact .step h (ih k)
def upd2 (g:Nat -> Nat -> Bool) (a c:Nat) (v:Bool):Nat -> Nat -> Bool:=fun a' c'=>if a' = a /\ c' = c then v else g a' c'
structure Clo (E:Int -> Int -> Bool) (P:Nat) (g:Nat -> Nat -> Bool):Prop where
 base:∀ a b:Nat,a < P -> b < P -> E a b = true -> g a b = true
 sound:∀ a b:Nat,a < P -> b < P -> g a b = true -> ReachP E a b
def Shut3 (P:Nat) (g:Nat -> Nat -> Bool):Prop:=∀ a b c:Nat,a < P -> b < P -> c < P -> g a b = true -> g b c = true -> g a c = true
section
variable {E:Int -> Int -> Bool} {P:Nat} {g:Nat -> Nat -> Bool}
theorem Clo.set (h:Clo E P g) {a b c:Nat} (ha:a < P) (hb:b < P) (hc:c < P) (h1:g a b = true) (h2:g b c = true):Clo E P (upd2 g a c true):=by
 refine ⟨fun a' b' ha' hb' he=>?_,fun a' b' ha' hb' he=>?_⟩
 ·unfold upd2;split
  ·rfl
  ·exact h.base a' b' ha' hb' he
 ·unfold upd2 at he;split at he
  ·rename_i e;obtain ⟨rfl,rfl⟩:=e
   exact (h.sound _ _ ha hb h1).trans (h.sound _ _ hb hc h2)
  ·exact h.sound a' b' ha' hb' he
theorem Clo.all (h:Clo E P g) (hE:∀ a b,E a b = true -> 0 <= a /\ a < P /\ 0 <= b /\ b < P) (hs:Shut3 P g) {a b:Nat} (ha:a < P) (hb:b < P):g a b = true ↔ ReachP E a b:=by
 refine ⟨h.sound a b ha hb,fun hr=>?_⟩
 have key:∀ {x y:Int},ReachP E x y -> ∀ a b:Nat,x = a -> y = b -> a < P -> b < P -> g a b = true:=by
  intro x y hr
  induction hr with
  | one he =>
   rintro a b rfl rfl ha hb;exact h.base a b ha hb he
  | @step x m y he _ ih =>
   rintro a b rfl rfl ha hb;obtain ⟨-,-,h3,h4⟩:=hE _ _ he;obtain ⟨n,rfl⟩:=Int.eq_ofNat_of_zero_le h3;exact hs a n b ha (by omega) hb (h.base a n ha (by omega) he) (ih n b rfl rfl (by omega) hb)
 exact key hr a b rfl rfl ha hb
end
def cntF (P:Nat) (g:Nat -> Nat -> Bool):Nat:=(List.range (P * P)).countP fun p=>!g (p / P) (p % P)
theorem countP_le' {p q:Nat -> Bool}:∀ {N:Nat},(∀ i,i < N -> q i = true -> p i = true) -> (List.range N).countP q <= (List.range N).countP p
 | 0,_=>Nat.le_refl _
 | N + 1,h=>by
  rw [List.range_succ,List.countP_append,List.countP_append];have ih:=countP_le' (p:=p) (q:=q) (N:=N) fun i hi=>h i (by omega)
  have h1:=h N (by omega)
  have:[N].countP q <= [N].countP p:=by
   rw [List.countP_singleton,List.countP_singleton]
   cases hq:q N with
   | false=>simp
   | true=>rw [h1 hq];simp
  omega
theorem countP_lt' {p q:Nat -> Bool} {i0:Nat}:∀ {N:Nat},(∀ i,i < N -> q i = true -> p i = true) -> i0 < N -> p i0 = true -> q i0 = false -> (List.range N).countP q < (List.range N).countP p
 | 0,_,h,_,_=>absurd h (Nat.not_lt_zero _)
 | N + 1,h,hi,hp,hq=>by
  rw [List.range_succ,List.countP_append,List.countP_append,List.countP_singleton,List.countP_singleton];by_cases e:i0 = N
  ·subst e;have:=countP_le' (p:=p) (q:=q) (N:=i0) fun i hi=>h i (by omega)
   rw [hp,hq]
   simp
   omega
  ·have ih:=countP_lt' (p:=p) (q:=q) (i0:=i0) (N:=N) (fun i hi=>h i (by omega)) (by omega) hp hq;have h1:=h N (by omega)
   have:(if q N = true then 1 else 0) <= (if p N = true then 1 else 0):=by
    cases hq:q N with
    | false=>simp
    | true=>rw [h1 hq];simp
   omega
theorem cntF_set {P:Nat} {g:Nat -> Nat -> Bool} {a c:Nat} (ha:a < P) (hc:c < P) (h:g a c = false):cntF P (upd2 g a c true) < cntF P g:=by
 unfold cntF;have h1:(a * P + c) / P = a:=by rw [Nat.mul_comm,Nat.mul_add_div (by omega),Nat.div_eq_of_lt hc];omega
 have h2:(a * P + c) % P = c:=by rw [Nat.mul_comm,Nat.mul_add_mod,Nat.mod_eq_of_lt hc]
 have h3:a * P + c < P * P:=by
  have:(a + 1) * P <= P * P:=Nat.mul_le_mul_right _ ha;rw [Nat.add_mul] at this;omega
 refine countP_lt' (i0:=a * P + c) (fun i _ hq=>?_) h3 (by rw [h1,h2,h];rfl) (by rw [h1,h2];unfold upd2;simp);unfold upd2 at hq;split at hq
 ·simp at hq
 ·exact hq
def Upto3 (P:Nat) (g:Nat -> Nat -> Bool) (a b c:Nat):Prop:=∀ a' b' c':Nat,a' < P -> b' < P -> c' < P -> (a' < a \/ a' = a /\ (b' < b \/ b' = b /\ c' < c)) -> g a' b' = true -> g b' c' = true -> g a' c' = true
structure Cl3 (E:Int -> Int -> Bool) (P:Nat) (m:Nat) (ch:Bool) (a b c:Nat) (g:Nat -> Nat -> Bool):Prop where
 clo:Clo E P g
 count:cntF P g + (if ch = true then 1 else 0) <= m
 upto:ch = false -> Upto3 P g a b c
section
variable {E:Int -> Int -> Bool} {P m a b c:Nat} {ch:Bool} {g:Nat -> Nat -> Bool}
theorem Cl3.start (h:Clo E P g):Cl3 E P (cntF P g) false 0 0 0 g:=⟨h,by simp,fun _ a' b' c' _ _ _ h=>by omega⟩
theorem Cl3.next (h:Cl3 E P m ch a b c g) (hn:g a b = false \/ g b c = false \/ g a c = true):Cl3 E P m ch a b (c + 1) g:=⟨h.clo,h.count,fun hc a' b' c' h1 h2 h3 h4 h5 h6=>by
 by_cases e:a' = a /\ b' = b /\ c' = c
 ·obtain ⟨rfl,rfl,rfl⟩:=e;rcases hn with hn | hn | hn
  ·rw [hn] at h5;cases h5
  ·rw [hn] at h6;cases h6
  ·exact hn
 ·exact h.upto hc a' b' c' h1 h2 h3 (by omega) h5 h6⟩
theorem Cl3.set (h:Cl3 E P m ch a b c g) (ha:a < P) (hb:b < P) (hc:c < P) (h1:g a b = true) (h2:g b c = true) (h3:g a c = false):Cl3 E P m true a b (c + 1) (upd2 g a c true) :=
 ⟨h.clo.set ha hb hc h1 h2,by have:=cntF_set ha hc h3;have:=h.count;rw [if_pos rfl];omega,fun hx=>by cases hx⟩
theorem Cl3.row (h:Cl3 E P m ch a b P g):Cl3 E P m ch a (b + 1) 0 g:=⟨h.clo,h.count,fun hc a' b' c' h1 h2 h3 h4 h5 h6=>h.upto hc a' b' c' h1 h2 h3 (by omega) h5 h6⟩
theorem Cl3.page (h:Cl3 E P m ch a P 0 g):Cl3 E P m ch (a + 1) 0 0 g:=⟨h.clo,h.count,fun hc a' b' c' h1 h2 h3 h4 h5 h6=>h.upto hc a' b' c' h1 h2 h3 (by omega) h5 h6⟩
theorem Cl3.shut (h:Cl3 E P m false P 0 0 g):Shut3 P g:=fun a' b' c' h1 h2 h3 h5 h6=>h.upto rfl a' b' c' h1 h2 h3 (by omega) h5 h6
end
end Go.Proofs
end
section
/- Words for memory: tables of bools of the call's own. -/
namespace Go.Proofs
open Go.RowKit
theorem ty137:SliceTy Tryz.prog 49 50 1 24:=.mk' (z:=.slice none 0 0) Tryz.underlying49 (by kernel_rfl) rfl (by decide)
theorem ty135:SliceTy Tryz.prog 159 49 1 24:=.mk' (z:=.slice none 0 0) Tryz.underlying159 (by kernel_rfl) rfl (by decide)
theorem blk_type {W:World} {b:Nat} {t t':TypeId} {cs cs':Array Value} (h:Blk W b t cs) (h':Blk W b t' cs'):t = t':=by
 unfold Blk at h h';rw [h] at h';cases h';rfl
def BRow (W:World) (b P:Nat) (g:Nat -> Bool):Prop:=∃ cs,Blk W b 4 cs /\ cs.size = P /\ ∀ c,c < P -> cs[c]? = some (.bool (g c))
section
variable {W W':World} {b P:Nat} {g:Nat -> Bool}
theorem BRow.aft (h:BRow W b P g) (ha:Aft W W'):BRow W' b P g:=let ⟨cs,h1,h2,h3⟩:=h;⟨cs,h1.aft ha,h2,h3⟩
theorem BRow.lt (h:BRow W b P g):b < W.heap.size:=let ⟨_,h1,_,_⟩:=h;h1.lt
theorem BRow.grown (h:BRow W b P g) {row:Option Nat} (hg:W.grownBy W' row) (hne:some b ≠ row):BRow W' b P g:=let ⟨cs,h1,h2,h3⟩:=h;⟨cs,h1.grown hg hne,h2,h3⟩
theorem BRow.cell (h:BRow W b P g) {c:Nat} (hc:c < P):W.cell? ⟨b,c,none⟩ = some (.bool (g c)):=let ⟨_,h1,_,h3⟩:=h;(h1.cell c).trans (h3 c hc)
theorem BRow.frozen (h:BRow W b P g) (c:Nat):W.frozen? ⟨b,c,none⟩ = false:=let ⟨_,h1,_,_⟩:=h;h1.frozen c
theorem BRow.set (h:BRow W b P g) {c:Nat} (hc:c < P) (x:Bool):BRow (W.setCell ⟨b,c,none⟩ (.bool x)) b P (fun c'=>if c' = c then x else g c'):=by
 obtain ⟨cs,h1,h2,h3⟩:=h;refine ⟨_,h1.store c _,by simpa using h2,fun c' hc'=>?_⟩;rw [Array.getElem?_setIfInBounds];by_cases e:c = c'
 ·subst e;rw [if_pos rfl,if_pos (by omega)];simp
 ·rw [if_neg e,h3 c' hc'];simp [Ne.symm e]
theorem BRow.congr (h:BRow W b P g) {g':Nat -> Bool} (he:∀ c,c < P -> g c = g' c):BRow W b P g':=let ⟨cs,h1,h2,h3⟩:=h;⟨cs,h1,h2,fun c hc=>by rw [h3 c hc,he c hc]⟩
end
theorem BRow.made (w:World) (P:Nat):BRow (w.alloc (.cells (madeCells #[.bool false] P) 4)) w.heap.size P (fun _=>false) :=
 ⟨_,Blk.new _ _ _,size_madeCells _ _,fun c hc=>by rw [<- Array.getElem?_toList,toList_madeCells_one,List.getElem?_replicate,if_pos hc]⟩
theorem info4:(Tryz.prog.info? 4).map (fun i=>(i.zero,i.size,i.bytes)) = some (some (.bool false),1,1):=by kernel_rfl
theorem wpList_make_bools {w:World} {ops:Array Oper} {rest:List Oper} {o:Oper} {a:Act} {Q:Exit -> Act -> World -> Prop} (hgd:o.guard = none) (l c:Operand) (ho:o.op = .makeSlice 50 l c) {P:Nat} (hl:a.eval l = .int .i64 P) (hc:a.eval c = .int .i64 P) (hP:P <= 100)
  (hn:wpList Tryz.prog ops Q rest (a.put o.dst (.slice (some ⟨w.heap.size,0,none⟩) P P)) (w.alloc (.cells (madeCells #[.bool false] P) 4))):wpList Tryz.prog ops Q (o :: rest) a w:=by
 obtain ⟨i,hi,hz0,hz1,hz2⟩:=info_parts info4;exact wpList_make_row w hgd l c 50 ho 4 i (.bool false) Tryz.underlying50 hi hz0 hz1 rfl .i64 .i64 P hl hc (by rw [hz2];omega) (by omega) hn
structure BTab (W:World) (base:Nat) (v:Value) (B:Nat -> Nat) (n P:Nat) (g:Nat -> Nat -> Bool):Prop where
 own:W.ownsRow base 50 1 v n ((List.range n).map fun i=>Value.slice (some ⟨B i,0,none⟩) P P)
 row:∀ i,i < n -> BRow W (B i) P (g i)
 far:∀ i,i < n -> base <= B i
 inj:∀ i j,i < n -> j < n -> B i = B j -> i = j
section
variable {W W':World} {base:Nat} {v:Value} {B:Nat -> Nat} {n P:Nat} {g:Nat -> Nat -> Bool}
theorem BTab.nil (W:World) (base:Nat) (B:Nat -> Nat) (P:Nat) (g:Nat -> Nat -> Bool):BTab W base (.slice none 0 0) B 0 P g :=
 ⟨World.ownsRow_nil _ _ 50 1,fun i h=>absurd h (Nat.not_lt_zero _),fun i h=>absurd h (Nat.not_lt_zero _),fun i j h=>absurd h (Nat.not_lt_zero _)⟩
theorem BTab.aft (h:BTab W base v B n P g) (ha:Aft W W'):BTab W' base v B n P g:=⟨own_aft h.own ha,fun i hi=>(h.row i hi).aft ha,h.far,h.inj⟩
theorem BTab.congr (h:BTab W base v B n P g) {g':Nat -> Nat -> Bool} (he:∀ a c,a < n -> c < P -> g a c = g' a c):BTab W base v B n P g':=⟨h.own,fun i hi=>(h.row i hi).congr fun c hc=>he i c hi hc,h.far,h.inj⟩
theorem BTab.apart (h:BTab W base v B n P g) {i:Nat} (hi:i < n):v.ownBlock ≠ some (B i):=fun e=>by
 obtain ⟨cs,h1⟩:=own_block h.own e;obtain ⟨cs',h2,-⟩:=h.row i hi;have:=blk_type h2 h1;exact absurd this (by decide)
theorem BTab.slot (h:BTab W base v B n P g) {i:Nat} (hi:i < n):∃ bv c,v = .slice (some ⟨bv,0,none⟩) n c /\ n <= c /\ base <= bv /\ ∀ i,i < n -> W.cell? ⟨bv,i,none⟩ = some (.slice (some ⟨B i,0,none⟩) P P):=by
 rcases h.own.2 with ⟨rfl,h0⟩ | ⟨gg,cap,cur,rfl,hg,hh,hc,hm,hs,ht⟩
 ·omega
 ·refine ⟨gg,cap,rfl,hc,hg,fun i hi=>?_⟩;have:=h.own.cells (g:=gg) rfl i (Value.slice (some ⟨B i,0,none⟩) P P) (by rw [List.getElem?_map,List.getElem?_range hi];rfl);rw [Addr.add_lit] at this;simpa using this
theorem BTab.set (h:BTab W base v B n P g) {a c:Nat} (ha:a < n) (hc:c < P) (x:Bool):BTab (W.setCell ⟨B a,c,none⟩ (.bool x)) base v B n P (upd2 g a c x):=by
 refine ⟨own_kept3 h.own (only_setCell (p:=⟨B a,c,none⟩) (only_refl W (some (B a))) (.inl rfl) _) (fun k e=>by cases e;exact h.apart ha),fun i hi=>?_,h.far,h.inj⟩;by_cases e:i = a
 ·subst e;refine ((h.row i hi).set hc x).congr fun c' _=>?_
  unfold upd2;by_cases e:c' = c
  ·rw [if_pos e,if_pos ⟨rfl,e⟩]
  ·rw [if_neg e,if_neg fun h=>e h.2]
 ·obtain ⟨cs,h1,h2,h3⟩:=h.row i hi;refine ⟨cs,h1.far (fun e2=>e (h.inj i a hi ha e2)) _,h2,fun c' hc'=>?_⟩;rw [h3 c' hc'];unfold upd2;rw [if_neg fun h=>e h.1]
def putB (B:Nat -> Nat) (n b:Nat):Nat -> Nat:=fun i=>if i = n then b else B i
def addF (g:Nat -> Nat -> Bool) (n:Nat):Nat -> Nat -> Bool:=fun i c=>if i = n then false else g i c
theorem BTab.push (h:BTab W base v B n P g) {W2 W3:World} (ha:Aft W W2) {b:Nat} (hb:W.heap.size <= b) (hr:BRow W2 b P fun _=>false) (hbase:base <= W.heap.size) {v':Value}
  (hown:W3.ownsRow base 50 1 v' (n + 1) (((List.range n).map fun i=>Value.slice (some ⟨B i,0,none⟩) P P) ++ [.slice (some ⟨b,0,none⟩) P P])) (hg:W2.grownBy W3 v.ownBlock):BTab W3 base v' (putB B n b) (n + 1) P (addF g n):=by
 have hBlt:∀ i,i < n -> B i < W.heap.size:=fun i hi=>(h.row i hi).lt
 have hBne:∀ i,i < n -> B i ≠ b:=fun i hi e=>by have:=hBlt i hi;omega
 refine ⟨?_,fun i hi=>?_,fun i hi=>?_,fun i j hi hj e=>?_⟩
 ·rw [List.range_succ,List.map_append]
  have e:((List.range n).map fun i=>Value.slice (some ⟨putB B n b i,0,none⟩) P P) = (List.range n).map fun i=>Value.slice (some ⟨B i,0,none⟩) P P:=List.map_congr_left fun i hi=>by
   have:=List.mem_range.1 hi;unfold putB;rw [if_neg (by omega)]
  rw [e];simpa [putB] using hown
 ·by_cases e:i = n
  ·subst e;have e1:putB B i b i = b:=by unfold putB;rw [if_pos rfl]
   rw [e1];refine (hr.grown hg fun e2=>?_).congr fun c _=>by unfold addF;rw [if_pos rfl]
   have:=(h.own.lt b e2.symm).2;omega
  ·have hin:i < n:=by omega
   have e1:putB B n b i = B i:=by unfold putB;rw [if_neg e]
   rw [e1];refine ((h.aft ha).row i hin |>.grown hg fun e2=>h.apart hin e2.symm).congr fun c _=>by unfold addF;rw [if_neg e]
 ·unfold putB;split
  ·omega
  ·exact h.far i (by omega)
 ·unfold putB at e;split at e <;> split at e
  ·omega
  ·exact absurd e.symm (hBne j (by omega))
  ·exact absurd e (hBne i (by omega))
  ·exact h.inj i j (by omega) (by omega) e
end
def TabAt (W:World) (t:Value) (P:Nat) (g:Nat -> Nat -> Bool):Prop :=
 ∃ bt ct cs,t = .slice (some ⟨bt,0,none⟩) P ct /\ Blk W bt 50 cs /\ ∀ a,a < P -> ∃ b cs2,cs[a]? = some (.slice (some ⟨b,0,none⟩) P P) /\ Blk W b 4 cs2 /\ ∀ c,c < P -> cs2[c]? = some (.bool (g a c))
section
variable {W W':World} {t:Value} {P:Nat} {g:Nat -> Nat -> Bool}
theorem TabAt.aft (h:TabAt W t P g) (ha:Aft W W'):TabAt W' t P g:=by
 obtain ⟨bt,ct,cs,e,h1,h2⟩:=h;refine ⟨bt,ct,cs,e,h1.aft ha,fun a hp=>?_⟩;obtain ⟨b,cs2,h3,h4,h5⟩:=h2 a hp;exact ⟨b,cs2,h3,h4.aft ha,h5⟩
theorem TabAt.grown (h:TabAt W t P g) {row:Option Nat} (hg:W.grownBy W' row) (hr:∀ k,row = some k -> ∃ ty cs,Blk W k ty cs /\ ty ≠ 50 /\ ty ≠ 4):TabAt W' t P g:=by
 obtain ⟨bt,ct,cs,e,h1,h2⟩:=h;refine ⟨bt,ct,cs,e,h1.grown hg fun e=>?_,fun a hp=>?_⟩
 ·obtain ⟨ty,cs',h3,h4,h5⟩:=hr _ e.symm;exact h4 (blk_type h3 h1)
 ·obtain ⟨b,cs2,h3,h4,h5⟩:=h2 a hp;refine ⟨b,cs2,h3,h4.grown hg fun e=>?_,h5⟩;obtain ⟨ty,cs',h6,h7,h8⟩:=hr _ e.symm;exact h8 (blk_type h6 h4)
theorem TabAt.congr (h:TabAt W t P g) {g':Nat -> Nat -> Bool} (he:∀ a c,a < P -> c < P -> g a c = g' a c):TabAt W t P g':=by
 obtain ⟨bt,ct,cs,e,h1,h2⟩:=h;refine ⟨bt,ct,cs,e,h1,fun a hp=>?_⟩;obtain ⟨b,cs2,h3,h4,h5⟩:=h2 a hp;exact ⟨b,cs2,h3,h4,fun c hc=>by rw [h5 c hc,he a c hp hc]⟩
theorem TabAt.cells (h:TabAt W t P g):∃ bt ct,t = .slice (some ⟨bt,0,none⟩) P ct /\ ∀ a,a < P -> ∃ b,W.cell? ⟨bt,a,none⟩ = some (.slice (some ⟨b,0,none⟩) P P) /\ ∀ c,c < P -> W.cell? ⟨b,c,none⟩ = some (.bool (g a c)):=by
 obtain ⟨bt,ct,cs,e,h1,h2⟩:=h;refine ⟨bt,ct,e,fun a hp=>?_⟩;obtain ⟨b,cs2,h3,h4,h5⟩:=h2 a hp;exact ⟨b,(h1.cell a).trans h3,fun c hc=>(h4.cell c).trans (h5 c hc)⟩
theorem BTab.tab {base:Nat} {B:Nat -> Nat} (h:BTab W base t B P P g) (hP:0 < P):TabAt W t P g:=by
 obtain ⟨bv,c,e,-,-,hcell⟩:=h.slot hP;obtain ⟨cs,hb⟩:=own_block h.own (g:=bv) (by rw [e];rfl);have hb':Blk W bv 50 cs:=hb;refine ⟨bv,c,cs,e,hb',fun a ha=>?_⟩;obtain ⟨cs2,h1,h2,h3⟩:=h.row a ha;exact ⟨B a,cs2,by rw [<- hb'.cell a];exact hcell a ha,h1,h3⟩
end
structure LTab (W:World) (base:Nat) (v:Value) (n P:Nat) (f:Nat -> Nat -> Nat -> Bool):Prop where
 ex:∃ vs:List Value,W.ownsRow base 49 1 v n vs /\ ∀ i,(h:i < vs.length) -> TabAt W vs[i] P (f i)
section
variable {W W':World} {base:Nat} {v:Value} {n P:Nat} {f:Nat -> Nat -> Nat -> Bool}
theorem LTab.nil (W:World) (base:Nat) (P:Nat) (f:Nat -> Nat -> Nat -> Bool):LTab W base (.slice none 0 0) 0 P f:=⟨[],World.ownsRow_nil _ _ 49 1,fun i h=>absurd h (Nat.not_lt_zero _)⟩
theorem LTab.aft (h:LTab W base v n P f) (ha:Aft W W'):LTab W' base v n P f:=let ⟨vs,h1,h2⟩:=h.ex;⟨vs,own_aft h1 ha,fun i hi=>(h2 i hi).aft ha⟩
theorem LTab.cells (h:LTab W base v n P f) {i:Nat} (hi:i < n):∃ bv cv bt ct,v = .slice (some ⟨bv,0,none⟩) n cv /\ W.cell? ⟨bv,i,none⟩ = some (.slice (some ⟨bt,0,none⟩) P ct) /\ ∀ a,a < P -> ∃ b,W.cell? ⟨bt,a,none⟩ = some (.slice (some ⟨b,0,none⟩) P P) /\ ∀ c,c < P -> W.cell? ⟨b,c,none⟩ = some (.bool (f i a c)):=by
 obtain ⟨vs,h1,h2⟩:=h.ex;have hl:vs.length = n:=by simpa using h1.1
 obtain ⟨bt,ct,e,h3⟩:=(h2 i (by omega)).cells;rcases h1.2 with ⟨rfl,h0⟩ | ⟨gg,cap,cur,rfl,hg,hh,hc,hm,hs,ht⟩
 ·omega
 ·refine ⟨gg,cap,bt,ct,rfl,?_,h3⟩;have:=h1.cells (g:=gg) rfl i vs[i] (by simp [hl,hi]);rw [Addr.add_lit] at this;rw [<- e];simpa using this
theorem LTab.push (h:LTab W base v n P f) {W2 W3:World} (ha:Aft W W2) {t:Value} (ht:TabAt W2 t P (f n)) {v':Value} {vs:List Value} (hvs:W.ownsRow base 49 1 v n vs) (hts:∀ i,(h:i < vs.length) -> TabAt W vs[i] P (f i))
  (hown:W3.ownsRow base 49 1 v' (n + 1) (vs ++ [t])) (hg:W2.grownBy W3 v.ownBlock):LTab W3 base v' (n + 1) P f:=by
 have hl:vs.length = n:=by simpa using hvs.1
 have hr:∀ k,v.ownBlock = some k -> ∃ ty cs,Blk W2 k ty cs /\ ty ≠ 50 /\ ty ≠ 4:=fun k e=>by
  obtain ⟨cs,hb⟩:=own_block (own_aft hvs ha) e;exact ⟨49,cs,hb,by decide,by decide⟩
 refine ⟨vs ++ [t],hown,fun i hi=>?_⟩;by_cases e:i < vs.length
 ·rw [List.getElem_append_left e];exact ((hts i e).aft ha).grown hg hr
 ·have e2:i = vs.length:=by simp at hi;omega
  subst e2;rw [List.getElem_append_right (Nat.le_refl _)];simp only [Nat.sub_self,List.getElem_cons_zero];rw [hl];exact ht.grown hg hr
end
end Go.Proofs
end
section
/- A region that draws its order,whose operations may bear guards and yield known values,and whose last one,which yields nothing,waits for all others. -/
namespace Go
def lastB (pre:List Oper) (last:Oper):Bool:=last.dst.isNone && last.guard.isNone && (List.range pre.length).all fun i=>(Region.preds last).contains i
theorem zip_take_left {α β:Type}:∀ (xs:List α) (ys:List β) (m:Nat),ys.length <= m -> (xs.take m).zip ys = xs.zip ys
 | [],_,m,_=>by simp
 | _ :: _,[],m,_=>by simp
 | x :: xs,y :: ys,0,h=>by simp at h
 | x :: xs,y :: ys,m + 1,h=>by
  rw [List.take_succ_cons,List.zip_cons_cons,List.zip_cons_cons,zip_take_left xs ys m (by simpa using h)]
section
variable {P:Program} {Q:Exit -> Act -> World -> Prop} {a0:Act}
theorem wp_region_valsL {id:Nat} {xs:List Oper} {w:World} (hm:P.follows .mixedOrders = true) (pre:List Oper) (last:Oper) (hxs:xs = pre ++ [last]) (n:Nat) (hn:a0.tmps.size = n) (hB:factsGB xs n = true) (hG:guardsB xs = true) (hL:lastB pre last = true)
  (vals:List Value) (hl:pre.length = vals.length) (Wd:World -> Prop) (h0:Wd w.drew)
  (step:∀ (i:Nat) (o:Oper) (v:Value),pre[i]? = some o -> vals[i]? = some v -> wantedV vals o = true /\ (∀ (a:Act) (w:World),Knows xs vals a0 i a -> Wd w -> ∀ K:Act -> World -> Prop,(∀ w',Wd w' -> K (a.put o.dst v) w') -> Oper.wp P o a w K Q) \/ wantedV vals o = false /\ v = undef)
  (fin:∀ w,Wd w -> ∀ K:Act -> World -> Prop,(∀ v w',Q .normal (putAll a0 (pre.zip vals)) w' -> K ((putAll a0 (pre.zip vals)).put none v) w') -> Oper.wp P last (putAll a0 (pre.zip vals)) w K Q):(Code.region id xs.toArray true).wp P Q a0 w:=by
 subst hxs;have hB':=hB;unfold factsGB at hB';rw [Bool.and_eq_true,Bool.and_eq_true] at hB';obtain ⟨⟨h2,h3⟩,h4⟩:=hB';unfold lastB at hL;rw [Bool.and_eq_true,Bool.and_eq_true] at hL;obtain ⟨⟨hL1,hL2⟩,hL3⟩:=hL;have hLd:last.dst = none:=by simpa using hL1
 have hLg:last.guard = none:=by simpa using hL2
 have hall:∀ i,i < pre.length -> i ∈ Region.preds last:=fun i hi=>by
  have:=List.all_eq_true.1 hL3 i (List.mem_range.2 hi);simpa using this
 have hlast:(pre ++ [last])[pre.length]? = some last:=by simp
 have hin:∀ o ∈ pre ++ [last],∀ s,o.dst = some s -> s < a0.tmps.size:=fun o ho s hs=>by
  have:=List.all_eq_true.1 h3 o ho;rw [hs] at this;rw [hn];simpa using this
 have hput:∀ (a:Act) (v:Value),a.put none v = a:=fun a v=>rfl
 have hfull:∀ {Fact:(Nat -> Bool) -> Nat -> Value -> World -> Prop} {Wd':(Nat -> Bool) -> Act -> World -> Prop} {done:Nat -> Bool} {a:Act} {w:World},(∀ done i v w,i < pre.length -> Fact done i v w -> vals[i]? = some v) -> HeldG (pre ++ [last]).toArray Fact Wd' a0 done a w -> (∀ i,i < pre.length -> done i = true) -> a = putAll a0 (pre.zip vals):=by
  intro Fact Wd' done a w hF hH hd
  have hH':Held pre.toArray (fun i v _=>vals[i]? = some v) (fun _ _=>True) a0 done a w:=by
   refine ⟨trivial,hH.size,hH.defers,fun i o ho hdi j hj=>?_,fun s hs=>?_,fun i o s ho hs hdi=>?_⟩
   ·have ho':pre[i]? = some o:=by simpa using ho
    have hi:=(List.getElem?_eq_some_iff.1 ho').1;exact hH.closed i o (by simp [List.getElem?_append_left hi,ho']) hdi j hj
   ·refine hH.old s fun i o ho he=>?_
    have ho':(pre ++ [last])[i]? = some o:=by simpa using ho
    by_cases hi:i < pre.length
    ·rw [List.getElem?_append_left hi] at ho';exact hs i o (by simpa using ho') he
    ·have hlt:=(List.getElem?_eq_some_iff.1 ho').1;have e:i = pre.length:=by simp at hlt;omega
     subst e;rw [hlast] at ho';cases ho';rw [hLd] at he;cases he
   ·have ho':pre[i]? = some o:=by simpa using ho
    have hi:=(List.getElem?_eq_some_iff.1 ho').1;exact hF _ _ _ _ hi (hH.fact i o s (by simp [List.getElem?_append_left hi,ho']) hs hdi)
  have hnd:(pre.filterMap (·.dst)).Nodup:=by
   have:=of_decide_eq_true h2;rw [List.filterMap_append] at this;exact (List.nodup_append.1 this).1
  exact held_putAll hl hnd (fun o ho=>hin o (by simp [ho])) hd hH'
 refine wp_region_factsG hm n hn hB (fun _ i v _=>i < pre.length -> vals[i]? = some v) (fun done a w=>(done pre.length = false /\ Wd w) \/ (done pre.length = true /\ Q .normal a w)) (.inl ⟨rfl,h0⟩) (fun i o ho done a w hH hd hp K hK=>?_) (fun done a w hd hH=>?_)
 ·by_cases hi:i < pre.length
  ·have hnL:done pre.length = false:=by
    cases hdl:done pre.length with
    | false=>rfl
    | true =>
     have:=hH.closed pre.length last (by simp) hdl i (hall i hi);rw [hd] at this;cases this
   have hW:Wd w:=hH.wd.elim (fun h=>h.2) fun h=>by rw [hnL] at h;cases h.1
   have ho':pre[i]? = some o:=by rw [<- ho,List.getElem?_append_left hi]
   have hv:vals[i]? = some vals[i]:=List.getElem?_eq_getElem (by omega)
   have hk:Knows (pre ++ [last]) vals a0 i a:=⟨fun j o' s v hx hj oj hoj hs hvj=>by
    rw [ho] at hx;cases hx
    have hjl:j < pre.length:=by
     have:=(List.getElem?_eq_some_iff.1 hvj).1;omega
    have:=hH.fact j oj s (by simpa using hoj) hs (hp j hj) hjl;rw [hvj] at this;exact (Option.some.inj this).symm,fun s hs=>hH.same (by simpa using hs)⟩
   have hHV:HeldG (pre ++ [last]).toArray (fun _ i v _=>vals[i]? = some v) (fun _ _ _=>True) a0 (fun j=>done j && decide (j < pre.length)) a w:=by
    refine ⟨trivial,hH.size,hH.defers,fun i o ho hdi j hj=>?_,fun s hs=>?_,fun i o s ho hs hdi=>?_⟩
    ·rw [Bool.and_eq_true] at hdi;have h1:=hH.closed i o ho hdi.1 j hj
     have hlt:j < i:=by
      have ho':(pre ++ [last])[i]? = some o:=by simpa using ho
      have:=List.all_eq_true.1 h4 i (List.mem_range.2 (List.getElem?_eq_some_iff.1 ho').1);rw [ho'] at this;have:=List.all_eq_true.1 this j hj;simpa using this
     have h2:=of_decide_eq_true hdi.2;rw [Bool.and_eq_true];exact ⟨h1,decide_eq_true (by omega)⟩
    ·refine hH.old s fun i o ho he=>?_
     have:=hs i o ho he;by_cases hi:i < pre.length
     ·simpa [hi] using this
     ·have ho':(pre ++ [last])[i]? = some o:=by simpa using ho
      have hlt:=(List.getElem?_eq_some_iff.1 ho').1;have e:i = pre.length:=by simp at hlt;omega
      subst e;exact hnL
    ·rw [Bool.and_eq_true] at hdi;exact hH.fact i o s ho hs hdi.1 (of_decide_eq_true hdi.2)
   have hlow:∀ j ∈ Region.preds o,(done j && decide (j < pre.length)) = true:=fun j hj=>by
    have hlt:j < i:=by
     have:=List.all_eq_true.1 h4 i (List.mem_range.2 (List.getElem?_eq_some_iff.1 ho).1);rw [ho] at this;have:=List.all_eq_true.1 this j hj;simpa using this
    rw [hp j hj,Bool.true_and];exact decide_eq_true (by omega)
   rw [wanted_eq hin hHV (List.mem_of_getElem? ho) hlow hG];have hup:Go.upd done i pre.length = false:=by unfold Go.upd;rw [if_neg (by omega)];exact hnL
   rcases step i o _ ho' hv with ⟨hw,hs⟩ | ⟨hw,hs⟩
   ·rw [if_pos hw];exact hs a w hk hW K fun w' hw'=>hK _ w' (fun _=>hv) (.inl ⟨hup,hw'⟩) fun _ _ _ _ _ _ h=>h
   ·rw [if_neg (by rw [hw];decide)];rw [hs] at hv;exact hK _ w (fun _=>hv) (.inl ⟨hup,hW⟩) fun _ _ _ _ _ _ h=>h
  ·have hlt:=(List.getElem?_eq_some_iff.1 ho).1;have e:i = pre.length:=by simp at hlt;omega
   subst e;rw [hlast] at ho;cases ho;have hW:Wd w:=hH.wd.elim (fun h=>h.2) fun h=>by rw [hd] at h;cases h.1
   have ea:=hfull (fun _ _ _ _ h hf=>hf h) hH fun i hi=>hp i (hall i hi)
   have hw:Region.wanted last (yielded (pre ++ [last]).toArray a.tmps) = true:=by unfold Region.wanted;rw [hLg]
   rw [if_pos hw];rw [ea];refine fin w hW K fun v w' hq=>?_
   rw [<- ea,<- hLd];refine hK v w' (fun h=>absurd h (Nat.lt_irrefl _)) (.inr ⟨by unfold Go.upd;rw [if_pos rfl],?_⟩) fun _ _ _ _ _ _ h=>h
   rw [hLd,hput,ea];exact hq
 ·have hdl:=hd pre.length (by simp);exact hH.wd.elim (fun h=>by rw [hdl] at h;cases h.1) fun h=>h.2
theorem wp_region_valsW {id:Nat} {xs:List Oper} {w:World} (hm:P.follows .mixedOrders = true) (m:Nat) (n:Nat) (hn:a0.tmps.size = n) (hB:factsGB xs n = true) (hG:guardsB xs = true) (last:Oper) (hlast:xs[m]? = some last) (hlen:xs.length = m + 1) (hL:lastB (xs.take m) last = true)
  (vals:List Value) (hl:vals.length = m) (Wd:World -> Prop) (h0:Wd w.drew)
  (step:∀ (i:Nat) (o:Oper) (v:Value),xs[i]? = some o -> vals[i]? = some v -> wantedV vals o = true /\ (∀ (a:Act) (w:World),Knows xs vals a0 i a -> Wd w -> ∀ K:Act -> World -> Prop,(∀ w',Wd w' -> K (a.put o.dst v) w') -> Oper.wp P o a w K Q) \/ wantedV vals o = false /\ v = undef)
  (fin:∀ w,Wd w -> ∀ K:Act -> World -> Prop,(∀ v w',Q .normal (putAll a0 (xs.zip vals)) w' -> K ((putAll a0 (xs.zip vals)).put none v) w') -> Oper.wp P last (putAll a0 (xs.zip vals)) w K Q):(Code.region id xs.toArray true).wp P Q a0 w:=by
 have hxs:xs = xs.take m ++ [last]:=by
  have h1:=List.getElem?_eq_some_iff.1 hlast;have h2:=List.take_succ_eq_append_getElem h1.1;rw [h1.2,List.take_of_length_le (by omega)] at h2;exact h2
 have hz:(xs.take m).zip vals = xs.zip vals:=zip_take_left xs vals m (by omega);have hpl:(xs.take m).length = m:=by rw [List.length_take];omega
 refine wp_region_valsL hm (xs.take m) last hxs n hn hB hG hL vals (by omega) Wd h0 (fun i o v ho hv=>?_) (by rw [hz];exact fin);have hi:i < m:=by have:=(List.getElem?_eq_some_iff.1 ho).1;omega
 exact step i o v (by rw [List.getElem?_take_of_lt hi] at ho;exact ho) hv
end
end Go
end
section
/- Walks: Made. -/
namespace Go.Proofs
open Go.RowKit
theorem wpList_app1 {ops:Array Oper} {rest:List Oper} {o:Oper} {a:Act} {w:World} {Q:Exit -> Act -> World -> Prop} {t e:TypeId} {size bytes:Nat} (hT:SliceTy Tryz.prog t e size bytes) (hgd:o.guard = none) (s x:Operand) (ho:o.op = .call { callee:=.builtin .append,args:=#[s,x],argTypes:=#[t,t] })
  {base n:Nat} {v:Value} {xs:List Value} (hbase:base <= w.heap.size) (hs:a.eval s = v) (hown:w.ownsRow base e size v n xs) {b c:Nat} {t':TypeId} {news:List Value} (hx:a.eval x = .slice (some ⟨b,0,none⟩) 1 c) (hb:Blk w b t' news.toArray) (hl:news.length = size)
  (h1:∀ u ∈ news,u.oneCell' = true) (hlen:n <= 1000000) (hbytes:bytes <= 1000)
  (hn:∀ v' w',w'.ownsRow base e size v' (n + 1) (xs ++ news) -> w.grownBy w' v.ownBlock -> (v'.ownBlock = v.ownBlock \/ v'.ownBlock = some w.heap.size) -> wpList Tryz.prog ops Q rest (a.put o.dst v') w'):wpList Tryz.prog ops Q (o :: rest) a w :=
 wpList_plain hgd fun _ hK=>op_app hT s x ho hbase hs hown hx hb hl h1 hlen hbytes fun v' w' g1 g2 g3=>hK _ _ (hn v' w' g1 g2 g3)
theorem ty23:SliceTy Tryz.prog 23 68 1 24:=.mk' (z:=.slice none 0 0) Tryz.underlying23 (by kernel_rfl) rfl (by decide)
end Go.Proofs
end
section
/- Walks: Agrees,of a line that may agree. -/
namespace Go.Proofs
open Go.RowKit
attribute [local go_sem] Oper.semAt_some
def keepsTo (f:Nat -> Nat -> Nat -> Bool) (l:List Int) (k:Nat):Bool:=(List.range k).all fun i=>f i (l.getD i 0).toNat (l.getD (i + 1) 0).toNat
theorem keepsTo_succ (f:Nat -> Nat -> Nat -> Bool) (l:List Int) (k:Nat):keepsTo f l (k + 1) = (keepsTo f l k && f k (l.getD k 0).toNat (l.getD (k + 1) 0).toNat):=by
 unfold keepsTo;rw [List.range_succ,List.all_append];simp
theorem keepsTo_le {f:Nat -> Nat -> Nat -> Bool} {l:List Int} {k m:Nat} (h:k <= m) (hk:keepsTo f l k = false):keepsTo f l m = false:=by
 unfold keepsTo at hk ⊢;rw [List.all_eq_false] at hk ⊢;obtain ⟨x,h1,h2⟩:=hk;exact ⟨x,List.mem_range.2 (by have:=List.mem_range.1 h1;omega),h2⟩
noncomputable def keepsR (T:Treaty) (l:List Int) (R:List Int):Bool:=keepsTo (leadsF T R) l T.legs.length
noncomputable def agreesF (T:Treaty) (l:List Int):Option (List Int):=(readingsL T).find? (keepsR T l)
def AgreesG (w:World) (T:Treaty) (l:List Int) (e:Ending) (w':World):Prop :=
 Aft w w' /\ ((agreesF T l = none /\ e = .returned (.tuple #[.slice none 0 0,.int .i64 7])) \/ (∃ R v,agreesF T l = some R /\ e = .returned (.tuple #[v,.int .i64 0]) /\ w'.ownsRow w.heap.size 3 1 v R.length (R.map (Value.int .i64))))
theorem find_at {T:Treaty} {l:List Int} {k:Nat} (hk:k < prodN (lensOf T)) (h1:∀ i,i < k -> keepsR T l (dig (lensOf T) i) = false) (h2:keepsR T l (dig (lensOf T) k) = true):agreesF T l = some (dig (lensOf T) k):=by
 unfold agreesF readingsL;rw [List.find?_eq_some_iff_getElem];refine ⟨h2,k,by simpa using hk,by simp,fun j hj=>?_⟩;simpa using h1 j hj
theorem find_none {T:Treaty} {l:List Int} (h1:∀ i,i < prodN (lensOf T) -> keepsR T l (dig (lensOf T) i) = false):agreesF T l = none:=by
 unfold agreesF readingsL;rw [List.find?_eq_none];intro x hx;obtain ⟨i,hi,rfl⟩:=List.mem_map.1 hx;simp [h1 i (List.mem_range.1 hi)]
structure AgrI (w:World) (T:Treaty) (a1 a2 a3 a4:Option Addr) (c1 c2 c3 c4:Nat) (Al:Option Addr) (l:List Int) (cl S k:Nat) (W:World):Prop where
 aft:Aft w W
 box:Blk W w.heap.size 27 #[.int .i64 T.places,.slice a1 T.ways.length c1,.slice a2 T.words.length c2,.slice a3 T.starts.length c3,.slice a4 T.legs.length c4]
 line:Blk W (w.heap.size + 1) 24 #[.slice Al l.length cl]
 box2:Blk W S 27 #[.int .i64 T.places,.slice a1 T.ways.length c1,.slice a2 T.words.length c2,.slice a3 T.starts.length c3,.slice a4 T.legs.length c4]
 r4:∃ c,Blk W (w.heap.size + 2) 24 #[c]
 r5:∃ c,Blk W (w.heap.size + 3) 38 #[c]
 none:∀ i,i < k -> keepsR T l (dig (lensOf T) i) = false
structure AgrX (w:World) (T:Treaty) (l:List Int) (S:Nat) (W:World):Prop where
 aft:Aft w W
 out:∃ R v,agreesF T l = some R /\ Blk W (w.heap.size + 2) 24 #[v] /\ Blk W (w.heap.size + 3) 38 #[.int .i64 0] /\ W.ownsRow (S + 4) 3 1 v R.length (R.map (Value.int .i64))
theorem AgrI.three {w:World} {T:Treaty} {a1 a2 a3 a4:Option Addr} {c1 c2 c3 c4:Nat} {Al:Option Addr} {l:List Int} {cl S:Nat} (hS:w.heap.size + 3 < S):Three (S + 1) (fun k W=>AgrI w T a1 a2 a3 a4 c1 c2 c3 c4 Al l cl S k W):=by
 rintro k W W' r ⟨h1,h2,h3,h4,⟨c,h5⟩,⟨c',h6⟩,h7⟩ hg hr1 hr2;exact ⟨h1.grown hg (fun k e=>by cases e;omega),h2.grown hg (fun e=>by cases e;omega),h3.grown hg (fun e=>by cases e;omega),h4.grown hg (fun e=>by cases e;omega),⟨c,h5.grown hg (fun e=>by cases e;omega)⟩,⟨c',h6.grown hg (fun e=>by cases e;omega)⟩,h7⟩
theorem AgrX.three {w:World} {T:Treaty} {l:List Int} {S:Nat} (hS:w.heap.size + 3 < S) (c:Code):Three (S + 1) (fun (_:Unit) W=>c = .ret /\ AgrX w T l S W):=by
 rintro _ W W' r ⟨h0,h1,R,v,h2,h3,h4,h5⟩ hg hr1 hr2;exact ⟨h0,h1.grown hg (fun k e=>by cases e;omega),R,v,h2,h3.grown hg (fun e=>by cases e;omega),h4.grown hg (fun e=>by cases e;omega),own_kept h5 hg (by omega)⟩
set_option maxRecDepth 100000 in
set_option maxHeartbeats 2000000 in
theorem agrees_good (w:World) (T:Treaty) (a1 a2 a3 a4:Option Addr) (c1 c2 c3 c4:Nat) (l:List Int) (Al:Option Addr) (cl:Nat) (hT:TRep w T a1 a2 a3 a4) (hA:Ints w Al l) (hc:checkE T = 0) (hli:linedB T l = true) (hst:hasB T.starts (l.getD 0 0) = true) :
  Calls Tryz.prog 23 #[.agg #[.int .i64 T.places,.slice a1 T.ways.length c1,.slice a2 T.words.length c2,.slice a3 T.starts.length c3,.slice a4 T.legs.length c4],.slice Al l.length cl] w (AgreesG w T l):=by
 have hal:=hA.len;have ok:=checkE_ok hc;have HC:=Lib.hid hc;have HT:=Lib.hid hT;have HL:=Lib.hid hli;obtain ⟨hlen,hL2⟩:=linedB_iff.1 hli;have HLL:=Lib.hid hL2;have HAI:=Lib.hid hA;have hpos:0 < l.length:=by omega
 obtain ⟨n0,hn0,hn0p,hn0d⟩:=int_bool hL2 hpos;have hn1:l.getD 0 0 = n0:=by rw [List.getD_eq_getElem?_getD,List.getElem?_eq_getElem hpos,Option.getD_some,hn0]
 rw [hn1] at hst;have HS:=Lib.hid hst;have HN0:=Lib.hid hn0;have h0l:(0:Int) < (l.length:Int):=by omega
 have HCK:Hid (∀ W,Aft w W -> Calls Tryz.prog 37 #[.agg #[.int .i64 T.places,.slice a1 T.ways.length c1,.slice a2 T.words.length c2,.slice a3 T.starts.length c3,.slice a4 T.legs.length c4]] W fun e w'=>e = .returned (.int .i64 (checkE T)) /\ Aft W w'):=Lib.hid fun W ha=>check_any T a1 a2 a3 a4 c1 c2 c3 c4 W (HT.out.aft ha)
 rw [HC.out] at HCK;have HLI:=Lib.hid (fun (W:World) (h:Aft w W)=>lined_any W T a1 a2 a3 a4 c1 c2 c3 c4 l Al cl (hA.aft h) ok.p1 ok.p2 ok.nlegs);rw [HL.out] at HLI;have HLN:=Lib.hid hlen;have OK:=Lib.hid ok;clear hc hT hA hli hst hn0 hn1 hn0d hL2 hlen ok;refine (callsIn_wide (n:=5)).1 ?_;refine callsIn_of_wp_marks Tryz.func23 rfl trivial ?_ rfl;simp only [Tryz.ntmps23,List.size_toArray,List.length_cons,List.length_nil,Nat.reduceAdd,Nat.reduceSub,Array.replicate_succ,Array.replicate_zero,List.push_toArray,List.append_toArray,List.nil_append,List.cons_append];refine wpIn_wide.2 ?_;have hA0:Aft w ((((w.alloc (.cells #[.int .i64 T.places,.slice a1 T.ways.length c1,.slice a2 T.words.length c2,.slice a3 T.starts.length c3,.slice a4 T.legs.length c4] 27)).alloc (.cells #[.slice Al l.length cl] 24)).alloc (.cells #[.slice none 0 0] 24)).alloc (.cells #[.int .i64 0] 38)):=(((Aft.alloc w _).then_alloc _).then_alloc _).then_alloc _;have hb0:=(((Blk.new w 27 #[.int .i64 T.places,.slice a1 T.ways.length c1,.slice a2 T.words.length c2,.slice a3 T.starts.length c3,.slice a4 T.legs.length c4]).alloc (.cells #[.slice Al l.length cl] 24)).alloc (.cells #[.slice none 0 0] 24)).alloc (.cells #[.int .i64 0] 38);have hl0:=((Blk.new (w.alloc (.cells #[.int .i64 T.places,.slice a1 T.ways.length c1,.slice a2 T.words.length c2,.slice a3 T.starts.length c3,.slice a4 T.legs.length c4] 27)) 24 #[.slice Al l.length cl]).alloc (.cells #[.slice none 0 0] 24)).alloc (.cells #[.int .i64 0] 38);have hr0:=(Blk.new ((w.alloc (.cells #[.int .i64 T.places,.slice a1 T.ways.length c1,.slice a2 T.words.length c2,.slice a3 T.starts.length c3,.slice a4 T.legs.length c4] 27)).alloc (.cells #[.slice Al l.length cl] 24)) 24 #[.slice none 0 0]).alloc (.cells #[.int .i64 0] 38)
 have hs0:=Blk.new (((w.alloc (.cells #[.int .i64 T.places,.slice a1 T.ways.length c1,.slice a2 T.words.length c2,.slice a3 T.starts.length c3,.slice a4 T.legs.length c4] 27)).alloc (.cells #[.slice Al l.length cl] 24)).alloc (.cells #[.slice none 0 0] 24)) 38 #[.int .i64 0];simp only [World.size_alloc] at hl0 hr0 hs0;have HA0:=Lib.hid hA0;have HB0:=Lib.hid hb0;have HL0:=Lib.hid hl0;have HR0:=Lib.hid hr0;have HS0:=Lib.hid hs0;clear hA0 hb0 hl0 hr0 hs0;go_wp2_with fail
 refine wp_scope_straight ?_
 go_wp2_with (first
   | (go_at_call 37;refine (HCK.out _ HA0.out).mono ?_;rintro e w1 ⟨rfl,ha1⟩;have hb1:=HB0.out.aft ha1;have hlt1:=hb1.lt;obtain ⟨k0,k1,k2,k3,k4⟩:=box_cells hb1;have hl1:=HL0.out.aft ha1;have kl:w1.cell? ⟨w.heap.size + 1,0,none⟩ = some (.slice Al l.length cl):=hl1.cell 0;have hlt1':=hl1.lt;have HA1:=Lib.hid ha1;clear ha1)
   | (go_at_call 68;refine (HLI.out _ (HA0.out.trans HA1.out)).mono ?_;rintro e w2 ⟨rfl,ha2⟩;have HA2:=Lib.hid (HA1.out.trans ha2);clear ha2))
 obtain ⟨bl,ol,rfl,hbl,hcl⟩:=(HAI.out.aft (HA0.out.trans HA2.out)).at hpos;have cL:w2.drew.cell? ⟨bl,ol,none⟩ = some (.int .i64 n0):=by have:=hcl 0 hpos;rw [HN0.out] at this;exact this
 have k32:w2.drew.cell? ⟨w.heap.size,3,none⟩ = some (.slice a3 T.starts.length c3):=(box_cells (HB0.out.aft HA2.out).drew).2.2.2.1;have kl2:w2.drew.cell? ⟨w.heap.size + 1,0,none⟩ = some (.slice (some ⟨bl,ol,none⟩) l.length cl):=(HL0.out.aft HA2.out).drew.cell 0;have HCT:=Lib.hid (show Calls Tryz.prog 60 #[.slice a3 T.starts.length c3,.int .i64 n0] w2.drew (fun e w'=>e = .returned (.bool true) /\ w' = w2.drew) from (contains_any a3 T.starts c3 n0 w2.drew ((HT.out.starts.aft (HA0.out.trans HA2.out)).aft (Aft.drew _))).mono fun _ _ ⟨h1,h2⟩=>⟨by rw [h1,HS.out],h2.symm⟩);clear hcl k0 k1 k2 k3 k4 kl hl1;refine wp_region_tail 7 (by kernel_rfl) (by kernel_rfl) ?_;simp only [List.take_succ_cons,List.take_zero,List.drop_succ_cons,List.drop_zero];repeat (first | go_big_quiet_skip | (go_big_quiet_want;go_big_quiet_op;go_big_quiet_on))
 (go_big_quiet_want;go_big_quiet_op;refine ⟨_,HCT.out,?_⟩;go_big_quiet_on);repeat (first | go_big_quiet_skip | (go_big_quiet_want;go_big_quiet_op;go_big_quiet_on))
 refine wpQuiet_nil ?_;have HA3:=Lib.hid (HA2.out.then_drew);have hb3:=HB0.out.aft HA3.out;have hlt3:=hb3.lt;obtain ⟨k0,k1,k2,k3,k4⟩:=box_cells hb3;clear HA2 cL k32 kl2 HCT hb1 hlt1 hlt1' HA1;generalize w2.drew = w3 at *;go_wp2_with fail
 refine wp_label ?_;go_upto_block 1 with (go_at_call 48;refine (readings_any T a1 a2 a3 a4 c1 c2 c3 c4 _).mono ?_;rintro e w4 ⟨rfl,rfl⟩)
 have hA4:Aft w (w3.alloc (.cells #[.int .i64 T.places,.slice a1 T.ways.length c1,.slice a2 T.words.length c2,.slice a3 T.starts.length c3,.slice a4 T.legs.length c4] 27)):=(HA0.out.trans HA3.out).then_alloc _;have hb4:=hb3.alloc (.cells #[.int .i64 T.places,.slice a1 T.ways.length c1,.slice a2 T.words.length c2,.slice a3 T.starts.length c3,.slice a4 T.legs.length c4] 27);have hl4:=(HL0.out.aft HA3.out).alloc (.cells #[.int .i64 T.places,.slice a1 T.ways.length c1,.slice a2 T.words.length c2,.slice a3 T.starts.length c3,.slice a4 T.legs.length c4] 27);have hr4:=(HR0.out.aft HA3.out).alloc (.cells #[.int .i64 T.places,.slice a1 T.ways.length c1,.slice a2 T.words.length c2,.slice a3 T.starts.length c3,.slice a4 T.legs.length c4] 27);have hs4:=(HS0.out.aft HA3.out).alloc (.cells #[.int .i64 T.places,.slice a1 T.ways.length c1,.slice a2 T.words.length c2,.slice a3 T.starts.length c3,.slice a4 T.legs.length c4] 27);have he4:=Blk.new w3 27 #[.int .i64 T.places,.slice a1 T.ways.length c1,.slice a2 T.words.length c2,.slice a3 T.starts.length c3,.slice a4 T.legs.length c4];have hz4:(w3.alloc (.cells #[.int .i64 T.places,.slice a1 T.ways.length c1,.slice a2 T.words.length c2,.slice a3 T.starts.length c3,.slice a4 T.legs.length c4] 27)).heap.size = w3.heap.size + 1:=by simp
 have hS3:w.heap.size + 3 < w3.heap.size:=(HS0.out.aft HA3.out).lt;clear k0 k1 k2 k3 k4 hb3;generalize (w3.alloc (.cells #[.int .i64 T.places,.slice a1 T.ways.length c1,.slice a2 T.words.length c2,.slice a3 T.starts.length c3,.slice a4 T.legs.length c4] 27)) = w4 at *;generalize w3.heap.size = S at *;have HI0:Hid (AgrI w T a1 a2 a3 a4 c1 c2 c3 c4 (some ⟨bl,ol,none⟩) l cl S 0 w4):=Lib.hid ⟨hA4,hb4,hl4,he4,⟨_,hr4⟩,⟨_,hs4⟩,fun i hi=>by omega⟩;clear hA4 hb4 hl4 he4 hr4 hs4;refine wp_block ?_;refine (wpIn_wide (n:=5)).1 ?_;refine wpIn_range3 (gf:=106) (lb:=#[.pointer (some ⟨S,0,none⟩)]) rfl (fun args w=>by simp [go_sem]) (iter109 _ S _ T a2 c2 OK.out) (fun k W0 W v r o h hr=>h.put hr o)
  (fun k W=>AgrI w T a1 a2 a3 a4 c1 c2 c3 c4 (some ⟨bl,ol,none⟩) l cl S k W) (fun c W=>c = .ret /\ AgrX w T l S W) (by rw [hz4];exact AgrI.three hS3) (fun c=>by rw [hz4];exact AgrX.three hS3 c) (fun k W h=>⟨(box_cells h.box2).2.2.1,(HT.out.aft h.aft).words⟩) HI0.out
  (fun v=>{ tmps:=#[.agg #[.int .i64 T.places,.slice a1 T.ways.length c1,.slice a2 T.words.length c2,.slice a3 T.starts.length c3,.slice a4 T.legs.length c4],.slice (some ⟨bl,ol,none⟩) l.length cl,.pointer (some ⟨w.heap.size,0,none⟩),.pointer (some ⟨w.heap.size + 1,0,none⟩),.pointer (some ⟨w.heap.size + 1 + 1,0,none⟩),.pointer (some ⟨w.heap.size + 1 + 1 + 1,0,none⟩),.int .i64 0,v,undef,undef,.agg #[.int .i64 T.places,.slice a1 T.ways.length c1,.slice a2 T.words.length c2,.slice a3 T.starts.length c3,.slice a4 T.legs.length c4],.int .i64 0,.bool false,.int .i64 0,.bool false,undef,.bool false,.agg #[.int .i64 T.places,.slice a1 T.ways.length c1,.slice a2 T.words.length c2,.slice a3 T.starts.length c3,.slice a4 T.legs.length c4],.slice (some ⟨bl,ol,none⟩) l.length cl,.bool true,.bool false,.bool false,.pointer (some ⟨w.heap.size,3,none⟩),.slice a3 T.starts.length c3,.slice (some ⟨bl,ol,none⟩) l.length cl,.pointer (some ⟨bl,ol,none⟩),.int .i64 n0,.bool true,.bool false,.agg #[.int .i64 T.places,.slice a1 T.ways.length c1,.slice a2 T.words.length c2,.slice a3 T.starts.length c3,.slice a4 T.legs.length c4],.func (.func 106) #[] #[.pointer (some ⟨S,0,none⟩)],v,undef,undef,undef,undef,undef,undef,undef,undef,undef,undef,undef,undef,undef,undef,undef,undef,undef,undef,undef,undef,undef,undef,undef,undef],defers:=[] }) ?assign ?body ?done ?stop
 case assign =>
  intro l v W K hK;gi_wp2_with fail
  exact hK
 case body =>
  intro ll k v W0 W hk hI ha hB hv;have hdl:(dig (lensOf T) k).length <= 6:=by rw [dig_len];simp only [lensOf,List.length_map];exact OK.out.nwords
  obtain ⟨AR,cR,rfl,_,hir⟩:=own_ints hv (by omega);have hTW:=HT.out.aft (hI.aft.trans ha);have hro:=readOk_iff.2 (dig_ok _ _ OK.out.lens hk);have HOP:=Lib.hid (opened_any W T a1 a2 a3 a4 c1 c2 c3 c4 (dig (lensOf T) k) AR cR hTW hir OK.out hro);have HFD:=Lib.hid (fun h=>find_at (l:=l) hk hI.none h)
  have HNO:Hid (keepsR T l (dig (lensOf T) k) = false -> ∀ i,i < k + 1 -> keepsR T l (dig (lensOf T) i) = false):=Lib.hid fun h i hi=>by
   by_cases e:i = k
   ·rw [e];exact h
   ·exact hI.none i (by omega)
  have HII:=Lib.hid hI;have HV:Hid (W.ownsRow W0.heap.size 3 1 (.slice AR (dig (lensOf T) k).length cR) (dig (lensOf T) k).length ((dig (lensOf T) k).map (Value.int .i64))):=Lib.hid hv;have HAA:=Lib.hid ha;have hbW:=hI.box.aft ha;obtain ⟨k0,k1,k2,k3,k4⟩:=box_cells hbW;have hltW:=hbW.lt;have HBW:=Lib.hid hbW;clear hTW hro hI hv ha hir hbW;unfold keepsR at HFD HNO;generalize hRR:dig (lensOf T) k = R at *;clear hRR;refine wpIn_block ?_;refine wpIn_seq_k fun K1 H1=>?_
  refine wpIn_region_of_list (by kernel_rfl) ?_;go_wp2_with (go_at_call 49;refine HOP.out.mono ?_;rintro e w5 ⟨D,cs,rfl,hD,ha5,hbD,hgD⟩;have hd5:=hgD.desk hbD;have HD5:=Lib.hid hd5;have HA5:=Lib.hid ha5;have hb5:=HBW.out.aft ha5;have hlt5:=hb5.lt;obtain ⟨m0,m1,m2,m3,m4⟩:=box_cells hb5;clear hbD hgD hd5 ha5 HOP)
  change K1 _ _;refine H1 _ _ ?_;clear H1;have hl5:w5.cell? ⟨w.heap.size + 1,0,none⟩ = some (.slice (some ⟨bl,ol,none⟩) l.length cl):=((HII.out.line.aft HAA.out).aft HA5.out).cell 0;have hl5':=((HII.out.line.aft HAA.out).aft HA5.out).lt;have hnl:=OK.out.nlegs;gi_wp2_with fail
  gi_loopw [38] (fun i wr=>∃ j m:Nat,i = .int .i64 j /\ j <= T.legs.length /\ keepsTo (leadsF T R) l j = true /\ wr = w5.drewN m) (fun i _=>T.legs.length - (intOf i).toNat)
  case atStart=>exact ⟨0,0,rfl,by omega,rfl,rfl⟩
  case round =>
   obtain ⟨j,m,rfl,hj,hke,rfl⟩:=hrel;have HKE:=Lib.hid hke;clear hke;by_cases hjl:j < T.legs.length
   ·have hk1:j < l.length:=by have:=HLN.out;omega
    have hk2:j + 1 < l.length:=by have:=HLN.out;omega
    obtain ⟨x,hx,hxp,hxd⟩:=int_bool HLL.out hk1;obtain ⟨y,hy,hyp,hyd⟩:=int_bool HLL.out hk2;have hsu:=keepsTo_succ (leadsF T R) l j;rw [hxd,hyd] at hsu;have HSU:=Lib.hid hsu;have hai:=HAI.out.aft (HII.out.aft.trans (HAA.out.trans HA5.out));obtain ⟨b',o',e,_,hcl⟩:=hai.at hk1;cases e;have cx:w5.cell? ⟨bl,ol + j,none⟩ = some (.int .i64 x):=by have:=hcl j hk1;rwa [hx] at this
    have cy:w5.cell? ⟨bl,ol + (j + 1),none⟩ = some (.int .i64 y):=by have:=hcl (j + 1) hk2;rwa [hy] at this
    have hdk:=HD5.out.aft (Aft.drewN w5 m).then_drew;have hp12:=OK.out.p2;have hca:=can_any D T a1 a2 a3 a4 c1 c2 c3 c4 (leadsF T R) j x y (w5.drewN m).drew hdk (by omega) (by omega) (by omega) (by omega) (by omega) (by omega);simp only [Int.toNat_natCast] at hca;have i1:(0:Int) <= (j:Int) /\ (j:Int) < (l.length:Int):=by omega
    have i2:(0:Int) <= ((j + 1:Nat):Int) /\ ((j + 1:Nat):Int) < (l.length:Int):=by omega
    have w1':IntKind.i64.wrap ((j:Int) + 1) = ((j + 1:Nat):Int):=by rw [IntWalk.i64_in _ (by omega)];omega
    clear hsu hx hy hxd hyd hcl hai hdk hxp hyp hp12;cases hf:leadsF T R j x y
    all_goals
     rw [hf] at hca HSU;have HCA:=Lib.hid (hca.mono (R':=fun e w''=>e = .returned _ /\ w'' = (w5.drewN m).drew) fun _ _ ⟨h1,h2⟩=>⟨h1,h2.symm⟩);clear hf hca;have cx':(w5.drewN m).drew.cell? ⟨bl,ol + j,none⟩ = some (.int .i64 x):=cx;have cy':(w5.drewN m).drew.cell? ⟨bl,ol + (j + 1),none⟩ = some (.int .i64 y):=cy;have cl':(w5.drewN m).drew.cell? ⟨w.heap.size + 1,0,none⟩ = some (.slice (some ⟨bl,ol,none⟩) l.length cl):=hl5;gi_wp2_with fail
     refine wpIn_region_tail' 12 (by kernel_rfl) (by kernel_rfl) (by kernel_rfl) ?_;simp only [List.take_succ_cons,List.take_zero,List.drop_succ_cons,List.drop_zero];repeat (first | go_big_quiet_skip | (go_big_quiet_want;go_big_quiet_op;go_big_quiet_on))
     (go_big_quiet_want;go_big_quiet_op;refine ⟨_,HCA.out,?_⟩;go_big_quiet_on);repeat (first | go_big_quiet_skip | (go_big_quiet_want;go_big_quiet_op;go_big_quiet_on))
     refine wpQuiet_nil ?_;clear cx' cy' cl' HCA w1' i1 i2;go_wp2_with fail
     refine OnlyN.normal ?_;gi_wp2_with fail
    ·change Kept3 w4.heap.size W (w5.drewN m).drew /\ AgrI w T a1 a2 a3 a4 c1 c2 c3 c4 (some ⟨bl,ol,none⟩) l cl S (k + 1) (w5.drewN m).drew;have hA7:=HA5.out.trans ((Aft.drewN w5 m).then_drew);have hA8:=HAA.out.trans hA7;have hsz:=HAA.out.size;obtain ⟨v4,h4⟩:=HII.out.r4;obtain ⟨v5,h5⟩:=HII.out.r5;rw [hz4] at hB ⊢;exact ⟨Kept3.of_aft hA7 (by omega),HII.out.aft.trans hA8,HII.out.box.aft hA8,HII.out.line.aft hA8,HII.out.box2.aft hA8,⟨v4,h4.aft hA8⟩,⟨v5,h5.aft hA8⟩,HNO.out (keepsTo_le (k:=j + 1) (by omega) (by rw [HSU.out];simp))⟩
    ·exact ⟨⟨j + 1,m + 1,by go_num,by omega,by rw [HSU.out,HKE.out];rfl,rfl⟩,by simp [intOf];omega⟩
   ·obtain rfl:j = T.legs.length:=by omega
    obtain ⟨v4,h4⟩:=HII.out.r4;obtain ⟨v5,h5⟩:=HII.out.r5;have hA7:=HA5.out.trans (Aft.drewN w5 m);have hA8:=HAA.out.trans hA7;have g4:=h4.aft hA8;have g5:=h5.aft hA8;have q4:(w5.drewN m).cell? ⟨w.heap.size + 1 + 1,0,none⟩ = some v4:=g4.cell 0;have q5:(w5.drewN m).cell? ⟨w.heap.size + 1 + 1 + 1,0,none⟩ = some v5:=g5.cell 0;have z4:(w5.drewN m).frozen? ⟨w.heap.size + 1 + 1,0,none⟩ = false:=g4.frozen 0;have z5:(w5.drewN m).frozen? ⟨w.heap.size + 1 + 1 + 1,0,none⟩ = false:=g5.frozen 0;have HG4:=Lib.hid g4;have HG5:=Lib.hid g5;have HA8:=Lib.hid hA8;have HA7:=Lib.hid hA7;clear g4 g5 hA8 hA7 h4 h5;gi_wp2_with fail
    change Kept3 w4.heap.size W (((w5.drewN m).setCell ⟨w.heap.size + 2,0,none⟩ (.slice AR R.length cR)).setCell ⟨w.heap.size + 3,0,none⟩ (.int .i64 0)) /\ Code.ret = .ret /\ AgrX w T l S (((w5.drewN m).setCell ⟨w.heap.size + 2,0,none⟩ (.slice AR R.length cR)).setCell ⟨w.heap.size + 3,0,none⟩ (.int .i64 0));have hsz:=HAA.out.size;rw [hz4] at hB ⊢;refine ⟨((Kept3.of_aft HA7.out (by omega)).setCell (.inl (by show w.heap.size + 2 < S + 1;omega)) _).setCell (.inl (by show w.heap.size + 3 < S + 1;omega)) _,rfl,?_⟩;refine ⟨((HII.out.aft.trans HA8.out).then_setCell (p:=⟨w.heap.size + 2,0,none⟩) (by show w.heap.size <= w.heap.size + 2;omega) _).then_setCell (p:=⟨w.heap.size + 3,0,none⟩) (by show w.heap.size <= w.heap.size + 3;omega) _,
     R,.slice AR R.length cR,HFD.out HKE.out,(HG4.out.store 0 _).far (by show w.heap.size + 2 ≠ w.heap.size + 3;omega) _,(HG5.out.far (by show w.heap.size + 3 ≠ w.heap.size + 2;omega) _).store 0 _,?_⟩
    exact own_kept (own_kept (World.ownsRow.mono (own_aft HV.out HA7.out) (by omega)) (grownBy_setCell' (w5.drewN m) (w.heap.size + 2) _) (by omega)) (grownBy_setCell' _ (w.heap.size + 3) _) (by omega)
 case done =>
  intro D W hD hI hK;obtain ⟨v4,h4⟩:=hI.r4;obtain ⟨v5,h5⟩:=hI.r5;have q4:W.cell? ⟨w.heap.size + 1 + 1,0,none⟩ = some v4:=h4.cell 0;have q5:W.cell? ⟨w.heap.size + 1 + 1 + 1,0,none⟩ = some v5:=h5.cell 0;have z4:W.frozen? ⟨w.heap.size + 1 + 1,0,none⟩ = false:=h4.frozen 0;have z5:W.frozen? ⟨w.heap.size + 1 + 1 + 1,0,none⟩ = false:=h5.frozen 0;have HA:=Lib.hid hI.aft;have HNN:=Lib.hid (find_none hI.none);have HG4:=Lib.hid h4;have HG5:=Lib.hid h5;have HKD:=Lib.hid hK;have hDz:D = S + 1:=by omega
  clear hI h4 h5 hK hD;go_wp2_with fail
  have hX4:=(HG4.out.store 0 (.slice none 0 0)).far (p:=⟨w.heap.size + 3,0,none⟩) (by show w.heap.size + 2 ≠ w.heap.size + 3;omega) (.int .i64 7);have hX5:=(HG5.out.far (p:=⟨w.heap.size + 2,0,none⟩) (by show w.heap.size + 3 ≠ w.heap.size + 2;omega) (.slice none 0 0)).store 0 (.int .i64 7);have hKX:((W.setCell ⟨w.heap.size + 2,0,none⟩ (.slice none 0 0)).setCell ⟨w.heap.size + 3,0,none⟩ (.int .i64 7)).heap[D]? = some (.deferred (some [])):=(Below.heap_setCell _ _ _ D (by show D ≠ w.heap.size + 3;omega)).trans ((Below.heap_setCell _ _ _ D (by show D ≠ w.heap.size + 2;omega)).trans HKD.out);have hAX:=((HA.out.then_setCell (p:=⟨w.heap.size + 2,0,none⟩) (by show w.heap.size <= w.heap.size + 2;omega) (.slice none 0 0)).then_setCell (p:=⟨w.heap.size + 3,0,none⟩) (by show w.heap.size <= w.heap.size + 3;omega) (.int .i64 7)).grown (grownBy_putObj' _ D (.deferred none)) (fun k e=>by cases e;omega);have y4:=(hX4.grown (grownBy_putObj' _ D (.deferred none)) (fun e=>by cases e;omega)).cell 0;have y5:=(hX5.grown (grownBy_putObj' _ D (.deferred none)) (fun e=>by cases e;omega)).cell 0;refine ⟨by simp,.inl ⟨_,_,rfl,run_takeDeferred hKX,?_⟩⟩;refine ⟨.tuple #[.slice none 0 0,.int .i64 7],?_,⟨hAX,.inl ⟨HNN.out,rfl⟩⟩⟩;clear hX4 hX5 hKX hAX;generalize (((W.setCell ⟨w.heap.size + 2,0,none⟩ (.slice none 0 0)).setCell ⟨w.heap.size + 3,0,none⟩ (.int .i64 7)).putObj D (.deferred none)) = X at *;have y4':X.cell? ⟨w.heap.size + 1 + 1,0,none⟩ = some (.slice none 0 0):=y4;have y5':X.cell? ⟨w.heap.size + 1 + 1 + 1,0,none⟩ = some (.int .i64 7):=y5;simp [results,Tryz.results23,go_sem,y4',y5']
 case stop =>
  rintro D c W hD ⟨rfl,hX⟩ hK;have hDz:D = S + 1:=by omega
  refine wpIn_ret ?_;obtain ⟨ha,R,v,h1,h2,h3,h4⟩:=hX;have hAX:=ha.grown (grownBy_putObj' W D (.deferred none)) (fun k e=>by cases e;omega);have y4:=(h2.grown (grownBy_putObj' W D (.deferred none)) (fun e=>by cases e;omega)).cell 0;have y5:=(h3.grown (grownBy_putObj' W D (.deferred none)) (fun e=>by cases e;omega)).cell 0;have hown:=own_kept h4 (grownBy_putObj' W D (.deferred none)) (by omega);refine ⟨by simp,.inl ⟨_,_,rfl,run_takeDeferred hK,?_⟩⟩;refine ⟨.tuple #[v,.int .i64 0],?_,⟨hAX,.inr ⟨R,v,h1,rfl,World.ownsRow.mono hown (by omega)⟩⟩⟩;have y4':(W.putObj D (.deferred none)).cell? ⟨w.heap.size + 1 + 1,0,none⟩ = some v:=y4;have y5':(W.putObj D (.deferred none)).cell? ⟨w.heap.size + 1 + 1 + 1,0,none⟩ = some (.int .i64 0):=y5;clear y4 y5 hown hAX h4 h3 h2 ha;generalize (W.putObj D (.deferred none)) = X at *;simp [results,Tryz.results23,go_sem,y4',y5']
end Go.Proofs
end
