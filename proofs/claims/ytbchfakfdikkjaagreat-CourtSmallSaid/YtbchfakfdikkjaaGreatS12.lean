/- Own texts, merged: CtRf0 CtCo CtMa0 CtFe CtMa CtDe CtFw CtYb. -/
import Derived.Test.YtbchfakfdikkjaaGreatS11
import Derived.Shelf.Sort.Plain
import Derived.Sort.OwnSortedInts
import Derived.Deep.AppendLies
import Derived.Laws.OwnMore
import Derived.Laws.MakeOwn
import Derived.Laws.IdiomCopy
set_option linter.unusedSimpArgs false
set_option linter.unusedVariables false
set_option linter.unnecessarySimpa false
section
/- Plain: the sets of claims of the reference,and what it reckons by them. -/
namespace Go.Proofs
open Go.RowKit
open Court (refL begF noS award winB FewIs fullB grow mem_full sorted_ext)
def setL (N m:Nat):List Int:=idxL (fun i=>m.testBit i) N
theorem mem_idxL {p:Nat -> Bool} {k:Nat} {x:Int}:x ∈ idxL p k ↔ (0 <= x /\ x < k) /\ p x.toNat = true:=by
 unfold idxL;rw [List.mem_map];constructor
 ·rintro ⟨i,hi,rfl⟩;rw [List.mem_filter,List.mem_range] at hi;exact ⟨⟨by omega,by omega⟩,by simpa using hi.2⟩
 ·rintro ⟨⟨h0,h1⟩,h2⟩;exact ⟨x.toNat,List.mem_filter.2 ⟨List.mem_range.2 (by omega),h2⟩,by omega⟩
theorem idxL_sorted (p:Nat -> Bool) (k:Nat):(idxL p k).Pairwise (· < ·):=by
 unfold idxL;rw [List.pairwise_map];exact (List.pairwise_lt_range.filter _).imp fun h=>by omega
theorem bits_make (p:Nat -> Bool):∀ N:Nat,∃ m,m < 2 ^ N /\ ∀ i,i < N -> m.testBit i = p i
 | 0=>⟨0,by simp,fun i h=>by omega⟩
 | N + 1=>by
  obtain ⟨m,h1,h2⟩:=bits_make p N;cases hp:p N
  ·refine ⟨m,by rw [Nat.pow_succ];omega,fun i hi=>?_⟩;by_cases e:i = N
   ·subst e;rw [hp];exact Nat.testBit_lt_two_pow h1
   ·exact h2 i (by omega)
  ·refine ⟨2 ^ N + m,by rw [Nat.pow_succ];omega,fun i hi=>?_⟩;by_cases e:i = N
   ·subst e;rw [hp,Nat.testBit_two_pow_add_eq,Nat.testBit_lt_two_pow h1];rfl
   ·rw [Nat.testBit_two_pow_add_gt (by omega)];exact h2 i (by omega)
theorem setL_onto {N:Nat} {l:List Int} (hs:l.Pairwise (· < ·)) (hr:∀ x ∈ l,0 <= x /\ x < N):∃ m,m < 2 ^ N /\ setL N m = l:=by
 obtain ⟨m,h1,h2⟩:=bits_make (fun i=>l.contains (i:Int)) N;refine ⟨m,h1,sorted_ext (idxL_sorted _ _) hs fun x=>?_⟩;unfold setL;rw [mem_idxL];constructor
 ·rintro ⟨⟨h0,h3⟩,h4⟩;rw [h2 _ (by omega),Int.toNat_of_nonneg h0] at h4;simpa using h4
 ·intro hx;have:=hr x hx;refine ⟨this,?_⟩;rw [h2 _ (by omega),Int.toNat_of_nonneg this.1];simpa using hx
theorem setL_inj {N m m':Nat} (h:m < 2 ^ N) (h':m' < 2 ^ N) (he:setL N m = setL N m'):m = m':=by
 apply Nat.eq_of_testBit_eq;intro i;by_cases hi:i < N
 ·have h1:((i:Int) ∈ setL N m) ↔ ((i:Int) ∈ setL N m'):=by rw [he]
  unfold setL at h1;rw [mem_idxL,mem_idxL,Int.toNat_natCast] at h1;have h2:(0:Int) <= (i:Int) /\ (i:Int) < (N:Int):=by omega
  simp only [h2,true_and] at h1;exact Bool.eq_iff_iff.2 h1
 ·rw [Nat.testBit_lt_two_pow (Nat.lt_of_lt_of_le h (Nat.pow_le_pow_right (by omega) (by omega))),Nat.testBit_lt_two_pow (Nat.lt_of_lt_of_le h' (Nat.pow_le_pow_right (by omega) (by omega)))]
theorem setL_mem {N m:Nat} {x:Int} (h:x ∈ setL N m):0 <= x /\ x < N:=(mem_idxL.1 h).1
def manyF (S:List (Int × Int)) (N:Nat) (c:Int) (b m:Nat):Nat:=if (setL N m).length < b /\ (setL N m).contains c = false /\ winB S N c (setL N m) = true then (setL N m).length else b
def manyTo (S:List (Int × Int)) (N:Nat) (c:Int) (M:Nat):Nat:=(List.range M).foldl (manyF S N c) N
theorem manyTo_zero (S:List (Int × Int)) (N:Nat) (c:Int):manyTo S N c 0 = N:=rfl
theorem manyTo_succ (S:List (Int × Int)) (N:Nat) (c:Int) (M:Nat):manyTo S N c (M + 1) = manyF S N c (manyTo S N c M) M:=by
 unfold manyTo;rw [List.range_succ,List.foldl_append];rfl
theorem manyTo_least (S:List (Int × Int)) (N:Nat) (c:Int):∀ M,manyTo S N c M <= N /\ (∀ m,m < M -> (setL N m).contains c = false -> winB S N c (setL N m) = true -> manyTo S N c M <= (setL N m).length) /\ (manyTo S N c M = N \/ ∃ m,m < M /\ (setL N m).contains c = false /\ winB S N c (setL N m) = true /\ (setL N m).length = manyTo S N c M)
 | 0=>⟨Nat.le_refl _,fun m h=>by omega,.inl rfl⟩
 | M + 1=>by
  obtain ⟨h1,h2,h3⟩:=manyTo_least S N c M;rw [manyTo_succ];unfold manyF;by_cases h:(setL N M).length < manyTo S N c M /\ (setL N M).contains c = false /\ winB S N c (setL N M) = true
  ·rw [if_pos h];refine ⟨by omega,fun m hm hc hw=>?_,.inr ⟨M,by omega,h.2.1,h.2.2,rfl⟩⟩;by_cases e:m = M
   ·subst e;exact Nat.le_refl _
   ·have:=h2 m (by omega) hc hw;omega
  ·rw [if_neg h];refine ⟨h1,fun m hm hc hw=>?_,?_⟩
   ·by_cases e:m = M
    ·subst e;by_cases e2:(setL N m).length < manyTo S N c m
     ·exact absurd ⟨e2,hc,hw⟩ h
     ·omega
    ·exact h2 m (by omega) hc hw
   ·rcases h3 with h3 | ⟨m,hm,h4⟩
    ·exact .inl h3
    ·exact .inr ⟨m,by omega,h4⟩
theorem many_few {S:List (Int × Int)} {N:Nat} {c:Int} {L:List Int} (hc:0 <= c /\ c < N) (h:FewIs S N c L) (hl:L.length < N):manyTo S N c (2 ^ N) = L.length:=by
 obtain ⟨⟨hs,hr⟩,hw,hmin⟩:=h.facts;obtain ⟨h1,h2,h3⟩:=manyTo_least S N c (2 ^ N);obtain ⟨m,hm,he⟩:=setL_onto hs (fun x hx=>⟨(hr x hx).1,(hr x hx).2.1⟩);have h4:=h2 m hm (by rw [he];simpa using fun hx=>(hr c hx).2.2 rfl) (by rw [he];exact hw);rw [he] at h4;rcases h3 with h3 | ⟨m',hm',hc',hw',hl'⟩
 ·omega
 ·have:=hmin (setL N m') (idxL_sorted _ _) (fun x hx=>⟨(setL_mem hx).1,(setL_mem hx).2,fun e=>by
   subst e;have:(setL N m').contains x = true:=by simpa using hx
   rw [this] at hc';cases hc'⟩) hw'
  omega
def insZ (l:List Int) (out:List (List Int)):List (List Int):=out.takeWhile (fun x=>decide (cmpZ x l < 0)) ++ l :: out.dropWhile (fun x=>decide (cmpZ x l < 0))
def fullTo (p:List Int -> Bool) (N M:Nat):List (List Int):=(List.range M).foldl (fun out m=>if p (setL N m) then insZ (setL N m) out else out) []
theorem fullTo_succ (p:List Int -> Bool) (N M:Nat):fullTo p N (M + 1) = if p (setL N M) then insZ (setL N M) (fullTo p N M) else fullTo p N M:=by
 unfold fullTo;rw [List.range_succ,List.foldl_append];rfl
theorem insZ_perm (l:List Int) (out:List (List Int)):(insZ l out).Perm (l :: out):=by
 unfold insZ;refine List.perm_middle.trans (List.Perm.cons _ ?_);rw [List.takeWhile_append_dropWhile]
theorem fullTo_perm (p:List Int -> Bool) (N:Nat):∀ M,(fullTo p N M).Perm (((List.range M).map (setL N)).filter p)
 | 0=>List.Perm.refl _
 | M + 1=>by
  rw [fullTo_succ,List.range_succ,List.map_append,List.filter_append];have ih:=fullTo_perm p N M;cases h:p (setL N M)
  ·simp [h];simpa using ih
  ·simp only [List.map_cons,List.map_nil,List.filter_cons_of_pos h,List.filter_nil,if_true];exact (insZ_perm _ _).trans ((List.Perm.cons _ ih).trans (List.perm_append_singleton _ _).symm)
theorem cmpZ_asym {x y:List Int} (h:cmpZ x y < 0):¬ cmpZ y x < 0:=fun h'=>by
 have:=cmpZ_trans h h';rw [cmpZ_same] at this;omega
theorem drop_ge {l:List Int}:∀ {out:List (List Int)},SortedZ out -> ∀ b ∈ out.dropWhile (fun x=>decide (cmpZ x l < 0)),¬ cmpZ b l < 0
 | [],_,b,hb=>by cases hb
 | x :: xs,hs,b,hb=>by
  unfold SortedZ at hs;rw [List.pairwise_cons] at hs;rw [List.dropWhile_cons] at hb;by_cases h:cmpZ x l < 0
  ·rw [if_pos (by simpa using h)] at hb;exact drop_ge hs.2 b hb
  ·rw [if_neg (by simpa using h)] at hb;rcases List.mem_cons.1 hb with e | hb
   ·rw [e];exact h
   ·exact cmpZ_ge (hs.1 b hb) h
theorem insZ_sorted {l:List Int} {out:List (List Int)} (hs:SortedZ out):SortedZ (insZ l out):=by
 have h0:SortedZ (out.takeWhile (fun x=>decide (cmpZ x l < 0)) ++ out.dropWhile (fun x=>decide (cmpZ x l < 0))):=by rw [List.takeWhile_append_dropWhile];exact hs
 unfold SortedZ insZ at *;rw [List.pairwise_append] at h0 ⊢;obtain ⟨h1,h2,h3⟩:=h0;refine ⟨h1,List.pairwise_cons.2 ⟨fun b hb=>drop_ge hs b hb,h2⟩,fun a ha b hb=>?_⟩
 have hal:cmpZ a l < 0:=by
  have:=List.all_takeWhile (l:=out) (p:=fun x=>decide (cmpZ x l < 0));exact of_decide_eq_true (List.all_eq_true.1 this a ha)
 rcases List.mem_cons.1 hb with e | hb
 ·rw [e];exact cmpZ_asym hal
 ·exact h3 a ha b hb
theorem fullTo_sorted (p:List Int -> Bool) (N:Nat):∀ M,SortedZ (fullTo p N M)
 | 0=>List.Pairwise.nil
 | M + 1=>by
  rw [fullTo_succ];split
  ·exact insZ_sorted (fullTo_sorted p N M)
  ·exact fullTo_sorted p N M
theorem fullTo_full (S:List (Int × Int)) (ref:Int -> Bool) (N:Nat):(fullTo (fullB S ref N) N (2 ^ N)).Perm (grow S ref N N 0 []):=by
 refine (fullTo_perm _ N (2 ^ N)).trans ((List.perm_ext_iff_of_nodup ?_ (Court.nodup_grow N 0 [] (by simp [Court.niceB]))).2 fun l=>?_)
 ·exact (Court.map_nodup List.nodup_range fun x hx y hy e=>setL_inj (List.mem_range.1 hx) (List.mem_range.1 hy) e).filter _
 ·rw [mem_full,List.mem_filter,List.mem_map];constructor
  ·rintro ⟨⟨m,_,rfl⟩,h⟩;exact ⟨idxL_sorted _ _,fun x hx=>setL_mem hx,h⟩
  ·rintro ⟨h1,h2,h3⟩;obtain ⟨m,hm,he⟩:=setL_onto h1 h2;exact ⟨⟨m,List.mem_range.2 hm,he⟩,h3⟩
theorem fullTo_eq (S:List (Int × Int)) (ref:Int -> Bool) (N:Nat) {L:List (List Int)} (hp:L.Perm (grow S ref N N 0 [])) (hs:SortedZ L):L = fullTo (fullB S ref N) N (2 ^ N) :=
 sortedZ_eq (hp.trans (fullTo_full S ref N).symm) hs (fullTo_sorted _ _ _)
theorem fullTo_len (S:List (Int × Int)) (ref:Int -> Bool) (N:Nat):(fullTo (fullB S ref N) N (2 ^ N)).length = (grow S ref N N 0 []).length:=(fullTo_full S ref N).length_eq
theorem decT_filter (C:CaseL) (l:List Int) (N M:Nat) {n:Int} (hn:0 <= n /\ n < N):decT C l N M n = (List.range M).all fun m=>decide (award (C.strikes.filter fun s=>!refL (onTo m l l.length) s.2) noS N (begF (refL (offTo m l l.length))) n ≠ 0):=by
 unfold decT foundM;rw [decide_eq_true hn,Bool.true_and]
 congr 1
 funext m
 rw [Court.award_filter]
def everyL (F:List (List Int)) (N:Nat):List Int:=idxL (fun (n:Nat)=>F.all fun l=>hasB l (n:Int)) N
theorem every_always (C:CaseL) (R:List Int) {F:List (List Int)} {N:Nat} (hN:C.claims = N) (hp:F.Perm (fullsA C R)) (hne:fullsA C R ≠ []):everyL F N = alwaysL C R:=by
 have hm:∀ l ∈ fullsA C R,l.Pairwise (· < ·) /\ ∀ x ∈ l,0 <= x /\ x < N:=fun l hl=>by
  have h0:C.claims.toNat = N:=by omega
  unfold fullsA at hl;rw [h0] at hl;exact ⟨(mem_full.1 hl).1,(mem_full.1 hl).2.1⟩
 have hh:(fullsA C R).headD [] ∈ fullsA C R:=by
  match h:fullsA C R,hne with
  | x :: xs,_=>simp
 refine sorted_ext (idxL_sorted _ _) ?_ fun x=>?_
 ·unfold alwaysL;exact (hm _ hh).1.filter _
 ·unfold everyL alwaysL;rw [mem_idxL,List.mem_filter,List.all_eq_true];constructor
  ·rintro ⟨⟨h0,h1⟩,h2⟩;rw [Int.toNat_of_nonneg h0] at h2;refine ⟨hasB_iff.1 (h2 _ (hp.mem_iff.2 hh)),?_⟩;rw [Bool.not_eq_true',List.any_eq_false];intro l hl;rw [h2 l (hp.mem_iff.2 hl)]
   simp
  ·rintro ⟨h1,h2⟩;rw [Bool.not_eq_true',List.any_eq_false] at h2;have h0:=(hm _ hh).2 x h1;refine ⟨h0,fun l hl=>?_⟩;rw [Int.toNat_of_nonneg h0.1];have:=h2 l (hp.mem_iff.1 hl);simpa using this
end Go.Proofs
end
section
/- Walks: slices.Contains of strikes. -/
namespace Go.Proofs
open Go.RowKit
attribute [local go_sem] Oper.semAt_some
set_option maxRecDepth 100000 in
set_option maxHeartbeats 2000000 in
theorem indexS_any (A:Option Addr) (L:List (Int × Int)) (c:Nat) (s0 s1:Int) (w:World) (hA:Strs w A L) :
  Calls Tryz.prog 94 #[.slice A L.length c,.agg #[.int .i64 s0,.int .i64 s1]] w fun e w'=>∃ n,e = .returned (.int .i64 n) /\ (0 <= n ↔ (s0,s1) ∈ L) /\ Aft w w':=by
 have hlen:=hA.len;have HL:=Lib.hid hA;have HB:=Lib.hid (Blk.new w 57 #[.int .i64 s0,.int .i64 s1]);have H0:=Lib.hid (Aft.alloc w (.cells #[.int .i64 s0,.int .i64 s1] 57));clear hA;go_enter Tryz.func94,Tryz.ntmps94;go_upto_block 0 with (fail)
 generalize (w.alloc (.cells #[.int .i64 s0,.int .i64 s1] 57)) = W1 at *;generalize w.heap.size = S at *;refine wp_block ?_;go_loopw [8] (fun i wr=>∃ k:Nat,i = .int .i64 k /\ k <= L.length /\ (∀ j,(h:j < L.length) -> j < k -> L[j] ≠ (s0,s1)) /\ Aft W1 wr) (fun i _=>L.length - (intOf i).toNat)
 case atStart=>exact ⟨0,rfl,by omega,fun j _ h=>absurd h (Nat.not_lt_zero _),Aft.refl _⟩
 case round =>
  obtain ⟨k,rfl,hk,hne,haw⟩:=hrel;have HNE:=Lib.hid hne;have HAW:=Lib.hid haw;clear hne haw;by_cases hkl:k < L.length
  ·have t1:decide (k < L.length) = true:=by simpa using hkl
   obtain ⟨b9,o9,hb9,hlt9,hc9⟩:=(HL.out.aft (H0.out.trans (HAW.out.then_drew))).at hkl;subst hb9;obtain ⟨x0,x1⟩:=hc9 k hkl;have j0:wr.drew.cell? ⟨S,0,none⟩ = some (.int .i64 s0):=(HB.out.aft HAW.out.then_drew).cell 0;have j1:wr.drew.cell? ⟨S,1,none⟩ = some (.int .i64 s1):=(HB.out.aft HAW.out.then_drew).cell 1;have hin:(0:Int) <= (k:Int) /\ (k:Int) < (L.length:Int):=by omega
   have HMEM:Hid (L[k] ∈ L):=Lib.hid (List.getElem_mem hkl)
   have HST:Hid (L[k] ≠ (s0,s1) -> ∀ j,(h:j < L.length) -> j < k + 1 -> L[j] ≠ (s0,s1)):=Lib.hid fun e j h hj=>by
    by_cases ej:j = k
    ·subst ej;exact e
    ·exact HNE.out j h (by omega)
   clear hc9;obtain ⟨⟨y0,y1⟩,hy⟩:∃ y,L[k] = y:=⟨_,rfl⟩;rw [hy] at x0 x1 HMEM HST;clear hy;go_upto_region 4 with (fail)
   refine wp_region_valsT (by kernel_rfl) 5 19 rfl (by kernel_rfl) (by kernel_rfl) (by kernel_rfl) [.agg #[.int .i64 s0,.int .i64 s1],.slice (some ⟨b9,o9,none⟩) L.length c,.int .i64 k,.pointer (some ⟨b9,o9 + k * 2,none⟩),.agg #[.int .i64 y0,.int .i64 y1]] rfl (fun _ W=>W = wr.drew) (rfl) ?st1 ?fi1
   case st1 =>
    intro i o v ho hv
    match i,ho,hv with
    | 0,ho,hv =>
     cases ho;cases hv;refine .inl ⟨rfl,fun done a W hd hp hk hw K hK=>?_⟩;have e3:=hk.s 3;exact op_val (by simp [go_sem,ev' e3,hw,j0,j1]) (hK _ hw)
    | 1,ho,hv =>
     cases ho;cases hv;refine .inl ⟨rfl,fun done a W hd hp hk hw K hK=>?_⟩;have e0:=hk.s 0;exact op_val (by simp [go_sem,ev' e0]) (hK _ hw)
    | 2,ho,hv =>
     cases ho;cases hv;refine .inl ⟨rfl,fun done a W hd hp hk hw K hK=>?_⟩;have e5:=hk.s 5;exact op_val (by simp [go_sem,ev' e5]) (hK _ hw)
    | 3,ho,hv =>
     cases ho;cases hv;refine .inl ⟨rfl,fun done a W hd hp hk hw K hK=>?_⟩;have e12:=hk.t 1;have e13:=hk.t 2;exact op_val (by simp [go_sem,ev' e12,ev' e13,hin]) (hK _ hw)
    | 4,ho,hv =>
     cases ho;cases hv;refine .inl ⟨rfl,fun done a W hd hp hk hw K hK=>?_⟩;have e14:=hk.t 3;exact op_val (by simp [go_sem,ev' e14,hw,x0,x1]) (hK _ hw)
    | _ + 5,_,hv=>cases hv
   intro done W hd hw;simp only [List.drop_succ_cons,List.drop_zero,List.zip_cons_cons,List.zip_nil_right,putAll];simp only [Act.put,List.setIfInBounds_toArray,List.set];clear hd;subst hw;by_cases e0:s0 = y0
   ·subst e0;by_cases e1:s1 = y1
    ·subst e1;clear HST;go_wp2_with fail
     go_ret;exact ⟨_,rfl,⟨fun _=>HMEM.out,fun _=>by omega⟩,H0.out.trans HAW.out.then_drew⟩
    ·have HN:=Lib.hid (HST.out (fun h=>e1 (by cases h;rfl)));clear HST;go_wp2_with fail
     exact ⟨⟨k + 1,by go_num,by omega,HN.out,HAW.out.then_drew⟩,by simp [intOf];omega⟩
   ·have HN:=Lib.hid (HST.out (fun h=>e0 (by cases h;rfl)));clear HST;go_wp2_with fail
    all_goals exact ⟨⟨k + 1,by go_num,by omega,HN.out,HAW.out.then_drew⟩,by simp [intOf];omega⟩
  ·have t1:decide (k < L.length) = false:=by simpa using hkl
   go_wp2_with fail
   go_ret
   exact ⟨_,rfl,⟨fun h=>absurd h (by decide),fun hm=>by
    obtain ⟨j,hj,e⟩:=List.getElem_of_mem hm;exact absurd e (HNE.out j hj (by omega))⟩,H0.out.trans HAW.out⟩
set_option maxRecDepth 100000 in
set_option maxHeartbeats 2000000 in
theorem containsS_any (A:Option Addr) (L:List (Int × Int)) (c:Nat) (s0 s1:Int) (w:World) (hA:Strs w A L) :
  Calls Tryz.prog 45 #[.slice A L.length c,.agg #[.int .i64 s0,.int .i64 s1]] w fun e w'=>e = .returned (.bool (decide ((s0,s1) ∈ L))) /\ Aft w w':=by
 have H1:=Lib.hid (indexS_any A L c s0 s1 (w.alloc (.cells #[.int .i64 s0,.int .i64 s1] 57)) (hA.aft (Aft.alloc _ _)));clear hA;go_enter Tryz.func45,Tryz.ntmps45;go_wp2_with (go_at_call 94;refine H1.out.mono ?_;rintro e w2 ⟨n,rfl,hn,ha⟩;have HN:=Lib.hid hn;have HA:=Lib.hid ha;clear hn ha)
 go_ret;refine ⟨ret_bool ?_,(Aft.alloc _ _).trans HA.out⟩;exact decide_eq_decide.2 HN.out
end Go.Proofs
end
section
/- Words: a case under way,made of a deck. -/
namespace Go.Proofs
open Go.RowKit
structure Sm (b:Nat) (w W:World):Prop where
 size:w.heap.size <= W.heap.size
 same:∀ k,b <= k -> k < w.heap.size -> W.heap[k]? = w.heap[k]?
theorem Sm.of_grown {b:Nat} {w w':World} {row:Option Nat} (h:w.grownBy w' row) (hr:∀ k,row = some k -> k < b \/ w.heap.size <= k):Sm b w w' :=
 ⟨h.size,fun k h1 h2=>h.block k h2 (fun e=>by have:=hr k e.symm;omega)⟩
theorem own_sm {b base:Nat} {w W:World} {t:TypeId} {size:Nat} {v:Value} {n:Nat} {xs:List Value} (h:w.ownsRow base t size v n xs) (hs:Sm b w W) (hb:b <= base):W.ownsRow base t size v n xs:=by
 refine ⟨h.1,?_⟩;rcases h.2 with h2 | ⟨g,cap,cur,h1,hg,h3,h4⟩
 ·exact .inl h2
 ·exact .inr ⟨g,cap,cur,h1,hg,(hs.same g (Nat.le_trans hb hg) (Array.getElem?_eq_some_iff.1 h3).1).trans h3,h4⟩
section
variable {w W W':World} {d b5 N:Nat} {L:List (Int × Int)} {T:List (List Int)} {vS vT:Value}
end
theorem listedE_zero {N:Int} {l:List Int} (h1:∀ x ∈ l,0 <= x /\ x < N) (h2:risesB l = true):listedE N l = 0:=by
 unfold listedE;rw [if_pos (List.all_eq_true.2 fun x hx=>Cl_iff.2 (h1 x hx)),if_pos h2]
end Go.Proofs
end
section
/- Walks: the closure of Fewest. -/
namespace Go.Proofs
open Go.RowKit
open Court (refL begF noS struckB nextR hearR hearsR rule setF allN RankOk openN round award winB tryW FewIs)
attribute [local go_sem] Oper.semAt_some
structure Kq (b:Nat) (W W':World):Prop where
 size:W.heap.size <= W'.heap.size
 same:∀ k,k < W.heap.size -> k ≠ b -> k ≠ b + 1 -> W'.heap[k]? = W.heap[k]?
theorem Kq.refl (b:Nat) (W:World):Kq b W W:=⟨Nat.le_refl _,fun _ _ _ _=>rfl⟩
theorem Kq.trans {b:Nat} {W W' W'':World} (h:Kq b W W') (k:Kq b W' W''):Kq b W W'':=⟨Nat.le_trans h.size k.size,fun i h1 h2 h3=>(k.same i (Nat.lt_of_lt_of_le h1 h.size) h2 h3).trans (h.same i h1 h2 h3)⟩
theorem Kq.of_aft {b:Nat} {W W':World} (h:Aft W W'):Kq b W W':=⟨h.size,fun k h1 _ _=>h.below.block k h1⟩
theorem Kq.of_grown {b:Nat} {W W':World} {row:Option Nat} (h:W.grownBy W' row) (hr:row = some b \/ row = some (b + 1)):Kq b W W' :=
 ⟨h.size,fun k h1 h2 h3=>h.block k h1 (fun e=>by rcases hr with hr | hr <;> rw [hr] at e <;> cases e <;> contradiction)⟩
theorem blk_kq {b:Nat} {W W':World} {g:Nat} {t:TypeId} {cs:Array Value} (h:Blk W g t cs) (hk:Kq b W W') (h1:g ≠ b) (h2:g ≠ b + 1):Blk W' g t cs:=(hk.same g h.lt h1 h2).trans h
theorem own_kq {b:Nat} {W W':World} {v:Value} {n:Nat} {xs:List Value} (h:W.ownsRow (b + 2) 3 1 v n xs) (hk:Kq b W W'):W'.ownsRow (b + 2) 3 1 v n xs:=by
 refine ⟨h.1,?_⟩;rcases h.2 with ⟨h1,h2⟩ | ⟨g,cap,cur,h1,h2,h3,h4⟩
 ·exact .inl ⟨h1,h2⟩
 ·exact .inr ⟨g,cap,cur,h1,h2,(hk.same g (Array.getElem?_eq_some_iff.1 h3).1 (by omega) (by omega)).trans h3,h4⟩
structure FI (w:World) (b bC bQ:Nat) (C:CaseL) (a1 a2:Option Addr) (c1 c2:Nat) (q:Nat) (X:Option (List Int)) (W:World):Prop where
 aft:Aft w W
 ge:w.heap.size = b
 rep:CRep w C a1 a2
 bc:Blk w bC 25 #[.int .i64 C.claims,.slice a1 C.strikes.length c1,.slice a2 C.surveys.length c2]
 bq:Blk w bQ 3 #[.int .i64 q]
 b0:∃ v,Blk W b 33 #[v] /\ W.ownsRow (b + 2) 3 1 v (X.getD []).length ((X.getD []).map (Value.int .i64))
 b1:Blk W (b + 1) 4 #[.bool X.isSome]
 b2:Blk W (b + 1 + 1) 91 #[.func (.func 60) #[] #[.pointer (some ⟨b + 1,0,none⟩),.pointer (some ⟨bC,0,none⟩),.pointer (some ⟨bQ,0,none⟩),.pointer (some ⟨b,0,none⟩),.pointer (some ⟨b + 1 + 1,0,none⟩)]]
theorem FI.later {w:World} {b bC bQ:Nat} {C:CaseL} {a1 a2:Option Addr} {c1 c2:Nat} {q:Nat} {X:Option (List Int)} {W W':World} (h:FI w b bC bQ C a1 a2 c1 c2 q X W) (ha:Aft W W'):FI w b bC bQ C a1 a2 c1 c2 q X W' :=
 ⟨h.aft.trans ha,h.ge,h.rep,h.bc,h.bq,let ⟨v,h1,h2⟩:=h.b0;⟨v,h1.aft ha,own_aft h2 ha⟩,h.b1.aft ha,h.b2.aft ha⟩
theorem FI.put {w:World} {b bC bQ:Nat} {C:CaseL} {a1 a2:Option Addr} {c1 c2:Nat} {q:Nat} {W:World} (h:FI w b bC bQ C a1 a2 c1 c2 q none W) {v:Value} {l:List Int} (hv:W.ownsRow (b + 2) 3 1 v l.length (l.map (Value.int .i64))) :
  FI w b bC bQ C a1 a2 c1 c2 q (some l) ((W.setCell ⟨b,0,none⟩ v).setCell ⟨b + 1,0,none⟩ (.bool true)) /\ Kq b W ((W.setCell ⟨b,0,none⟩ v).setCell ⟨b + 1,0,none⟩ (.bool true)):=by
 have k1:Kq b W (W.setCell ⟨b,0,none⟩ v):=Kq.of_grown (grownBy_setCell' W b v) (.inl rfl);have k2:Kq b (W.setCell ⟨b,0,none⟩ v) ((W.setCell ⟨b,0,none⟩ v).setCell ⟨b + 1,0,none⟩ (.bool true)):=Kq.of_grown (grownBy_setCell' _ (b + 1) _) (.inr rfl);obtain ⟨u,hu,-⟩:=h.b0;refine ⟨⟨(h.aft.then_setCell (by have:=h.ge;show w.heap.size <= b;omega) _).then_setCell (by have:=h.ge;show w.heap.size <= b + 1;omega) _,h.ge,h.rep,h.bc,h.bq,⟨v,?_,own_kq hv (k1.trans k2)⟩,?_,blk_kq h.b2 (k1.trans k2) (by omega) (by omega)⟩,k1.trans k2⟩
 ·have:=(hu.store 0 v).far (p:=⟨b + 1,0,none⟩) (by show b ≠ b + 1;omega) (.bool true);simpa using this
 ·have:=(h.b1.far (p:=⟨b,0,none⟩) (by show b + 1 ≠ b;omega) v).store 0 (.bool true);simpa using this
def FewR (w:World) (b bC bQ:Nat) (C:CaseL) (a1 a2:Option Addr) (c1 c2:Nat) (q:Nat) (X:Option (List Int)) (W:World) (e:Ending) (W':World):Prop:=(∃ v,e = .returned v) /\ FI w b bC bQ C a1 a2 c1 c2 q X W' /\ Kq b W W'
structure Beg (W0:World) (C:CaseL) (a1 a2:Option Addr) (c1 c2:Nat) (l:List Int) (N:Nat) (done:Nat -> Bool) (a:Act) (W:World):Prop where
 aft:Aft W0 W
 two:done 2 = true -> done 3 = false -> ∃ d,a.eval (.tmp 18) = .pointer (some ⟨d,0,none⟩) /\ DeskAt W0 W d C a1 a2 c1 c2 (refL l) noS (begF (refL l)) (fun _=>0)
 three:done 3 = true -> ∃ d r,a.eval (.tmp 19) = .pointer (some ⟨d,0,none⟩) /\ (done 5 = true -> a.eval (.tmp 21) = .pointer (some ⟨d,0,none⟩)) /\ (done 6 = true -> a.eval (.tmp 22) = .pointer (some ⟨d,31,none⟩)) /\ DeskAt W0 W d C a1 a2 c1 c2 (refL l) noS (award C.strikes noS N (begF (refL l))) r
 o3:done 3 = true -> done 2 = true
 o5:done 5 = true -> done 3 = true
 o6:done 6 = true -> done 5 = true
section
variable {W0:World} {C:CaseL} {a1 a2:Option Addr} {c1 c2:Nat} {l:List Int} {N:Nat} {done:Nat -> Bool} {a:Act} {W W':World}
theorem Beg.start:Beg W0 C a1 a2 c1 c2 l N (fun _=>false) a W0.drew :=
 ⟨Aft.drew _,(fun h=>by cases h),(fun h=>by cases h),(fun h=>by cases h),(fun h=>by cases h),(fun h=>by cases h)⟩
theorem Beg.keep (h:Beg W0 C a1 a2 c1 c2 l N done a W) {i:Nat} {dst:Option Tmp} {v:Value} (ha:Aft W W') (hi:i ≠ 2 /\ i ≠ 3 /\ i ≠ 5 /\ i ≠ 6) (hd:dst ≠ some 18 /\ dst ≠ some 19 /\ dst ≠ some 21 /\ dst ≠ some 22):Beg W0 C a1 a2 c1 c2 l N (Go.upd done i) (a.put dst v) W':=by
 obtain ⟨h2,h3,h5,h6⟩:=hi;refine ⟨h.aft.trans ha,fun p q=>?_,fun p=>?_,fun p=>?_,fun p=>?_,fun p=>?_⟩
 ·rw [upd_ne (Ne.symm h2)] at p;rw [upd_ne (Ne.symm h3)] at q;obtain ⟨d,e,hd2⟩:=h.two p q;exact ⟨d,by rw [eval_ne hd.1];exact e,hd2.later ha⟩
 ·rw [upd_ne (Ne.symm h3)] at p;obtain ⟨d,r,e,e5,e6,hd2⟩:=h.three p;refine ⟨d,r,by rw [eval_ne hd.2.1];exact e,fun p5=>?_,fun p6=>?_,hd2.later ha⟩
  ·rw [upd_ne (Ne.symm h5)] at p5;rw [eval_ne hd.2.2.1];exact e5 p5
  ·rw [upd_ne (Ne.symm h6)] at p6;rw [eval_ne hd.2.2.2];exact e6 p6
 ·rw [upd_ne (Ne.symm h3)] at p;rw [upd_ne (Ne.symm h2)];exact h.o3 p
 ·rw [upd_ne (Ne.symm h5)] at p;rw [upd_ne (Ne.symm h3)];exact h.o5 p
 ·rw [upd_ne (Ne.symm h6)] at p;rw [upd_ne (Ne.symm h5)];exact h.o6 p
theorem Beg.not3 (h:Beg W0 C a1 a2 c1 c2 l N done a W) (h2:done 2 = false):done 3 = false:=by
 cases e:done 3
 ·rfl
 ·rw [h.o3 e] at h2;cases h2
theorem Beg.not5 (h:Beg W0 C a1 a2 c1 c2 l N done a W) (h3:done 3 = false):done 5 = false:=by
 cases e:done 5
 ·rfl
 ·rw [h.o5 e] at h3;cases h3
theorem Beg.not6 (h:Beg W0 C a1 a2 c1 c2 l N done a W) (h5:done 5 = false):done 6 = false:=by
 cases e:done 6
 ·rfl
 ·rw [h.o6 e] at h5;cases h5
theorem Beg.step2 (h:Beg W0 C a1 a2 c1 c2 l N done a W) (h2:done 2 = false) {d:Nat} (ha:Aft W W') (hd:DeskAt W0 W' d C a1 a2 c1 c2 (refL l) noS (begF (refL l)) (fun _=>0)) (hz:18 < a.tmps.size):Beg W0 C a1 a2 c1 c2 l N (Go.upd done 2) (a.put (some 18) (.pointer (some ⟨d,0,none⟩))) W':=by
 have h3:=h.not3 h2;have h5:=h.not5 h3;have h6:=h.not6 h5;refine ⟨h.aft.trans ha,fun _ _=>⟨d,Act.eval_put_same _ _ _ hz,hd⟩,fun p=>?_,fun _=>upd_same,fun p=>?_,fun p=>?_⟩
 ·rw [upd_ne (by decide),h3] at p;cases p
 ·rw [upd_ne (by decide),h5] at p;cases p
 ·rw [upd_ne (by decide),h6] at p;cases p
theorem Beg.step3 (h:Beg W0 C a1 a2 c1 c2 l N done a W) (h3:done 3 = false) (h2:done 2 = true) {d:Nat} {r:Int -> Nat} (ha:Aft W0 W') (hd:DeskAt W0 W' d C a1 a2 c1 c2 (refL l) noS (award C.strikes noS N (begF (refL l))) r) (hz:19 < a.tmps.size):Beg W0 C a1 a2 c1 c2 l N (Go.upd done 3) (a.put (some 19) (.pointer (some ⟨d,0,none⟩))) W':=by
 have h5:=h.not5 h3;have h6:=h.not6 h5;refine ⟨ha,fun _ p=>?_,fun _=>⟨d,r,Act.eval_put_same _ _ _ hz,fun p=>?_,fun p=>?_,hd⟩,fun _=>?_,fun p=>?_,fun p=>?_⟩
 ·rw [upd_same] at p;cases p
 ·rw [upd_ne (by decide),h5] at p;cases p
 ·rw [upd_ne (by decide),h6] at p;cases p
 ·rw [upd_ne (by decide)];exact h2
 ·exact upd_same
 ·rw [upd_ne (by decide),h6] at p;cases p
theorem Beg.step5 (h:Beg W0 C a1 a2 c1 c2 l N done a W) (h5:done 5 = false) (h3:done 3 = true) {d:Nat} (he:a.eval (.tmp 19) = .pointer (some ⟨d,0,none⟩)) (hz:21 < a.tmps.size):Beg W0 C a1 a2 c1 c2 l N (Go.upd done 5) (a.put (some 21) (.pointer (some ⟨d,0,none⟩))) W:=by
 have h6:=h.not6 h5;obtain ⟨d',r,e,e5,e6,hd2⟩:=h.three h3;rw [he] at e;cases e;refine ⟨h.aft,fun p q=>?_,fun _=>⟨d,r,by rw [eval_ne (by decide)];exact he,fun _=>Act.eval_put_same _ _ _ hz,fun p=>?_,hd2⟩,fun p=>?_,fun _=>?_,fun p=>?_⟩
 ·rw [upd_ne (by decide)] at q;rw [h3] at q;cases q
 ·rw [upd_ne (by decide),h6] at p;cases p
 ·rw [upd_ne (by decide)] at p ⊢;exact h.o3 p
 ·rw [upd_ne (by decide)];exact h3
 ·exact upd_same
theorem Beg.step6 (h:Beg W0 C a1 a2 c1 c2 l N done a W) (h6:done 6 = false) (h5:done 5 = true) {d:Nat} (he:a.eval (.tmp 21) = .pointer (some ⟨d,0,none⟩)) (hz:22 < a.tmps.size):Beg W0 C a1 a2 c1 c2 l N (Go.upd done 6) (a.put (some 22) (.pointer (some ⟨d,31,none⟩))) W:=by
 have h3:=h.o5 h5;obtain ⟨d',r,e,e5,e6,hd2⟩:=h.three h3;rw [e5 h5] at he;cases he;refine ⟨h.aft,fun p q=>?_,fun _=>⟨d,r,by rw [eval_ne (by decide)];exact e,fun _=>by rw [eval_ne (by decide)];exact e5 h5,fun _=>Act.eval_put_same _ _ _ hz,hd2⟩,fun p=>?_,fun p=>?_,fun _=>?_⟩
 ·rw [upd_ne (by decide)] at q;rw [h3] at q;cases q
 ·rw [upd_ne (by decide)] at p ⊢;exact h.o3 p
 ·rw [upd_ne (by decide)] at p ⊢;exact h.o5 p
 ·rw [upd_ne (by decide)];exact h5
end
theorem list4 {α:Type} {us:List α} (h:us.length = 4):∃ x y z t,us = [x,y,z,t]:=by
 match us,h with
 | [x,y,z,t],_=>exact ⟨x,y,z,t,rfl⟩
set_option maxRecDepth 100000 in
set_option maxHeartbeats 2000000 in
theorem few_met (w:World) (b bC bQ N q:Nat) (C:CaseL) (a1 a2:Option Addr) (c1 c2:Nat) (hok:CaseOk C) (hN:C.claims = N) (hq:q < N) (n m:Nat) (l:List Int) (lv:Value) (W:World) (hl:∀ x ∈ l,0 <= x /\ x < N) (hll:l.length <= n) (hnN:n <= N) (hm:m <= 1000) (hrow:W.ownsRow (b + 2) 3 1 lv l.length (l.map (Value.int .i64))) (L:List Int) (hG:FI w b bC bQ C a1 a2 c1 c2 q (some L) W) :
  Calls Tryz.prog 60 #[.int .i64 n,.int .i64 m,lv,.pointer (some ⟨b + 1,0,none⟩),.pointer (some ⟨bC,0,none⟩),.pointer (some ⟨bQ,0,none⟩),.pointer (some ⟨b,0,none⟩),.pointer (some ⟨b + 1 + 1,0,none⟩)] W (FewR w b bC bQ C a1 a2 c1 c2 q (some L) W):=by
 obtain ⟨A,c,rfl,_,_⟩:=own_ints hrow (by have:=hok.n2;omega);have k1:W.cell? ⟨b + 1,0,none⟩ = some (.bool true):=hG.b1.cell 0;have l1:=hG.b1.lt;have HG:=Lib.hid hG;clear hG hrow hl hq hok hN;go_enter Tryz.func60,Tryz.ntmps60;go_wp2_with fail
 refine bodyPost_ret (v:=.tuple #[]) (by simp [results,Tryz.results60,go_sem]) rfl ?_;exact ⟨⟨_,rfl⟩,HG.out,Kq.refl _ _⟩
set_option maxRecDepth 100000 in
set_option maxHeartbeats 4000000 in
theorem few_zero (w:World) (b bC bQ N q:Nat) (C:CaseL) (a1 a2:Option Addr) (c1 c2:Nat) (hok:CaseOk C) (hN:C.claims = N) (hq:q < N) (n m:Nat) (l:List Int) (lv:Value) (W:World) (hl:∀ x ∈ l,0 <= x /\ x < N) (hll:l.length <= n) (hnN:n <= N) (hm:m <= 1000) (hrow:W.ownsRow (b + 2) 3 1 lv l.length (l.map (Value.int .i64))) (hm0:m = 0) (hG:FI w b bC bQ C a1 a2 c1 c2 q none W) :
  Calls Tryz.prog 60 #[.int .i64 n,.int .i64 m,lv,.pointer (some ⟨b + 1,0,none⟩),.pointer (some ⟨bC,0,none⟩),.pointer (some ⟨bQ,0,none⟩),.pointer (some ⟨b,0,none⟩),.pointer (some ⟨b + 1 + 1,0,none⟩)] W (FewR w b bC bQ C a1 a2 c1 c2 q (if winB C.strikes N q l then some l else none) W):=by
 subst hm0;obtain ⟨T,hT⟩:∃ T,(if winB C.strikes N q l then some l else none) = T:=⟨_,rfl⟩;rw [hT];have HT:=Lib.hid hT;clear hT;obtain ⟨A,c,rfl,_,hA⟩:=own_ints hrow (by have:=hok.n2;omega);have hN14:N <= 14:=by have:=hok.n2;omega
 have hN1:1 <= N:=by omega
 have HS:=Lib.hid (show ∀ s ∈ C.strikes,0 <= s.1 /\ s.1 < 14 from fun s hs=>by have:=(hok.ins s hs).1;have:=hok.n2;omega);have k1:W.cell? ⟨b + 1,0,none⟩ = some (.bool false):=hG.b1.cell 0;have l1:=hG.b1.lt;have HRP:Hid (∀ W',Aft W W' -> CRep W' C a1 a2):=Lib.hid fun W' h=>hG.rep.aft (hG.aft.trans h)
 have H61:Hid (∀ W',Aft W W' -> Calls Tryz.prog 61 #[(.agg #[.int .i64 C.claims,.slice a1 C.strikes.length c1,.slice a2 C.surveys.length c2]),.slice A l.length c,.slice none 0 0] W' fun e w'=>∃ d,e = .returned (.pointer (some ⟨d,0,none⟩)) /\ DeskAt W' w' d C a1 a2 c1 c2 (refL l) noS (begF (refL l)) (fun _=>0)):=Lib.hid fun W' h=>by
  have:=begun_any C a1 a2 c1 c2 l [] A none c 0 W' ⟨by omega,by omega⟩ (HRP.out W' h) (hA.aft h) ⟨by simp,.inl rfl⟩ (by rw [hN];exact hl) (fun n hn=>by cases hn);exact this
 have H62:Hid (∀ W0 W' d,DeskAt W0 W' d C a1 a2 c1 c2 (refL l) noS (begF (refL l)) (fun _=>0) -> Calls Tryz.prog 62 #[.pointer (some ⟨d,0,none⟩)] W' (Awarded W0 W' d C a1 a2 c1 c2 (refL l) noS N (begF (refL l)))):=Lib.hid fun W0 W' d hD=>award_any W0 W' d C a1 a2 c1 c2 (refL l) noS (begF (refL l)) (begF (refL l)) (fun _=>0) hD N hN hN14 HS.out (Court.begF_three _) (HeardS.start _ _ _ _)
 have HCL:Hid (∀ W',Aft W W' -> Calls Tryz.prog 63 #[.slice A l.length c] W' (OwnInts W' l)):=Lib.hid fun W' h=>clone84 A l c W' (hA.aft h)
 have HR0:Hid (CRep W C a1 a2):=Lib.hid (HRP.out _ (Aft.refl W));have HG:=Lib.hid hG;have HBC:Hid (∀ W',Aft W W' -> Blk W' bC 25 #[.int .i64 C.claims,.slice a1 C.strikes.length c1,.slice a2 C.surveys.length c2]):=Lib.hid fun W' h=>hG.bc.aft (hG.aft.trans h)
 have HCQ:Hid (∀ W',Aft W W' -> W'.cell? ⟨bQ,0,none⟩ = some (.int .i64 q)):=Lib.hid fun W' h=>(hG.bq.aft (hG.aft.trans h)).cell 0
 have HNN:=Lib.hid hN;have hge:=hG.ge;have hsz:=hG.b2.lt;have hq14:q < 14:=by omega
 have i1:(0:Int) <= (q:Int) /\ (q:Int) < 14:=by omega
 have HDRW:=Lib.hid (Aft.drew W);clear hG hrow hl hok hN HRP hA;go_enter Tryz.func60,Tryz.ntmps60;go_upto_region 2 with (fail)
 have HHD:Hid (∀ (W':World) (g:Nat) (r:Int -> Nat),DeskAt W W' g C a1 a2 c1 c2 (refL l) noS (award C.strikes noS N (begF (refL l))) r -> W'.cell? ⟨g,31 + q,none⟩ = some (.int .i64 (award C.strikes noS N (begF (refL l)) (q:Nat):Nat))):=Lib.hid fun W' g r h=>h.found hq14
 refine wp_region_valsU (by kernel_rfl) 7 53 rfl (by kernel_rfl) (by kernel_rfl) [some ((.agg #[.int .i64 C.claims,.slice a1 C.strikes.length c1,.slice a2 C.surveys.length c2])),some (.slice A l.length c),none,none,some (.int .i64 q),none,none] (by kernel_rfl) rfl (Beg W C a1 a2 c1 c2 l N) (Beg.start) ?st1 ?fi1
 case st1 =>
  intro i o v ho hv
  match i,ho,hv with
  | 0,ho,hv =>
   cases ho;cases hv;refine .inl ⟨rfl,fun done a W hz hd hp hk hw K hK=>?_⟩;have e4:=hk.s 4;obtain ⟨y0,y1,y2⟩:=box25 (HBC.out W hw.aft);exact op_val (v:=(.agg #[.int .i64 C.claims,.slice a1 C.strikes.length c1,.slice a2 C.surveys.length c2])) (by simp [go_sem,ev' e4,y0,y1,y2]) (hK _ _ (fun u hu=>by cases hu;rfl) (hw.keep (Aft.refl _) (by decide) (by decide)))
  | 1,ho,hv =>
   cases ho;cases hv;refine .inl ⟨rfl,fun done a W hz hd hp hk hw K hK=>?_⟩;have e2:=hk.s 2;exact op_val (v:=.slice A l.length c) (by simp [go_sem,ev' e2]) (hK _ _ (fun u hu=>by cases hu;rfl) (hw.keep (Aft.refl _) (by decide) (by decide)))
  | 2,ho,hv =>
   cases ho;cases hv;refine .inl ⟨rfl,fun done a W hz hd hp hk hw K hK=>?_⟩;have e16:=hk.t 0;have e17:=hk.t 1;refine op_callN rfl rfl rfl _ rfl (vs:=#[(.agg #[.int .i64 C.claims,.slice a1 C.strikes.length c1,.slice a2 C.surveys.length c2]),.slice A l.length c,.slice none 0 0]) (by simp [e16,e17,show ∀ v,a.eval (.const v) = v from fun _=>rfl]) (H61.out W hw.aft) fun e w' h=>?_
   obtain ⟨d,rfl,hdk⟩:=h;exact ⟨_,rfl,hK _ _ (fun u hu=>by cases hu) (hw.step2 hd hdk.aft ⟨hdk.blk,HR0.out,Nat.le_trans hw.aft.size hdk.base,hw.aft.trans hdk.aft⟩ (by rw [hz];decide))⟩
  | 3,ho,hv =>
   cases ho;cases hv;refine .inl ⟨rfl,fun done a W hz hd hp hk hw K hK=>?_⟩;obtain ⟨d,e18,hdk⟩:=hw.two (hp 2 (by decide)) hd;refine op_callN rfl rfl rfl _ rfl (vs:=#[.pointer (some ⟨d,0,none⟩)]) (by simp [e18]) (H62.out _ W d hdk) fun e w' h=>?_
   obtain ⟨rfl,hg,f,r,hdk2,hhd,hdone⟩:=h;have hF:f = award C.strikes noS N (begF (refL l)):=Court.award_eq (Court.begF_three _) hhd.reach hdone;rw [hF] at hdk2;exact ⟨_,rfl,hK _ _ (fun u hu=>by cases hu) (hw.step3 hd (hp 2 (by decide)) (hw.aft.grown hg (fun k e=>by cases e;exact hdk.base)) hdk2 (by rw [hz];decide))⟩
  | 4,ho,hv =>
   cases ho;cases hv;refine .inl ⟨rfl,fun done a W hz hd hp hk hw K hK=>?_⟩;have e5:=hk.s 5;exact op_val (v:=.int .i64 q) (by simp [go_sem,ev' e5,HCQ.out W hw.aft]) (hK _ _ (fun u hu=>by cases hu;rfl) (hw.keep (Aft.refl _) (by decide) (by decide)))
  | 5,ho,hv =>
   cases ho;cases hv;refine .inl ⟨rfl,fun done a W hz hd hp hk hw K hK=>?_⟩;obtain ⟨d,r,e19,-,-,hdk⟩:=hw.three (hp 3 (by decide));exact op_val (v:=.pointer (some ⟨d,0,none⟩)) (by simp [go_sem,ev' e19]) (hK _ _ (fun u hu=>by cases hu) (hw.step5 hd (hp 3 (by decide)) e19 (by rw [hz];decide)))
  | 6,ho,hv =>
   cases ho;cases hv;refine .inl ⟨rfl,fun done a W hz hd hp hk hw K hK=>?_⟩;obtain ⟨d,r,e19,e21,-,hdk⟩:=hw.three (hw.o5 (hp 5 (by decide)));have e21:=e21 (hp 5 (by decide));exact op_val (v:=.pointer (some ⟨d,31,none⟩)) (by simp [go_sem,ev' e21]) (hK _ _ (fun u hu=>by cases hu) (hw.step6 hd (hp 5 (by decide)) e21 (by rw [hz];decide)))
  | _ + 7,_,hv=>cases hv
 intro done us W hus hd hw;obtain ⟨x1,x2,x3,x4,rfl⟩:=list4 hus;obtain ⟨d,r,e19,e21,e22,hdk⟩:=hw.three (hd 3 (by decide));have e22:=e22 (hd 6 (by decide));have e22':x4 = .pointer (some ⟨d,31,none⟩):=by simpa [fill,putAll,Act.put,Act.eval] using e22
 subst e22';have z0:=HHD.out W d r hdk;have z1:=hdk.lt;have HA:=Lib.hid hw.aft;clear hw hd hus hdk e19 e21 e22 HHD;simp only [fill,List.drop_succ_cons,List.drop_zero,List.zip_cons_cons,List.zip_nil_right,putAll];simp only [Act.put,List.setIfInBounds_toArray,List.set]
 have hwb:winB C.strikes N q l = (((award C.strikes noS N (begF (refL l)) (q:Nat):Nat):Int) == 1):=by
  unfold winB;by_cases h:award C.strikes noS N (begF (refL l)) (q:Nat) = 1
  ·rw [h];rfl
  ·rw [decide_eq_false h,(beq_eq_false_iff_ne.2 (fun e=>h (Int.ofNat.inj e)):(((award C.strikes noS N (begF (refL l)) (q:Nat):Nat):Int) == 1) = false)]
 generalize award C.strikes noS N (begF (refL l)) (q:Nat) = V at *;have HGW:=Lib.hid (HG.out.later HA.out);cases hwin:winB C.strikes N q l
 ·have t1:=hwb.symm.trans hwin;clear hwb;go_wp2_with fail
  refine bodyPost_ret (v:=.tuple #[]) (by simp [results,Tryz.results60,go_sem]) rfl ?_;have hT:none = T:=by rw [<- HT.out,hwin,if_neg (by decide)]
  subst hT;exact ⟨⟨_,rfl⟩,HGW.out,Kq.of_aft HA.out⟩
 ·have t1:=hwb.symm.trans hwin;clear hwb;go_wp2_with (go_at_call 63;refine (HCL.out _ HA.out).mono ?_;rintro e w8 ⟨v,rfl,hv,ha⟩;obtain ⟨A8,c8,rfl,_,_⟩:=own_ints hv (by omega);have HV:=Lib.hid hv;have HA8:=Lib.hid ha;obtain ⟨u0,y0,-⟩:=(HGW.out.later ha).b0;have y1:=(HGW.out.later ha).b1;have y2:=y0.cell 0;have y3:=y0.frozen 0;have y4:=y0.lt;have y5:=y1.cell 0;have y6:=y1.frozen 0;have y7:=y1.lt;clear hv ha y0 y1)
  refine bodyPost_ret (v:=.tuple #[]) (by simp [results,Tryz.results60,go_sem]) rfl ?_;have hT:some l = T:=by rw [<- HT.out,hwin,if_pos rfl]
  subst hT;have hb2:b + 2 <= W.heap.size:=by have:=HA.out.size;omega
  obtain ⟨p1,p2⟩:=FI.put (HGW.out.later HA8.out) (World.ownsRow.mono HV.out hb2);exact ⟨⟨_,rfl⟩,p1,(Kq.of_aft (HA.out.trans HA8.out)).trans p2⟩
set_option maxRecDepth 100000 in
set_option maxHeartbeats 2000000 in
theorem few_end (w:World) (b bC bQ N q:Nat) (C:CaseL) (a1 a2:Option Addr) (c1 c2:Nat) (hok:CaseOk C) (hN:C.claims = N) (hq:q < N) (n m:Nat) (l:List Int) (lv:Value) (W:World) (hl:∀ x ∈ l,0 <= x /\ x < N) (hll:l.length <= n) (hnN:n <= N) (hm:m <= 1000) (hrow:W.ownsRow (b + 2) 3 1 lv l.length (l.map (Value.int .i64))) (hm0:0 < m) (hnN0:N = n) (hG:FI w b bC bQ C a1 a2 c1 c2 q none W) :
  Calls Tryz.prog 60 #[.int .i64 n,.int .i64 m,lv,.pointer (some ⟨b + 1,0,none⟩),.pointer (some ⟨bC,0,none⟩),.pointer (some ⟨bQ,0,none⟩),.pointer (some ⟨b,0,none⟩),.pointer (some ⟨b + 1 + 1,0,none⟩)] W (FewR w b bC bQ C a1 a2 c1 c2 q (none) W):=by
 obtain ⟨A,c,rfl,_,hA⟩:=own_ints hrow (by have:=hok.n2;omega);have k1:W.cell? ⟨b + 1,0,none⟩ = some (.bool false):=hG.b1.cell 0;have l1:=hG.b1.lt;have k2:W.cell? ⟨bC,0,none⟩ = some (.int .i64 N):=by rw [<- hN];exact (hG.bc.aft hG.aft).cell 0
 have l2:=(hG.bc.aft hG.aft).lt;have t1:((m:Int) == 0) = false:=beq_eq_false_iff_ne.2 (by omega);have t2:decide (n < N) = false:=by simp;omega
 have hn14:n <= 14:=by have:=hok.n2;omega
 have HG:=Lib.hid hG;clear hG hrow hl hok hN hnN0 hnN hm0;go_enter Tryz.func60,Tryz.ntmps60;go_wp2_with fail
 refine bodyPost_ret (v:=.tuple #[]) (by simp [results,Tryz.results60,go_sem]) rfl ?_;exact ⟨⟨_,rfl⟩,HG.out,Kq.refl _ _⟩
set_option maxRecDepth 100000 in
set_option maxHeartbeats 8000000 in
theorem few_step (w:World) (b bC bQ N q:Nat) (C:CaseL) (a1 a2:Option Addr) (c1 c2:Nat) (hok:CaseOk C) (hN:C.claims = N) (hq:q < N) (n m:Nat) (l:List Int) (lv:Value) (Wy:World) (hl:∀ x ∈ l,0 <= x /\ x < N) (hll:l.length <= n) (hnN:n <= N) (hm:m <= 1000) (hrow:Wy.ownsRow (b + 2) 3 1 lv l.length (l.map (Value.int .i64))) (hm0:0 < m) (hnN0:n < N) (hG:FI w b bC bQ C a1 a2 c1 c2 q none Wy) (T:Nat -> List Int -> Option (List Int))
  (IH:∀ (m':Nat) (l':List Int) (lv':Value) (X':Option (List Int)) (W':World),(∀ x ∈ l',0 <= x /\ x < N) -> l'.length <= n + 1 -> m' <= 1000 -> W'.ownsRow (b + 2) 3 1 lv' l'.length (l'.map (Value.int .i64)) -> FI w b bC bQ C a1 a2 c1 c2 q X' W' -> Calls Tryz.prog 60 #[.int .i64 ((n:Int) + 1),.int .i64 m',lv',.pointer (some ⟨b + 1,0,none⟩),.pointer (some ⟨bC,0,none⟩),.pointer (some ⟨bQ,0,none⟩),.pointer (some ⟨b,0,none⟩),.pointer (some ⟨b + 1 + 1,0,none⟩)] W' (FewR w b bC bQ C a1 a2 c1 c2 q (X'.or (T m' l')) W')) :
  Calls Tryz.prog 60 #[.int .i64 n,.int .i64 m,lv,.pointer (some ⟨b + 1,0,none⟩),.pointer (some ⟨bC,0,none⟩),.pointer (some ⟨bQ,0,none⟩),.pointer (some ⟨b,0,none⟩),.pointer (some ⟨b + 1 + 1,0,none⟩)] Wy (FewR w b bC bQ C a1 a2 c1 c2 q ((if (n:Int) ≠ q then T (m - 1) (l ++ [(n:Int)]) else none).or (T m l)) Wy):=by
 obtain ⟨R,hR⟩:∃ R,(if (n:Int) ≠ q then T (m - 1) (l ++ [(n:Int)]) else none).or (T m l) = R:=⟨_,rfl⟩;rw [hR];have HR:=Lib.hid hR;clear hR;have HIH:=Lib.hid IH;clear IH;obtain ⟨A,c,rfl,_,hA⟩:=own_ints hrow (by have:=hok.n2;omega);have k1:Wy.cell? ⟨b + 1,0,none⟩ = some (.bool false):=hG.b1.cell 0;have l1:=hG.b1.lt;have k2:Wy.cell? ⟨bC,0,none⟩ = some (.int .i64 N):=by rw [<- hN];exact (hG.bc.aft hG.aft).cell 0
 have l2:=(hG.bc.aft hG.aft).lt;have k3:Wy.cell? ⟨bQ,0,none⟩ = some (.int .i64 q):=(hG.bq.aft hG.aft).cell 0;have l3:=(hG.bq.aft hG.aft).lt;have t1:((m:Int) == 0) = false:=beq_eq_false_iff_ne.2 (by omega);have t2:decide (n < N) = true:=by simp;omega
 have hn14:n < 14:=by have:=hok.n2;omega
 have HG:=Lib.hid hG;have HROW:=Lib.hid hrow;have HAI:=Lib.hid hA;have HLL:=Lib.hid hl;have hge:=hG.ge;have hsz:=hG.b2.lt;clear hG hrow hl hok hN hnN hA;have HC7:Hid (∀ Wy',Aft Wy Wy' -> Wy'.cell? ⟨b + 1 + 1,0,none⟩ = some (.func (.func 60) #[] #[.pointer (some ⟨b + 1,0,none⟩),.pointer (some ⟨bC,0,none⟩),.pointer (some ⟨bQ,0,none⟩),.pointer (some ⟨b,0,none⟩),.pointer (some ⟨b + 1 + 1,0,none⟩)])):=Lib.hid fun Wy' h=>(HG.out.b2.aft h).cell 0
 have HCL:Hid (∀ Wy',Aft Wy Wy' -> Calls Tryz.prog 63 #[.slice A l.length c] Wy' (OwnInts Wy' l)):=Lib.hid fun Wy' h=>clone84 A l c Wy' (HAI.out.aft h)
 by_cases hnq:n = q
 ·have t3:((n:Int) != (q:Int)) = false:=by subst hnq;simp
  have HNQ:=Lib.hid hnq;clear hnq;have z1:=HC7.out Wy (Aft.refl _);have HI:=Lib.hid (HIH.out m l _ none Wy HLL.out (by omega) hm HROW.out HG.out);go_enter Tryz.func60,Tryz.ntmps60;go_wp2_with (go_at_call 60;refine HI.out.mono ?_;rintro e w9 ⟨⟨v9,rfl⟩,hg9,hk9⟩;have HG9:=Lib.hid hg9;have HK9:=Lib.hid hk9;clear hg9 hk9)
  refine bodyPost_ret (v:=.tuple #[]) (by simp [results,Tryz.results60,go_sem]) rfl ?_;have eT:none.or (T m l) = R:=by rw [<- HR.out,if_neg (by rw [HNQ.out];simp)]
  rw [<- eT];exact ⟨⟨_,rfl⟩,HG9.out,HK9.out⟩
 ·have t3:((n:Int) != (q:Int)) = true:=by simp;omega
  have HNQ:=Lib.hid (show (n:Int) ≠ q by omega);clear hnq;go_enter Tryz.func60,Tryz.ntmps60;go_upto_region 6 with (fail)
  refine wp_region_valsU (by kernel_rfl) 10 53 rfl (by kernel_rfl) (by kernel_rfl) [some (.func (.func 60) #[] #[.pointer (some ⟨b + 1,0,none⟩),.pointer (some ⟨bC,0,none⟩),.pointer (some ⟨bQ,0,none⟩),.pointer (some ⟨b,0,none⟩),.pointer (some ⟨b + 1 + 1,0,none⟩)]),some (.int .i64 n),some (.int .i64 ((n:Int) + 1)),some (.int .i64 m),some (.int .i64 ((m - 1:Nat):Int)),some (.slice A l.length c),none,some (.int .i64 n),none,none] (by kernel_rfl) rfl (Tri Wy l n 6 8 9 42 44 45) (Tri.start) ?st2 ?fi2
  case st2 =>
   intro i o v ho hv
   match i,ho,hv with
   | 0,ho,hv =>
    cases ho;cases hv;refine .inl ⟨rfl,fun done a W hz hd hp hk hw K hK=>?_⟩;have e7:=hk.s 7;exact op_val (v:=.func (.func 60) #[] #[.pointer (some ⟨b + 1,0,none⟩),.pointer (some ⟨bC,0,none⟩),.pointer (some ⟨bQ,0,none⟩),.pointer (some ⟨b,0,none⟩),.pointer (some ⟨b + 1 + 1,0,none⟩)]) (by simp [go_sem,ev' e7,HC7.out W hw.aft]) (hK _ _ (fun u hu=>by cases hu;rfl) (hw.keep (Aft.refl _) (by decide) (by decide)))
   | 1,ho,hv =>
    cases ho;cases hv;refine .inl ⟨rfl,fun done a W hz hd hp hk hw K hK=>?_⟩;have e0:=hk.s 0;exact op_val (v:=.int .i64 n) (by simp [go_sem,ev' e0]) (hK _ _ (fun u hu=>by cases hu;rfl) (hw.keep (Aft.refl _) (by decide) (by decide)))
   | 2,ho,hv =>
    cases ho;cases hv;refine .inl ⟨rfl,fun done a W hz hd hp hk hw K hK=>?_⟩;have e37:=hk.t 1;refine op_val (v:=.int .i64 ((n:Int) + 1)) ?_ (hK _ _ (fun u hu=>by cases hu;rfl) (hw.keep (Aft.refl _) (by decide) (by decide)));simp [go_sem,ev' e37];rw [IntKind.wrap_i64];omega
   | 3,ho,hv =>
    cases ho;cases hv;refine .inl ⟨rfl,fun done a W hz hd hp hk hw K hK=>?_⟩;have e1:=hk.s 1;exact op_val (v:=.int .i64 m) (by simp [go_sem,ev' e1]) (hK _ _ (fun u hu=>by cases hu;rfl) (hw.keep (Aft.refl _) (by decide) (by decide)))
   | 4,ho,hv =>
    cases ho;cases hv;refine .inl ⟨rfl,fun done a W hz hd hp hk hw K hK=>?_⟩;have e39:=hk.t 3;refine op_val (v:=.int .i64 ((m - 1:Nat):Int)) ?_ (hK _ _ (fun u hu=>by cases hu;rfl) (hw.keep (Aft.refl _) (by decide) (by decide)));simp [go_sem,ev' e39];rw [IntKind.wrap_i64];omega
   | 5,ho,hv =>
    cases ho;cases hv;refine .inl ⟨rfl,fun done a W hz hd hp hk hw K hK=>?_⟩;have e2:=hk.s 2;exact op_val (v:=.slice A l.length c) (by simp [go_sem,ev' e2]) (hK _ _ (fun u hu=>by cases hu;rfl) (hw.keep (Aft.refl _) (by decide) (by decide)))
   | 6,ho,hv =>
    cases ho;cases hv;refine .inl ⟨rfl,fun done a W hz hd hp hk hw K hK=>?_⟩;have e41:=hk.t 5;refine op_callN rfl rfl rfl _ rfl (vs:=#[.slice A l.length c]) (by simp [e41]) (HCL.out W hw.aft) fun e w' h=>?_
    obtain ⟨v1,rfl,hrow,ha⟩:=h;exact ⟨v1,rfl,hK _ _ (fun u hu=>by cases hu) (hw.stepA hd ha hrow (by rw [hz];decide) (by decide) (by decide))⟩
   | 7,ho,hv =>
    cases ho;cases hv;refine .inl ⟨rfl,fun done a W hz hd hp hk hw K hK=>?_⟩;have e0:=hk.s 0;exact op_val (v:=.int .i64 n) (by simp [go_sem,ev' e0]) (hK _ _ (fun u hu=>by cases hu;rfl) (hw.keep (Aft.refl _) (by decide) (by decide)))
   | 8,ho,hv =>
    cases ho;cases hv;refine .inl ⟨rfl,fun done a W hz hd hp hk hw K hK=>?_⟩;have e43:=hk.t 7;exact op_valW (w':=W.alloc (.cells #[.int .i64 n] 3)) (v:=.slice (some ⟨W.heap.size,0,none⟩) 1 1) (by simp [go_sem,ev' e43]) (hK _ _ (fun u hu=>by cases hu) (hw.stepB hd (by rw [hz];decide) (by decide) (by decide)))
   | 9,ho,hv =>
    cases ho;cases hv;refine .inl ⟨rfl,fun done a W hz hd hp hk hw K hK=>?_⟩;exact hw.stepC (hp 6 (by decide)) (hp 8 (by decide)) hd (by decide) rfl rfl (by rw [hz];decide) (by omega) (fun y w' hy=>hK _ _ (fun u hu=>by cases hu) hy)
   | _ + 10,_,hv=>cases hv
  intro done us W hus hd hw;obtain ⟨x1,x2,x3,rfl⟩:=list3 hus
  have hrow3:W.ownsRow Wy.heap.size 3 1 x3 (l ++ [(n:Int)]).length ((l ++ [(n:Int)]).map (Value.int .i64)):=by
   have:=hw.rowC (hd 9 (by decide));simpa [fill,putAll,Act.put,Act.eval] using this
  have HA:=Lib.hid hw.aft;obtain ⟨l2,hl2⟩:∃ l2,l ++ [(n:Int)] = l2:=⟨_,rfl⟩;have hlen2:l2.length <= n + 1:=by rw [<- hl2];simp;omega
  have HLN2:Hid (∀ x ∈ l2,0 <= x /\ x < N):=Lib.hid fun x hx=>by
   rw [<- hl2] at hx;rcases List.mem_append.1 hx with h | h
   ·exact HLL.out x h
   ·rw [List.mem_singleton] at h;omega
  rw [hl2] at hrow3;have HL2:=Lib.hid hl2;clear hl2;obtain ⟨A3,c3,rfl,_,_⟩:=own_ints hrow3 (by omega);have HI1:=Lib.hid (HIH.out (m - 1) l2 _ none W HLN2.out hlen2 (by omega) (World.ownsRow.mono hrow3 (by omega)) (HG.out.later HA.out));clear hw hd hus hrow3;simp only [fill,List.drop_succ_cons,List.drop_zero,List.zip_cons_cons,List.zip_nil_right,putAll];simp only [Act.put,List.setIfInBounds_toArray,List.set];go_upto_region 7 with (go_at_call 60;refine HI1.out.mono ?_;rintro e w8 ⟨⟨v8,rfl⟩,hg8,hk8⟩;have HG8:=Lib.hid hg8;have HK8:=Lib.hid ((Kq.of_aft HA.out).trans hk8);clear hg8 hk8)
  have z1:w8.cell? ⟨b + 1 + 1,0,none⟩ = some (.func (.func 60) #[] #[.pointer (some ⟨b + 1,0,none⟩),.pointer (some ⟨bC,0,none⟩),.pointer (some ⟨bQ,0,none⟩),.pointer (some ⟨b,0,none⟩),.pointer (some ⟨b + 1 + 1,0,none⟩)]):=HG8.out.b2.cell 0;have z2:=HG8.out.b2.lt;have HI2:=Lib.hid (HIH.out m l (.slice A l.length c) _ w8 HLL.out (by omega) hm (own_kq HROW.out HK8.out) HG8.out);go_wp2_with (go_at_call 60;refine HI2.out.mono ?_;rintro e w9 ⟨⟨v9,rfl⟩,hg9,hk9⟩;have HG9:=Lib.hid hg9;have HK9:=Lib.hid hk9;clear hg9 hk9)
  refine bodyPost_ret (v:=.tuple #[]) (by simp [results,Tryz.results60,go_sem]) rfl ?_;have eT:(none.or (T (m - 1) l2)).or (T m l) = R:=by rw [<- HR.out,if_pos HNQ.out,HL2.out,Option.none_or]
  rw [<- eT];exact ⟨⟨_,rfl⟩,HG9.out,HK8.out.trans HK9.out⟩
theorem few_any (w:World) (b bC bQ N q:Nat) (C:CaseL) (a1 a2:Option Addr) (c1 c2:Nat) (hok:CaseOk C) (hN:C.claims = N) (hq:q < N):∀ (k n m:Nat) (l:List Int) (lv:Value) (X:Option (List Int)) (W:World),n + k = N -> (∀ x ∈ l,0 <= x /\ x < N) -> l.length <= n -> m <= 1000 -> W.ownsRow (b + 2) 3 1 lv l.length (l.map (Value.int .i64)) -> FI w b bC bQ C a1 a2 c1 c2 q X W ->
  Calls Tryz.prog 60 #[.int .i64 n,.int .i64 m,lv,.pointer (some ⟨b + 1,0,none⟩),.pointer (some ⟨bC,0,none⟩),.pointer (some ⟨bQ,0,none⟩),.pointer (some ⟨b,0,none⟩),.pointer (some ⟨b + 1 + 1,0,none⟩)] W (FewR w b bC bQ C a1 a2 c1 c2 q (X.or (tryW C.strikes N q k n m l)) W)
 | k,n,m,l,lv,some L,W,hn,hl,hll,hm,hrow,hG=>few_met w b bC bQ N q C a1 a2 c1 c2 hok hN hq n m l lv W hl hll (by omega) hm hrow L hG
 | k,n,0,l,lv,none,W,hn,hl,hll,hm,hrow,hG=>by
  rw [Option.none_or,Court.tryW_zero];exact few_zero w b bC bQ N q C a1 a2 c1 c2 hok hN hq n 0 l lv W hl hll (by omega) hm hrow rfl hG
 | 0,n,m + 1,l,lv,none,W,hn,hl,hll,hm,hrow,hG=>by
  rw [Option.none_or,Court.tryW_end];exact few_end w b bC bQ N q C a1 a2 c1 c2 hok hN hq n (m + 1) l lv W hl hll (by omega) hm hrow (by omega) (by omega) hG
 | k + 1,n,m + 1,l,lv,none,W,hn,hl,hll,hm,hrow,hG=>by
  rw [Option.none_or,Court.tryW_step];refine few_step w b bC bQ N q C a1 a2 c1 c2 hok hN hq n (m + 1) l lv W hl hll (by omega) hm hrow (by omega) (by omega) hG (fun m' l'=>tryW C.strikes N q k (n + 1) m' l') fun m' l' lv' X' W' h1 h2 h3 h4 h5=>?_
  have h:=few_any w b bC bQ N q C a1 a2 c1 c2 hok hN hq k (n + 1) m' l' lv' X' W' (by omega) h1 h2 h3 h4 h5;rw [show ((n:Int) + 1) = ((n + 1:Nat):Int) by omega];exact h
end Go.Proofs
end
section
/- Walks: Made. -/
namespace Go.Proofs
open Go.RowKit
attribute [local go_sem] Oper.semAt_some
theorem info25b:(Tryz.prog.info? 25).map (·.size) = some 3:=by kernel_rfl
end Go.Proofs
end
section
/- Walks: Decides. -/
namespace Go.Proofs
open Go.RowKit
open Court (refL begF noS award)
attribute [local go_sem] Oper.semAt_some
def decidingE (C:CaseL) (n:Int):Int:=if caseE C = 0 then (if fromB n 0 ((C.surveys.length:Int) - 1) then 0 else 2) else caseE C
set_option maxRecDepth 100000 in
set_option maxHeartbeats 2000000 in
theorem decides15_bad (C:CaseL) (a1 a2:Option Addr) (c1 c2:Nat) (n:Int) (w:World) (hC:CRep w C a1 a2) (he:decidingE C n ≠ 0) :
  Calls Tryz.prog 15 #[(.agg #[.int .i64 C.claims,.slice a1 C.strikes.length c1,.slice a2 C.surveys.length c2]),.int .i64 n] w (BadS (decidingE C n) w):=by
 have H0:=Lib.hid (Aft.alloc w (.cells #[.int .i64 C.claims,.slice a1 C.strikes.length c1,.slice a2 C.surveys.length c2] 25));have HB:=Lib.hid (Blk.new w 25 #[.int .i64 C.claims,.slice a1 C.strikes.length c1,.slice a2 C.surveys.length c2]);have H1:Hid (∀ W,Aft w W -> Calls Tryz.prog 34 #[(.agg #[.int .i64 C.claims,.slice a1 C.strikes.length c1,.slice a2 C.surveys.length c2])] W fun e w'=>e = .returned (.int .i64 (caseE C)) /\ Aft W w'):=Lib.hid fun W h=>check_any C a1 a2 c1 c2 W (hC.aft h)
 have hlen:=hC.surveys.len;unfold BadS;unfold decidingE at he ⊢;by_cases h1:caseE C = 0
 ·rw [if_pos h1] at he ⊢
  have h2:fromB n 0 ((C.surveys.length:Int) - 1) = false:=by
   cases h:fromB n 0 ((C.surveys.length:Int) - 1)
   ·rfl
   ·rw [h] at he;exact absurd rfl he
  have H2:Hid (∀ W,Calls Tryz.prog 54 #[.int .i64 n,.int .i64 0,.int .i64 ((C.surveys.length:Int) - 1)] W fun e w'=>e = .returned (.bool false) /\ w = w):=Lib.hid fun W=>(from_any n 0 ((C.surveys.length:Int) - 1) W).mono fun e w' ⟨h,h'⟩=>⟨by rw [h];exact ret_bool h2,rfl⟩
  have H3:Hid (∀ W,Calls Tryz.prog 54 #[.int .i64 n,.int .i64 0,.int .i64 ((C.surveys.length:Int) - 1)] W fun e w'=>e = .returned (.bool false) /\ Aft W w'):=Lib.hid fun W=>(from_any n 0 ((C.surveys.length:Int) - 1) W).mono fun e w' ⟨h,h'⟩=>⟨by rw [h];exact ret_bool h2,by first | exact h' | (subst h';exact Aft.refl _)⟩
  rw [h2,if_neg (by decide)];rw [h1] at H1;clear hC he h1 h2 H2;go_enter Tryz.func15,Tryz.ntmps15;go_wp2_with (first | (go_at_call 34;refine (H1.out _ H0.out).mono ?_;rintro e w1 ⟨rfl,ha1⟩;have HA1:=Lib.hid ha1;obtain ⟨k0,k1,k2⟩:=box25 (HB.out.aft ha1);have hlt:=(HB.out.aft ha1).lt;clear ha1) | (go_at_call 54;refine (H3.out _).mono ?_;rintro e w2 ⟨rfl,ha2⟩;have HA2:=Lib.hid ha2;clear ha2))
  go_ret2;exact ⟨rfl,(H0.out.trans HA1.out).trans HA2.out⟩
 ·rw [if_neg h1] at he ⊢;have t1:(caseE C != 0) = true:=by simpa using he
  clear hC he h1;generalize caseE C = E at *;go_enter Tryz.func15,Tryz.ntmps15;go_wp2_with (go_at_call 34;refine (H1.out _ H0.out).mono ?_;rintro e w1 ⟨rfl,ha1⟩;have HA1:=Lib.hid ha1;clear ha1)
  go_ret2;exact ⟨rfl,H0.out.trans HA1.out⟩
set_option maxRecDepth 100000 in
set_option maxHeartbeats 2000000 in
theorem decides15_good (C:CaseL) (a1 a2:Option Addr) (c1 c2:Nat) (n:Nat) (w:World) (hC:CRep w C a1 a2) (he:decidingE C n = 0) :
  Calls Tryz.prog 15 #[(.agg #[.int .i64 C.claims,.slice a1 C.strikes.length c1,.slice a2 C.surveys.length c2]),.int .i64 n] w (GoodI (idxL (fun (i:Nat)=>decidesB C n i) 14) w):=by
 have H0:=Lib.hid (Aft.alloc w (.cells #[.int .i64 C.claims,.slice a1 C.strikes.length c1,.slice a2 C.surveys.length c2] 25));have HB:=Lib.hid (Blk.new w 25 #[.int .i64 C.claims,.slice a1 C.strikes.length c1,.slice a2 C.surveys.length c2]);unfold decidingE at he
 have h1:caseE C = 0:=by
  by_cases h1:caseE C = 0
  ·exact h1
  ·rw [if_neg h1] at he;exact he
 rw [if_pos h1] at he
 have h2:fromB n 0 ((C.surveys.length:Int) - 1) = true:=by
  cases h:fromB n 0 ((C.surveys.length:Int) - 1)
  ·rw [h] at he;cases he
  ·rfl
 have hns:n < C.surveys.length:=by have:=fromB_iff.1 h2;omega
 have hlen:=hC.surveys.len
 have H1:Hid (∀ W,Aft w W -> Calls Tryz.prog 34 #[(.agg #[.int .i64 C.claims,.slice a1 C.strikes.length c1,.slice a2 C.surveys.length c2])] W fun e w'=>e = .returned (.int .i64 0) /\ Aft W w'):=Lib.hid fun W h=>by
  have:=check_any C a1 a2 c1 c2 W (hC.aft h)
  rwa [h1] at this
 have H2:Hid (∀ W,Calls Tryz.prog 54 #[.int .i64 n,.int .i64 0,.int .i64 ((C.surveys.length:Int) - 1)] W fun e w'=>e = .returned (.bool true) /\ Aft W w'):=Lib.hid fun W=>(from_any n 0 ((C.surveys.length:Int) - 1) W).mono fun e w' ⟨h,h'⟩=>⟨by rw [h];exact ret_bool h2,by first | exact h' | (subst h';exact Aft.refl _)⟩
 have H3:Hid (∀ W A c,Aft w W -> Ints W A C.surveys[n] -> Calls Tryz.prog 55 #[(.agg #[.int .i64 C.claims,.slice a1 C.strikes.length c1,.slice a2 C.surveys.length c2]),.slice A C.surveys[n].length c] W fun e w'=>e = .returned (.agg (mk (decT C C.surveys[n] C.claims.toNat (2 ^ C.surveys[n].length)))) /\ Aft W w'):=Lib.hid fun W A c h hA=>decides_of C a1 a2 c1 c2 h1 C.surveys[n] (List.getElem_mem hns) A c W (hC.aft h) hA
 have hPI:∀ i:Nat,decidesB C n i = decT C C.surveys[n] C.claims.toNat (2 ^ C.surveys[n].length) i:=fun i=>by
  unfold decidesB;rw [List.getD_eq_getElem?_getD,List.getElem?_eq_getElem hns];rfl
 have HL:=Lib.hid hC.surveys;unfold GoodI;obtain ⟨l,hl⟩:∃ l,C.surveys[n] = l:=⟨_,rfl⟩;rw [hl] at H3 hPI;obtain ⟨T,hT⟩:∃ T,decT C l C.claims.toNat (2 ^ l.length) = T:=⟨_,rfl⟩;rw [hT] at H3 hPI;have e:(fun (i:Nat)=>decidesB C n i) = fun (i:Nat)=>T i:=by funext i;exact hPI i
 rw [e];have HLL:=Lib.hid (show ∀ h:n < C.surveys.length,C.surveys[n] = l from fun _=>hl);have HNS:=Lib.hid hns;have hnl:(0:Int) <= (n:Int) /\ (n:Int) < (C.surveys.length:Int):=by omega
 clear hC he h1 h2 hl hT hPI e hns;go_enter Tryz.func15,Tryz.ntmps15;go_upto_region 7 with (first | (go_at_call 34;refine (H1.out _ H0.out).mono ?_;rintro e w1 ⟨rfl,ha1⟩;have HA1:=Lib.hid ha1;obtain ⟨k0,k1,k2⟩:=box25 (HB.out.aft ha1);have hlt:=(HB.out.aft ha1).lt;clear ha1) | (go_at_call 54;refine (H2.out _).mono ?_;rintro e w2 ⟨rfl,ha2⟩;have HA2:=Lib.hid (HA1.out.trans ha2);clear ha2))
 clear k0 k1 k2 hlt;have HAW:=Lib.hid (H0.out.trans HA2.out);obtain ⟨b9,o9,hb9e,hb9,-⟩:=(HL.out.aft HAW.out).at HNS.out;subst hb9e;have HB2:=Lib.hid (HB.out.aft HA2.out);generalize w.heap.size = S at *
 have HX:Hid (∀ W,Aft w2 W -> ∃ A3 c3,W.cell? ⟨b9,o9 + n,none⟩ = some (.slice A3 l.length c3) /\ Ints W A3 l):=Lib.hid fun W h=>by
  obtain ⟨b',o',e',hb',hc'⟩:=(HL.out.aft (HAW.out.trans h)).at HNS.out;cases e';obtain ⟨A3,c3,h1,h2⟩:=hc' n HNS.out;rw [HLL.out HNS.out] at h1 h2;exact ⟨A3,c3,h1,h2⟩
 obtain ⟨A3,c3,x0,hi3⟩:=HX.out w2 (Aft.refl _);have HI3:=Lib.hid hi3;have HX0:=Lib.hid x0;clear x0 hi3 HX;have HK0:=Lib.hid (fun W (h:Aft w2 W)=>box25 (HB2.out.aft h));have HKB:=Lib.hid (fun W (h:Aft w2 W)=>(HB2.out.aft h).lt);have HKX:Hid (∀ W,Aft w2 W -> W.cell? ⟨b9,o9 + n,none⟩ = some (.slice A3 l.length c3)):=Lib.hid fun W h=>cell_aft HX0.out hb9 h
 refine wp_region_valsG (by kernel_rfl) 42 rfl (by kernel_rfl) (by kernel_rfl) [(.agg #[.int .i64 C.claims,.slice a1 C.strikes.length c1,.slice (some ⟨b9,o9,none⟩) C.surveys.length c2]),.pointer (some ⟨S,2,none⟩),.slice (some ⟨b9,o9,none⟩) C.surveys.length c2,.int .i64 n,.pointer (some ⟨b9,o9 + n,none⟩),.slice A3 l.length c3,.agg (mk T),.int .i64 0] rfl (fun W=>Aft w2 W) (Aft.drew _) ?st1 ?fi1
 case st1 =>
  intro i o v ho hv
  match i,ho,hv with
  | 0,ho,hv =>
   cases ho;cases hv;refine .inl ⟨rfl,fun a W hk hw K hK=>?_⟩;have e2:=hk.s 2;obtain ⟨j0,j1,j2⟩:=HK0.out W hw;exact op_val (v:=(.agg #[.int .i64 C.claims,.slice a1 C.strikes.length c1,.slice (some ⟨b9,o9,none⟩) C.surveys.length c2])) (by simp [go_sem,ev' e2,j0,j1,j2]) (hK _ hw)
  | 1,ho,hv =>
   cases ho;cases hv;refine .inl ⟨rfl,fun a W hk hw K hK=>?_⟩;have e2:=hk.s 2;exact op_val (by simp [go_sem,ev' e2]) (hK _ hw)
  | 2,ho,hv =>
   cases ho;cases hv;refine .inl ⟨rfl,fun a W hk hw K hK=>?_⟩;have e25:=hk.t 1;exact op_val (by simp [go_sem,ev' e25,(HK0.out W hw).2.2]) (hK _ hw)
  | 3,ho,hv =>
   cases ho;cases hv;refine .inl ⟨rfl,fun a W hk hw K hK=>?_⟩;have e1:=hk.s 1;exact op_val (by simp [go_sem,ev' e1]) (hK _ hw)
  | 4,ho,hv =>
   cases ho;cases hv;refine .inl ⟨rfl,fun a W hk hw K hK=>?_⟩;have e26:=hk.t 2;have e27:=hk.t 3;exact op_val (by simp [go_sem,ev' e26,ev' e27,hnl]) (hK _ hw)
  | 5,ho,hv =>
   cases ho;cases hv;refine .inl ⟨rfl,fun a W hk hw K hK=>?_⟩;have e28:=hk.t 4;exact op_val (by simp [go_sem,ev' e28,HKX.out W hw]) (hK _ hw)
  | 6,ho,hv =>
   cases ho;cases hv;refine .inl ⟨rfl,fun a W hk hw K hK=>?_⟩;have e24:=hk.t 0;have e29:=hk.t 5;refine op_callN rfl rfl rfl _ rfl (vs:=#[(.agg #[.int .i64 C.claims,.slice a1 C.strikes.length c1,.slice (some ⟨b9,o9,none⟩) C.surveys.length c2]),.slice A3 l.length c3]) (by simp [e24,e29]) (H3.out W A3 c3 (HAW.out.trans hw) (HI3.out.aft hw)) fun e w' h=>?_
   obtain ⟨rfl,ha⟩:=h;exact ⟨_,rfl,hK _ (hw.trans ha)⟩
  | 7,ho,hv =>
   cases ho;cases hv;refine .inl ⟨rfl,fun a W hk hw K hK=>?_⟩;exact op_val (by simp [go_sem]) (hK _ hw)
  | _ + 8,_,hv=>cases hv
 intro W hw;simp only [List.drop_succ_cons,List.drop_zero,List.zip_cons_cons,List.zip_nil_right,putAll];simp only [Act.put,List.setIfInBounds_toArray,List.set];have HAX:=Lib.hid hw;clear hw;have HN0:=Lib.hid (World.ownsRow_nil W W.heap.size 3 1);go_upto_block 1 with (fail)
 refine wp_block ?_;go_loopw [7,31] (fun v i wr=>∃ k:Nat,i = .int .i64 k /\ k <= 14 /\ wr.ownsRow W.heap.size 3 1 v (idxL (fun i=>T i) k).length ((idxL (fun i=>T i) k).map (Value.int .i64)) /\ Aft W wr) (fun _ i _=>14 - (intOf i).toNat)
 case atStart=>exact ⟨0,rfl,by omega,HN0.out,Aft.refl _⟩
 case round =>
  obtain ⟨k,rfl,hk,hown,haw⟩:=hrel;have HOW:=Lib.hid hown;have HAR:=Lib.hid haw;have hbase:W.heap.size <= (wr.alloc (.cells #[.int .i64 k] 3)).heap.size:=Nat.le_trans haw.size (by simp);clear hown haw;by_cases hk14:k < 14
  ·have t1:decide (k < 14) = true:=by simpa using hk14
   have HS:=Lib.hid (idxL_succ (fun i=>T i) k);have hle:=idxL_len (fun i=>T i) k;have hix:=index87_any T wr k hk14;have hi1:(0:Int) <= (k:Int) /\ (k:Int) < 14:=by omega
   cases hpk:T k
   ·rw [hpk] at hix HS;clear hpk;go_wp2_with fail
    exact ⟨⟨k + 1,by go_num,by omega,by rw [HS.out];simpa using HOW.out,HAR.out⟩,by simp [intOf];omega⟩
   ·rw [hpk] at hix HS;clear hpk;go_wp2_with (at_builtin;refine wpList_push rfl _ _ rfl (own_aft HOW.out (Aft.alloc _ _)) hbase rfl rfl (cell_new1 _ _ _) (by omega) ?_;intro v7 w7 hr7 hg7;have HR7:=Lib.hid hr7;have HG7:=Lib.hid hg7;clear hr7 hg7)
    exact ⟨⟨k + 1,by go_num,by omega,by rw [HS.out];simpa using HR7.out,(HAR.out.then_alloc _).grown HG7.out (fun g hg=>own_ge HOW.out g hg)⟩,by simp [intOf];omega⟩
  ·have t1:decide (k < 14) = false:=by simpa using hk14
   obtain rfl:k = 14:=by omega
   have hle:=idxL_len (fun i=>T i) 14;obtain ⟨A7,c7,rfl,_,hi7⟩:=own_ints HOW.out (by omega);have HI7:=Lib.hid hi7;clear hi7 hk14;go_wp2_with fail
   go_ret2;exact ⟨A7,c7,rfl,HI7.out,(HAW.out.trans HAX.out).trans HAR.out⟩
end Go.Proofs
end
section
/- Walks: Fewest. -/
namespace Go.Proofs
open Go.RowKit
open Court (refL begF noS award winB tryW FewIs)
attribute [local go_sem] Oper.semAt_some
def fewE (C:CaseL) (n:Int):Int:=if caseE C = 0 then (if Cl n C.claims then (if (n,n) ∈ C.strikes then 7 else 0) else 2) else caseE C
set_option maxRecDepth 100000 in
set_option maxHeartbeats 2000000 in
theorem few20_bad (C:CaseL) (a1 a2:Option Addr) (c1 c2:Nat) (n:Int) (w:World) (hC:CRep w C a1 a2) (he:fewE C n ≠ 0) :
  Calls Tryz.prog 20 #[(.agg #[.int .i64 C.claims,.slice a1 C.strikes.length c1,.slice a2 C.surveys.length c2]),.int .i64 n] w (BadS (fewE C n) w):=by
 have H0:=Lib.hid ((Aft.alloc w (.cells #[.int .i64 C.claims,.slice a1 C.strikes.length c1,.slice a2 C.surveys.length c2] 25)).then_alloc (.cells #[.int .i64 n] 3));have HB:=Lib.hid ((Blk.new w 25 #[.int .i64 C.claims,.slice a1 C.strikes.length c1,.slice a2 C.surveys.length c2]).alloc (.cells #[.int .i64 n] 3));have HQ:Hid (Blk ((w.alloc (.cells #[.int .i64 C.claims,.slice a1 C.strikes.length c1,.slice a2 C.surveys.length c2] 25)).alloc (.cells #[.int .i64 n] 3)) (w.heap.size + 1) 3 #[.int .i64 n]):=Lib.hid (by
  have:=Blk.new (w.alloc (.cells #[.int .i64 C.claims,.slice a1 C.strikes.length c1,.slice a2 C.surveys.length c2] 25)) 3 #[.int .i64 n]
  rwa [World.size_alloc] at this)
 have H1:Hid (∀ W,Aft w W -> Calls Tryz.prog 34 #[(.agg #[.int .i64 C.claims,.slice a1 C.strikes.length c1,.slice a2 C.surveys.length c2])] W fun e w'=>e = .returned (.int .i64 (caseE C)) /\ Aft W w'):=Lib.hid fun W h=>check_any C a1 a2 c1 c2 W (hC.aft h)
 have hlen:=hC.strikes.len;unfold BadS;unfold fewE at he ⊢;by_cases h1:caseE C = 0
 ·rw [if_pos h1] at he ⊢;have hok:=caseE_ok h1;have H2:Hid (∀ W,Calls Tryz.prog 59 #[(.agg #[.int .i64 C.claims,.slice a1 C.strikes.length c1,.slice a2 C.surveys.length c2]),.int .i64 n] W fun e w'=>e = .returned (.bool (!Cl n C.claims)) /\ Aft W w'):=Lib.hid fun W=>strange_any C.claims n a1 a2 C.strikes.length C.surveys.length c1 c2 W ⟨hok.n1,hok.n2⟩
  have H3:Hid (∀ W,Aft w W -> Calls Tryz.prog 45 #[.slice a1 C.strikes.length c1,.agg #[.int .i64 n,.int .i64 n]] W fun e w'=>e = .returned (.bool (decide ((n,n) ∈ C.strikes))) /\ Aft W w'):=Lib.hid fun W h=>containsS_any a1 C.strikes c1 n n W (hC.strikes.aft h)
  rw [h1] at H1;cases h2:Cl n C.claims
  ·rw [h2] at H2;rw [if_neg (by decide)];clear hC he h1 h2 H3 hok;go_enter Tryz.func20,Tryz.ntmps20;go_wp2_with (first | (go_at_call 34;refine (H1.out _ H0.out).mono ?_;rintro e w1 ⟨rfl,ha1⟩;have HA1:=Lib.hid ha1;obtain ⟨k0,k1,k2⟩:=box25 (HB.out.aft ha1);have hlt:=(HB.out.aft ha1).lt;have k3:=(HQ.out.aft ha1).cell 0;have hlt3:=(HQ.out.aft ha1).lt;clear ha1) | (go_at_call 59;refine (H2.out _).mono ?_;rintro e w2 ⟨rfl,ha2⟩;have HA2:=Lib.hid ha2;clear ha2))
   go_ret2;exact ⟨rfl,(H0.out.trans HA1.out).trans HA2.out⟩
  ·rw [h2] at H2 he;rw [if_pos rfl] at he ⊢
   have h3:(n,n) ∈ C.strikes:=by
    by_cases h:(n,n) ∈ C.strikes
    ·exact h
    ·rw [if_neg h] at he;exact absurd rfl he
   rw [if_pos h3];rw [decide_eq_true h3] at H3;clear hC he h1 h2 h3 hok;go_enter Tryz.func20,Tryz.ntmps20;go_wp2_with (first | (go_at_call 34;refine (H1.out _ H0.out).mono ?_;rintro e w1 ⟨rfl,ha1⟩;have HA1:=Lib.hid ha1;obtain ⟨k0,k1,k2⟩:=box25 (HB.out.aft ha1);have hlt:=(HB.out.aft ha1).lt;have k3:=(HQ.out.aft ha1).cell 0;have hlt3:=(HQ.out.aft ha1).lt;clear ha1) | (go_at_call 59;refine (H2.out _).mono ?_;rintro e w2 ⟨rfl,ha2⟩;have HA2:=Lib.hid (HA1.out.trans ha2);obtain ⟨j0,j1,j2⟩:=box25 (HB.out.aft HA2.out);have jlt:=(HB.out.aft HA2.out).lt;have j3:=(HQ.out.aft HA2.out).cell 0;have jlt3:=(HQ.out.aft HA2.out).lt;clear ha2 k0 k1 k2 k3 hlt hlt3) | (go_at_call 45;refine (H3.out _ (H0.out.trans HA2.out)).mono ?_;rintro e w3 ⟨rfl,ha3⟩;have HA3:=Lib.hid ha3;clear ha3))
   go_ret2;exact ⟨rfl,(H0.out.trans HA2.out).trans HA3.out⟩
 ·rw [if_neg h1] at he ⊢;have t1:(caseE C != 0) = true:=by simpa using he
  clear hC he h1;generalize caseE C = E at *;go_enter Tryz.func20,Tryz.ntmps20;go_wp2_with (go_at_call 34;refine (H1.out _ H0.out).mono ?_;rintro e w1 ⟨rfl,ha1⟩;have HA1:=Lib.hid ha1;clear ha1)
  go_ret2;exact ⟨rfl,H0.out.trans HA1.out⟩
theorem fewE_ok {C:CaseL} {n:Int} (h:fewE C n = 0):caseE C = 0 /\ Cl n C.claims = true /\ (n,n) ∉ C.strikes:=by
 unfold fewE at h;by_cases h1:caseE C = 0
 ·rw [if_pos h1] at h;cases h2:Cl n C.claims
  ·rw [h2,if_neg (by decide)] at h;cases h
  ·rw [h2,if_pos rfl] at h;by_cases h3:(n,n) ∈ C.strikes
   ·rw [if_pos h3] at h;cases h
   ·exact ⟨h1,rfl,h3⟩
 ·rw [if_neg h1] at h;exact absurd h h1
def GoodFew (C:CaseL) (n:Int) (w:World) (e:Ending) (w':World):Prop:=∃ L,FewIs C.strikes C.claims.toNat n L /\ GoodL L w e w'
set_option maxRecDepth 100000 in
set_option maxHeartbeats 4000000 in
theorem few20_good (C:CaseL) (a1 a2:Option Addr) (c1 c2:Nat) (q:Nat) (w:World) (hC:CRep w C a1 a2) (he:fewE C q = 0) :
  Calls Tryz.prog 20 #[(.agg #[.int .i64 C.claims,.slice a1 C.strikes.length c1,.slice a2 C.surveys.length c2]),.int .i64 q] w (GoodFew C q w):=by
 have H0:=Lib.hid ((Aft.alloc w (.cells #[.int .i64 C.claims,.slice a1 C.strikes.length c1,.slice a2 C.surveys.length c2] 25)).then_alloc (.cells #[.int .i64 q] 3));have HB:=Lib.hid ((Blk.new w 25 #[.int .i64 C.claims,.slice a1 C.strikes.length c1,.slice a2 C.surveys.length c2]).alloc (.cells #[.int .i64 q] 3));have HQ:Hid (Blk ((w.alloc (.cells #[.int .i64 C.claims,.slice a1 C.strikes.length c1,.slice a2 C.surveys.length c2] 25)).alloc (.cells #[.int .i64 q] 3)) (w.heap.size + 1) 3 #[.int .i64 q]):=Lib.hid (by
  have:=Blk.new (w.alloc (.cells #[.int .i64 C.claims,.slice a1 C.strikes.length c1,.slice a2 C.surveys.length c2] 25)) 3 #[.int .i64 q]
  rwa [World.size_alloc] at this)
 obtain ⟨h1,h2,h3⟩:=fewE_ok he;have hok:=caseE_ok h1;obtain ⟨N,hN⟩:∃ N:Nat,C.claims = N:=⟨C.claims.toNat,by have:=hok.n1;omega⟩;have hN14:N <= 14:=by have:=hok.n2;omega
 have hqN:q < N:=by have:=Cl_iff.1 h2;omega
 have hlen:=hC.strikes.len
 have H1:Hid (∀ W,Aft w W -> Calls Tryz.prog 34 #[(.agg #[.int .i64 C.claims,.slice a1 C.strikes.length c1,.slice a2 C.surveys.length c2])] W fun e w'=>e = .returned (.int .i64 0) /\ Aft W w'):=Lib.hid fun W h=>by
  have:=check_any C a1 a2 c1 c2 W (hC.aft h)
  rwa [h1] at this
 have H2:Hid (∀ W,Calls Tryz.prog 59 #[(.agg #[.int .i64 C.claims,.slice a1 C.strikes.length c1,.slice a2 C.surveys.length c2]),.int .i64 q] W fun e w'=>e = .returned (.bool false) /\ Aft W w'):=Lib.hid fun W=>by
  have:=strange_any C.claims q a1 a2 C.strikes.length C.surveys.length c1 c2 W ⟨hok.n1,hok.n2⟩
  rwa [h2] at this
 have H3:Hid (∀ W,Aft w W -> Calls Tryz.prog 45 #[.slice a1 C.strikes.length c1,.agg #[.int .i64 q,.int .i64 q]] W fun e w'=>e = .returned (.bool false) /\ Aft W w'):=Lib.hid fun W h=>by
  have:=containsS_any a1 C.strikes c1 q q W (hC.strikes.aft h)
  rwa [decide_eq_false h3] at this
 have HBD:Hid (∀ m,(∀ j,j < m -> tryW C.strikes N q N 0 j [] = none) -> m < N):=Lib.hid fun m h=>Court.few_bound ⟨by omega,by omega⟩ h3 (fun s hs=>by have:=(hok.ins s hs).1;omega) h
 have HOK:=Lib.hid hok;have HC:=Lib.hid hC;have HN:=Lib.hid hN;unfold GoodFew;have eN:C.claims.toNat = N:=by omega
 rw [eN];clear hC he h1 h2 h3 hok hN eN;go_enter Tryz.func20,Tryz.ntmps20;go_upto_region 8 with (first | (go_at_call 34;refine (H1.out _ H0.out).mono ?_;rintro e w1 ⟨rfl,ha1⟩;have HA1:=Lib.hid ha1;obtain ⟨k0,k1,k2⟩:=box25 (HB.out.aft ha1);have hlt:=(HB.out.aft ha1).lt;have k3:=(HQ.out.aft ha1).cell 0;have hlt3:=(HQ.out.aft ha1).lt;clear ha1) | (go_at_call 59;refine (H2.out _).mono ?_;rintro e w2 ⟨rfl,ha2⟩;have HA2:=Lib.hid (HA1.out.trans ha2);obtain ⟨j0,j1,j2⟩:=box25 (HB.out.aft HA2.out);have jlt:=(HB.out.aft HA2.out).lt;have j3:=(HQ.out.aft HA2.out).cell 0;have jlt3:=(HQ.out.aft HA2.out).lt;clear ha2 k0 k1 k2 k3 hlt hlt3) | (go_at_call 45;refine (H3.out _ (H0.out.trans HA2.out)).mono ?_;rintro e w3 ⟨rfl,ha3⟩;have HA3:=Lib.hid (HA2.out.trans ha3);clear ha3))
 clear j0 j1 j2 jlt j3 jlt3;have HAW:=Lib.hid (H0.out.trans HA3.out);have HB3:=Lib.hid (HB.out.aft HA3.out);have HQ3:=Lib.hid (HQ.out.aft HA3.out);obtain ⟨bC,hbC⟩:∃ bC,w.heap.size = bC:=⟨_,rfl⟩;obtain ⟨bQ,hbQ⟩:∃ bQ,w.heap.size + 1 = bQ:=⟨_,rfl⟩;have HSZ:=Lib.hid hbC;rw [hbQ] at HQ3 ⊢;rw [hbC] at HB3 ⊢;clear hbC hbQ H0 HB HQ HA3 HA2 HA1;go_upto_region 12 with (fail)
 have HF0:Hid (FI w3 w3.heap.size bC bQ C a1 a2 c1 c2 q none (((w3.alloc (.cells #[.slice none 0 0] 33)).alloc (.cells #[.bool false] 4)).alloc (.cells #[.func (.func 60) #[] #[.pointer (some ⟨w3.heap.size + 1,0,none⟩),.pointer (some ⟨bC,0,none⟩),.pointer (some ⟨bQ,0,none⟩),.pointer (some ⟨w3.heap.size,0,none⟩),.pointer (some ⟨w3.heap.size + 1 + 1,0,none⟩)]] 91))):=Lib.hid (by
  refine ⟨((Aft.alloc w3 _).then_alloc _).then_alloc _,rfl,HC.out.aft HAW.out,HB3.out,HQ3.out,⟨_,((Blk.new w3 33 _).alloc _).alloc _,World.ownsRow_nil _ _ 3 1⟩,?_,?_⟩
  ·have:=(Blk.new (w3.alloc (.cells #[.slice none 0 0] 33)) 4 #[.bool false]).alloc (.cells #[.func (.func 60) #[] #[.pointer (some ⟨w3.heap.size + 1,0,none⟩),.pointer (some ⟨bC,0,none⟩),.pointer (some ⟨bQ,0,none⟩),.pointer (some ⟨w3.heap.size,0,none⟩),.pointer (some ⟨w3.heap.size + 1 + 1,0,none⟩)]] 91)
   rwa [World.size_alloc] at this
  ·have:=Blk.new ((w3.alloc (.cells #[.slice none 0 0] 33)).alloc (.cells #[.bool false] 4)) 91 #[.func (.func 60) #[] #[.pointer (some ⟨w3.heap.size + 1,0,none⟩),.pointer (some ⟨bC,0,none⟩),.pointer (some ⟨bQ,0,none⟩),.pointer (some ⟨w3.heap.size,0,none⟩),.pointer (some ⟨w3.heap.size + 1 + 1,0,none⟩)]]
   rwa [World.size_alloc,World.size_alloc] at this)
 generalize (((w3.alloc (.cells #[.slice none 0 0] 33)).alloc (.cells #[.bool false] 4)).alloc (.cells #[.func (.func 60) #[] #[.pointer (some ⟨w3.heap.size + 1,0,none⟩),.pointer (some ⟨bC,0,none⟩),.pointer (some ⟨bQ,0,none⟩),.pointer (some ⟨w3.heap.size,0,none⟩),.pointer (some ⟨w3.heap.size + 1 + 1,0,none⟩)]] 91)) = W0 at *
 have HF:Hid (∀ (m:Nat) (W:World),m <= 1000 -> FI w3 w3.heap.size bC bQ C a1 a2 c1 c2 q none W -> Calls Tryz.prog 60 #[.int .i64 0,.int .i64 m,.slice none 0 0,.pointer (some ⟨w3.heap.size + 1,0,none⟩),.pointer (some ⟨bC,0,none⟩),.pointer (some ⟨bQ,0,none⟩),.pointer (some ⟨w3.heap.size,0,none⟩),.pointer (some ⟨w3.heap.size + 1 + 1,0,none⟩)] W (FewR w3 w3.heap.size bC bQ C a1 a2 c1 c2 q (tryW C.strikes N q N 0 m []) W)):=Lib.hid fun m W hm hG=>by
  have:=few_any w3 w3.heap.size bC bQ N q C a1 a2 c1 c2 HOK.out HN.out hqN N 0 m [] (.slice none 0 0) none W (by omega) (fun x hx=>by cases hx) (by simp) hm (World.ownsRow_nil _ _ 3 1) hG
  rwa [Option.none_or] at this
 obtain ⟨b,hb⟩:∃ b,w3.heap.size = b:=⟨_,rfl⟩;rw [hb] at HF HF0 ⊢;have HBS:=Lib.hid hb;clear hb;go_upto_block 1 with (fail)
 refine wp_block ?_;go_loopw [10] (fun i wr=>∃ (m:Nat) (X:Option (List Int)),i = .int .i64 m /\ m <= N /\ FI w3 b bC bQ C a1 a2 c1 c2 q X wr /\ (X = none -> ∀ j,j < m -> tryW C.strikes N q N 0 j [] = none) /\ (∀ L,X = some L -> FewIs C.strikes N q L)) (fun i _=>N - (intOf i).toNat)
 case atStart=>exact ⟨0,none,rfl,by omega,HF0.out,fun _ j hj=>absurd hj (Nat.not_lt_zero _),fun L h=>by cases h⟩
 case round =>
  obtain ⟨m,X,rfl,hm,hf,hx0,hx1⟩:=hrel;have k0:wr.cell? ⟨b + 1,0,none⟩ = some (.bool X.isSome):=hf.b1.cell 0;have l0:=hf.b1.lt;have HFI:=Lib.hid hf;have HX0:=Lib.hid hx0;have HX1:=Lib.hid hx1;clear hf hx0 hx1
  cases X with
  | none =>
   have HXN:=Lib.hid (HX0.out rfl);have hmN:m < N:=HBD.out m HXN.out;rw [show (none:Option (List Int)).isSome = false from rfl] at k0;have k1:wr.cell? ⟨b + 1 + 1,0,none⟩ = some (.func (.func 60) #[] #[.pointer (some ⟨b + 1,0,none⟩),.pointer (some ⟨bC,0,none⟩),.pointer (some ⟨bQ,0,none⟩),.pointer (some ⟨b,0,none⟩),.pointer (some ⟨b + 1 + 1,0,none⟩)]):=HFI.out.b2.cell 0;have l1:=HFI.out.b2.lt;have HI:=Lib.hid (HF.out m wr (by omega) HFI.out);go_wp2_with (go_at_call 60;refine HI.out.mono ?_;rintro e w9 ⟨⟨v9,rfl⟩,hg9,-⟩;have HG9:=Lib.hid hg9;clear hg9)
   refine ⟨⟨m + 1,_,by go_num,by omega,HG9.out,fun h j hj=>?_,fun L h=>⟨m,h,HXN.out⟩⟩,by simp [intOf];omega⟩;by_cases e:j < m
   ·exact HXN.out j e
   ·obtain rfl:j = m:=by omega
    exact h
  | some L =>
   rw [show (some L).isSome = true from rfl] at k0;obtain ⟨v,hbv,hov⟩:=HFI.out.b0;have HFW:=Lib.hid (HX1.out L rfl)
   have hL:L.length <= 1000:=by
    obtain ⟨⟨h1,h2⟩,-⟩:=HFW.out.facts;have:=Court.nodup_sub_len (l:=L) (m:=Court.allN N) (h1.imp fun h e=>by omega) (fun x hx=>Court.mem_allN.2 (by have:=h2 x hx;omega));unfold Court.allN at this;simp at this;omega
   rw [show (some L).getD [] = L from rfl] at hov;obtain ⟨A,c,rfl,_,_⟩:=own_ints hov (by omega);have k1:wr.cell? ⟨b,0,none⟩ = some (.slice A L.length c):=hbv.cell 0;have l1:=hbv.lt;have HOV:=Lib.hid hov;have HA9:=Lib.hid (HAW.out.trans HFI.out.aft);clear hbv hov;go_wp2_with fail
   go_ret2;exact ⟨L,HFW.out,_,rfl,own_base HOV.out (by have:=HAW.out.size;have:=HBS.out;omega),HA9.out⟩
end Go.Proofs
end
section
/- Walks: Always,where it answers. -/
namespace Go.Proofs
open Go.RowKit
open Court (refL begF noS struckB nextR strikeL canB coverB grow)
attribute [local go_sem] Oper.semAt_some
set_option maxRecDepth 100000 in
set_option maxHeartbeats 2000000 in
theorem always_good (C:CaseL) (a1 a2:Option Addr) (c1 c2:Nat) (R:List Int) (A:Option Addr) (c:Nat) (w:World) (hC:CRep w C a1 a2) (hA:Ints w A R) (he:alwaysE C R = 0) :
  Calls Tryz.prog 30 #[(.agg #[.int .i64 C.claims,.slice a1 C.strikes.length c1,.slice a2 C.surveys.length c2]),.slice A R.length c] w (GoodI (alwaysL C R) w):=by
 have H0:=Lib.hid (Aft.alloc w (.cells #[.int .i64 C.claims,.slice a1 C.strikes.length c1,.slice a2 C.surveys.length c2] 25));unfold alwaysE at he
 have h1:openE C R = 0:=by
  by_cases h1:openE C R = 0
  ·exact h1
  ·rw [if_neg h1] at he;exact he
 rw [if_pos h1] at he;have h2:fullsA C R ≠ []:=fun h=>by rw [if_pos h] at he;cases he
 have H1:Hid (∀ W,Aft w W -> Calls Tryz.prog 68 #[(.agg #[.int .i64 C.claims,.slice a1 C.strikes.length c1,.slice a2 C.surveys.length c2]),.slice A R.length c] W (Opened C a1 a2 c1 c2 R W)):=Lib.hid fun W h=>opened_good C a1 a2 c1 c2 R A c W (hC.aft h) (hA.aft h) h1
 have H2:=Lib.hid (fulls_all C a1 a2 c1 c2 R h1);obtain ⟨hT,hTl⟩:=fulls_len C R h1;unfold GoodI alwaysL;clear hC hA h1 he;generalize fullsA C R = T at *;obtain ⟨l0,hl0⟩:∃ l0,T.headD [] = l0:=⟨_,rfl⟩;have h0:0 < T.length:=List.length_pos_iff.2 h2;have hl00:T[0] = l0:=by rw [<- hl0];cases T with | nil=>exact absurd rfl h2 | cons x r=>rfl
 have hl14:l0.length <= 14:=by rw [<- hl00];exact hTl _ (List.getElem_mem h0)
 rw [hl0];have HL0:=Lib.hid hl00;have t1:((T.length:Int) == 0) = false:=by simp;omega
 have HTL:=Lib.hid (show ∀ x ∈ T,x.length <= 17592186043904 from fun x hx=>by have:=hTl x hx;omega);have i0:(0:Int) <= 0 /\ (0:Int) < (T.length:Int):=by omega
 clear h2 hTl hl0 hl00;go_enter Tryz.func30,Tryz.ntmps30;go_upto_region 7 with (first | (go_at_call 68;refine (H1.out _ H0.out).mono ?_;rintro e w1 ⟨d,rfl,hd⟩;have HD:=Lib.hid hd;clear hd) | (go_at_call 74;refine (H2.out _ _ _ HD.out).mono ?_;rintro e w2 ⟨v,rfl,hov,ha2⟩;obtain ⟨A9,c9,rfl,_,hli⟩:=hov.lists (by omega) HTL.out;have HLI:=Lib.hid hli;have HA2:=Lib.hid ((H0.out.trans HD.out.aft).trans ha2);clear ha2 hov hli))
 have HA3:=Lib.hid (HA2.out.then_alloc (.cells #[.slice A9 T.length c9] 23));have HL3:=Lib.hid (HLI.out.aft (Aft.alloc w2 (.cells #[.slice A9 T.length c9] 23)));have HB3:=Lib.hid (Blk.new w2 23 #[.slice A9 T.length c9]);clear HLI HA2;generalize w2.alloc (.cells #[.slice A9 T.length c9] 23) = W3 at *;generalize w2.heap.size = b8 at *;obtain ⟨b9,o9,rfl,hb9,hc9⟩:=HL3.out.at h0;obtain ⟨A1,c1',x0,hi0⟩:=hc9 0 h0;rw [HL0.out,Nat.add_zero] at x0;rw [HL0.out] at hi0;have y0:W3.cell? ⟨b8,0,none⟩ = some (.slice (some ⟨b9,o9,none⟩) T.length c9):=HB3.out.cell 0;have y1:=HB3.out.lt;have HI0:=Lib.hid hi0;have hll:=hi0.len;clear hc9 hi0
 obtain ⟨Z,hZ,hmk⟩:∃ Z:Array Value,Z.size = l0.length /\ (Instr.makeSlice 33 (.int .i64 l0.length) (.int .i64 l0.length)).run Tryz.prog W3 = .ok (.slice (some ⟨W3.heap.size,0,none⟩) l0.length l0.length) (W3.alloc (.cells Z 3)):=by
  obtain ⟨ht,⟨i,z,hi,hz,hsize,hby,hzs⟩,hsz⟩:=ty24;have h:=run_makeSlice (P:=Tryz.prog) (w:=W3) 33 3 i z ht hi hz .i64 .i64 l0.length l0.length (by omega) (Int.le_refl _) (by rw [hsize];simp;omega) (by rw [hby];omega) (by omega);rw [Int.toNat_natCast,hsize,Nat.mul_one] at h;exact ⟨_,size_madeCells _ _,h⟩
 have HZ:=Lib.hid hZ;clear hZ;go_upto_region 8 with (fail)
 clear hmk;have HBZ:=Lib.hid (Blk.new W3 3 Z);have HAZ:=Lib.hid (Aft.alloc W3 (.cells Z 3))
 obtain ⟨W5,hcp,hd5,hn5,hg5⟩:∃ W5,(Builtin.copy_ #[33,33] 3 #[.slice (some ⟨W3.heap.size,0,none⟩) l0.length l0.length,.slice A1 l0.length c1']).run Tryz.prog (W3.alloc (.cells Z 3)) = .ok (.int .i64 l0.length) W5 /\ (∃ cs,Blk W5 W3.heap.size 3 cs /\ Nums cs l0) /\ True /\ (W3.alloc (.cells Z 3)).grownBy W5 (some W3.heap.size):=by
  have i3:(Tryz.prog.info? 3).map (·.size) = some 1:=by kernel_rfl
  by_cases h00:0 < l0.length
  ·obtain ⟨bF,oF,rfl,-⟩:=ints_mem HI0.out h00;have h:=run_copy_row (P:=Tryz.prog) (W3.alloc (.cells Z 3)) 33 33 3 3 W3.heap.size 0 l0.length l0.length ⟨bF,oF,none⟩ l0.length c1' Z 3 (l0.map (Value.int .i64)) Tryz.underlying33 i3 HBZ.out (by rw [List.length_map];exact (Nat.min_self _).symm) (ints_src (HI0.out.aft HAZ.out) _ rfl) (by rw [List.length_map,HZ.out];omega) (ints_one l0);rw [List.length_map] at h;refine ⟨_,h,⟨_,setRow_heap _ W3.heap.size Z _ 3 _ HBZ.out,?_⟩,trivial,only_setRow _ _ _⟩;refine ⟨by simp,fun t ht=>?_⟩;simp only [List.getElem?_toArray,List.take_zero,List.nil_append,Nat.zero_add];rw [List.getElem?_append_left (by simpa using ht)];simp [ht]
  ·have e0:l0 = []:=List.eq_nil_of_length_eq_zero (by omega);subst e0;exact ⟨_,run_copy_none (P:=Tryz.prog) _ 33 33 3 3 _ _ _ _ _ _ Tryz.underlying33 i3 rfl,⟨_,HBZ.out,⟨by simp,fun t ht=>by simp at ht⟩⟩,trivial,⟨rfl,rfl,rfl,Nat.le_refl _,fun _ _ _=>rfl⟩⟩
 have HD5:=Lib.hid hd5;have HG5:=Lib.hid hg5;clear hd5 hn5 hg5;have y0:(W3.alloc (.cells Z 3)).cell? ⟨b8,0,none⟩ = some (.slice (some ⟨b9,o9,none⟩) T.length c9):=(HB3.out.aft HAZ.out).cell 0;go_upto_region 9 with (fail)
 clear hcp;have HA5:Hid (Aft W3 W5):=Lib.hid (HAZ.out.grown HG5.out (fun k e=>by cases e;exact Nat.le_refl _));have hlt:=HB3.out.lt;have HDEL:Hid (Calls Tryz.prog 47 #[.slice (some ⟨W3.heap.size,0,none⟩) l0.length l0.length,.func (.func 77) #[] #[.pointer (some ⟨b8,0,none⟩)]] W5 fun e w'=>∃ c,e = .returned (.slice (some ⟨W3.heap.size,0,none⟩) (l0.filter fun n=>!(T.any fun x=>!hasB x n)).length c) /\ Ints w' (some ⟨W3.heap.size,0,none⟩) (l0.filter fun n=>!(T.any fun x=>!hasB x n)) /\ Aft W3 w'):=Lib.hid (by
  obtain ⟨cs,hb,hn⟩:=HD5.out;refine (deleteFunc_blk (fun W=>Aft W3 W) W3.heap.size (fun W W' h h'=>h.trans h') (fun W i v h=>h.then_setCell (Nat.le_refl _) _) 77 [.pointer (some ⟨b8,0,none⟩)] (fun n=>T.any fun x=>!hasB x n) l0 l0.length cs W5 (by omega) hb hn (Nat.le_refl _) HA5.out runs_77 (fun x hx W hW=>always1_any _ T c9 x b8 W (HL3.out.aft hW) (HB3.out.aft hW))).mono ?_;rintro e w' ⟨rfl,hg,cs',_,hb',hn'⟩;exact ⟨_,rfl,Nums.ints hb' hn' (Nat.le_trans (List.length_filter_le _ _) (by omega)),HA5.out.grown hg (fun k e=>by cases e;exact Nat.le_refl _)⟩)
 go_wp2_with (go_at_call 47;refine HDEL.out.mono ?_;rintro e w6 ⟨c6,rfl,hi6,ha6⟩;have HI6:=Lib.hid hi6;have HA6:=Lib.hid ha6;clear hi6 ha6)
 go_ret2;exact ⟨_,c6,rfl,HI6.out,HA3.out.trans HA6.out⟩
end Go.Proofs
end
