/- Own texts, merged: CtRm. -/
import Derived.Test.YtbchfakfdikkjaaGreatS14
set_option linter.unusedSimpArgs false
set_option linter.unusedVariables false
set_option linter.unnecessarySimpa false
section
/- Walks: the reference's Holds 82. -/
namespace Go.Proofs
open Go.RowKit
open Court (refL begF noS struckB nextR)
attribute [local go_sem] Oper.semAt_some
def cntB (S:List (Int × Int)) (n:Int) (p:Int -> Bool) (k:Nat):Nat:=(S.take k).countP fun s=>decide (s.2 = n) && p s.1
theorem cntB_zero (S:List (Int × Int)) (n:Int) (p:Int -> Bool):cntB S n p 0 = 0:=by simp [cntB]
theorem cntB_succ (S:List (Int × Int)) (n:Int) (p:Int -> Bool) (k:Nat) (h:k < S.length):cntB S n p (k + 1) = cntB S n p k + if (decide (S[k].2 = n) && p S[k].1) = true then 1 else 0:=by
 unfold cntB;rw [List.take_succ_eq_append_getElem h,List.countP_append,List.countP_singleton]
theorem cntB_none {S:List (Int × Int)} {n:Int} {p:Int -> Bool}:cntB S n p S.length = 0 ↔ ∀ s ∈ S,s.2 = n -> p s.1 = false:=by
 unfold cntB;rw [List.take_of_length_le (Nat.le_refl _),List.countP_eq_zero];constructor
 ·intro h s hs he;have:=h s hs;rw [decide_eq_true he,Bool.true_and] at this;simpa using this
 ·intro h s hs hp;rw [Bool.and_eq_true,decide_eq_true_eq] at hp;rw [h s hs hp.1] at hp;cases hp.2
theorem struck_none {S:List (Int × Int)} {f:Int -> Nat} {n:Int} {v:Nat}:struckB S noS f n v = false ↔ ∀ s ∈ S,s.2 = n -> decide (f s.1 = v) = false:=by
 unfold struckB;rw [List.any_eq_false];constructor
 ·intro h s hs he;have:=h s hs;rw [decide_eq_true he] at this;simpa [noS] using this
 ·intro h s hs hp;simp only [Bool.and_eq_true,decide_eq_true_eq] at hp;have:=h s hs hp.1.1;simp at this;exact this hp.2
def refH (br:Bool) (fn rn u o hi lo:Nat):Bool :=
 if br then decide (fn = 2) && decide (rn = 0)
 else if fn = 0 then decide (rn = 0) && decide (u = 0) && decide (0 < o)
 else if fn = 1 then decide (0 < rn) && decide (u = 0) && decide (o = 0) && decide (hi = 0)
 else decide (0 < rn) && decide (0 < lo)
theorem refH_held (S:List (Int × Int)) (ref:Int -> Bool) (f r:Int -> Nat) (n:Int) :
  refH (ref n) (f n) (r n) (cntB S n (fun x=>decide (f x = 1)) S.length) (cntB S n (fun x=>decide (f x = 0)) S.length) (cntB S n (fun x=>decide (r n <= r x)) S.length) (cntB S n (fun x=>decide (f x = 1) && decide (r x < r n)) S.length) = heldB S noS ref f r n:=by
 have hu:decide (cntB S n (fun x=>decide (f x = 1)) S.length = 0) = !struckB S noS f n 1:=by
  cases h:struckB S noS f n 1
  ·exact decide_eq_true (cntB_none.2 (struck_none.1 h))
  ·exact decide_eq_false fun h2=>by rw [struck_none.2 (cntB_none.1 h2)] at h;cases h
 have ho:decide (cntB S n (fun x=>decide (f x = 0)) S.length = 0) = !struckB S noS f n 0:=by
  cases h:struckB S noS f n 0
  ·exact decide_eq_true (cntB_none.2 (struck_none.1 h))
  ·exact decide_eq_false fun h2=>by rw [struck_none.2 (cntB_none.1 h2)] at h;cases h
 have ho2:decide (0 < cntB S n (fun x=>decide (f x = 0)) S.length) = struckB S noS f n 0:=by
  have:decide (0 < cntB S n (fun x=>decide (f x = 0)) S.length) = !decide (cntB S n (fun x=>decide (f x = 0)) S.length = 0):=by
   rw [<- decide_not];exact decide_eq_decide.2 (by omega)
  rw [this,ho,Bool.not_not]
 unfold refH heldB;by_cases h1:ref n = true
 ·rw [if_pos h1,if_pos h1]
 ·rw [if_neg h1,if_neg h1];by_cases h2:f n = 0
  ·rw [if_pos h2,if_pos h2,hu,ho2,Bool.and_assoc]
  ·rw [if_neg h2,if_neg h2];by_cases h3:f n = 1
   ·rw [if_pos h3,if_pos h3,hu,ho];unfold freeB
    have hh:(decide (0 < r n) && decide (cntB S n (fun x=>decide (r n <= r x)) S.length = 0)) = decide (nextR S noS r n <= r n):=by
     rw [Bool.eq_iff_iff,Bool.and_eq_true,decide_eq_true_eq,decide_eq_true_eq,decide_eq_true_eq,cntB_none];constructor
     ·rintro ⟨ha,hb⟩
      exact Court.next_le ha fun s hs he _=>by
       have:=of_decide_eq_false (hb s hs he);omega
     ·intro h;refine ⟨Nat.lt_of_lt_of_le (Court.next_pos S noS r n) h,fun s hs he=>decide_eq_false ?_⟩;have:=Court.next_ge (S:=S) (sure:=noS) (r:=r) (n:=n) rfl hs he;omega
    rw [<- hh];cases decide (0 < r n) <;> cases struckB S noS f n 1 <;> cases struckB S noS f n 0 <;> rfl
   ·rw [if_neg h3,if_neg h3];unfold strikers;rw [List.any_map,List.any_filter,Bool.eq_iff_iff,Bool.and_eq_true,decide_eq_true_eq,decide_eq_true_eq,List.any_eq_true];constructor
    ·rintro ⟨_,h⟩;have h5:¬ cntB S n (fun x=>decide (f x = 1) && decide (r x < r n)) S.length = 0:=by omega
     rw [cntB_none] at h5;apply Classical.byContradiction;intro h6;refine h5 fun s hs he=>?_
     rw [Bool.eq_false_iff];intro h7;exact h6 ⟨s,hs,by simp only [Function.comp];rw [decide_eq_true he,h7];rfl⟩
    ·rintro ⟨s,hs,h⟩;simp only [Function.comp,Bool.and_eq_true,decide_eq_true_eq] at h;obtain ⟨⟨he,_⟩,h7,h8⟩:=h;refine ⟨by omega,Nat.pos_of_ne_zero fun h9=>?_⟩;have:=cntB_none.1 h9 s hs he;rw [decide_eq_true h7,decide_eq_true h8] at this;cases this
set_option maxRecDepth 100000 in
set_option maxHeartbeats 4000000 in
theorem holdsTop_open (C:CaseL) (a1 a2:Option Addr) (c1 c2:Nat) (R F K:List Int) (A A' A'':Option Addr) (c c' c'':Nat) (w:World) (hC:CRep w C a1 a2) (hA:Ints w A R) (he:openE C R ≠ 0) :
  Calls Tryz.prog 82 #[(.agg #[.int .i64 C.claims,.slice a1 C.strikes.length c1,.slice a2 C.surveys.length c2]),.slice A R.length c,.slice A' F.length c',.slice A'' K.length c''] w (HoldsR false (openE C R) w):=by
 have H0:=Lib.hid (Aft.alloc w (.cells #[.int .i64 C.claims,.slice a1 C.strikes.length c1,.slice a2 C.surveys.length c2] 31));have HB:=Lib.hid (Blk.new w 31 #[.int .i64 C.claims,.slice a1 C.strikes.length c1,.slice a2 C.surveys.length c2]);have H1:=Lib.hid (refutedR_any C a1 a2 c1 c2 R A c _ (hC.aft H0.out) (hA.aft H0.out));have t1:(openE C R != 0) = true:=by simpa using he
 obtain ⟨k0,k1,k2⟩:=box31 HB.out;have hlt:=HB.out.lt;unfold HoldsR;clear hC hA he;generalize openE C R = E at *;go_enter Tryz.func82,Tryz.ntmps82;go_wp2_with (go_at_call 66;refine H1.out.mono ?_;rintro e w1 ⟨rfl,ha1⟩;have HA1:=Lib.hid ha1;clear ha1)
 go_ret2;exact ⟨rfl,H0.out.trans HA1.out⟩
set_option maxRecDepth 100000 in
set_option maxHeartbeats 16000000 in
theorem holdsTop_in (N:Nat) (S:List (Int × Int)) (T:List (List Int)) (a1 a2:Option Addr) (c1 c2:Nat) (R F K:List Int) (A AF AK:Option Addr) (c cF cK:Nat) (w:World) (hC:CRep w ⟨N,S,T⟩ a1 a2) (hA:Ints w A R) (hF:Ints w AF F) (hK:Ints w AK K) (he:openE ⟨N,S,T⟩ R = 0) (E:Int) (hE:holdsE ⟨N,S,T⟩ R F K = E) :
  Calls Tryz.prog 82 #[(.agg #[.int .i64 N,.slice a1 S.length c1,.slice a2 T.length c2]),.slice A R.length c,.slice AF F.length cF,.slice AK K.length cK] w (HoldsR (decide (E = 0) && (List.range N).all fun n=>heldB S noS (refL R) (overF F (begF (refL R))) (overF K fun _=>0) (n:Nat)) E w):=by
 have hlF:=hF.len;have hlK:=hK.len;unfold holdsE at hE;rw [if_pos he] at hE;dsimp only at hE;have H0:=Lib.hid (Aft.alloc w (.cells #[.int .i64 N,.slice a1 S.length c1,.slice a2 T.length c2] 31));have HB:=Lib.hid (Blk.new w 31 #[.int .i64 N,.slice a1 S.length c1,.slice a2 T.length c2]);have H1:Hid (Calls Tryz.prog 66 #[(.agg #[.int .i64 N,.slice a1 S.length c1,.slice a2 T.length c2]),.slice A R.length c] (w.alloc (.cells #[.int .i64 N,.slice a1 S.length c1,.slice a2 T.length c2] 31)) fun e w'=>e = .returned (.int .i64 0) /\ Aft (w.alloc (.cells #[.int .i64 N,.slice a1 S.length c1,.slice a2 T.length c2] 31)) w'):=Lib.hid (by rw [<- he];exact refutedR_any ⟨N,S,T⟩ a1 a2 c1 c2 R A c _ (hC.aft H0.out) (hA.aft H0.out));have hok:=caseE_ok (openE_ok he).1;have hn1:=hok.n1;have hn2:=hok.n2;have hss:=hok.few;have HIN:=Lib.hid hok.ins;dsimp only at hn1 hn2 HIN hss;have HC:=Lib.hid (hC.aft H0.out);have HR:=Lib.hid (hA.aft H0.out);have HF:=Lib.hid (hF.aft H0.out);have HK:=Lib.hid (hK.aft H0.out);have HE:=Lib.hid hE;obtain ⟨bC,hbC⟩:∃ bC,w.heap.size = bC:=⟨_,rfl⟩;rw [hbC] at HB;have HBC:=Lib.hid hbC;clear hbC hC hA hF hK he hok hE;obtain ⟨HLD,hHLD⟩:∃ HLD:Nat -> Bool,HLD = fun n=>heldB S noS (refL R) (overF F (begF (refL R))) (overF K fun _=>0) (n:Nat):=⟨_,rfl⟩
 have HHL:Hid (∀ n:Nat,HLD n = heldB S noS (refL R) (overF F (begF (refL R))) (overF K fun _=>0) (n:Nat)):=Lib.hid fun n=>by rw [hHLD]
 rw [<- hHLD];clear hHLD;unfold HoldsR;go_enter Tryz.func82,Tryz.ntmps82;go_upto_region 1 with fail
 rw [HBC.out];generalize w.alloc (.cells #[.int .i64 N,.slice a1 S.length c1,.slice a2 T.length c2] 31) = W0 at *;obtain ⟨k0,k1,k2⟩:=box31 HB.out;have k3:=HB.out.lt;go_upto_region 4 with (go_at_call 66;refine H1.out.mono ?_;rintro e W1 ⟨rfl,ha1⟩;have HA1:=Lib.hid ha1;clear ha1)
 clear H1 k0 k1 k2 k3;obtain ⟨k0,k1,k2⟩:=box31 (HB.out.aft HA1.out);have k3:=(HB.out.aft HA1.out).lt;by_cases hFN:F.length = N
 ·have e1:((F.length:Int) != (N:Int)) = false:=by simp;omega
  by_cases hKN:K.length = N
  ·have e2:((K.length:Int) != (N:Int)) = false:=by simp;omega
   have HE2:Hid (E = if F.all (fun n=>fromB n 0 2) && K.all (fun n=>fromB n 0 14) then 0 else 4):=Lib.hid (by
    have:=HE.out;rw [if_neg (by rintro (h | h) <;> omega)] at this;exact this.symm)
   clear HE;have HFL:=Lib.hid hFN;have HKL:=Lib.hid hKN;obtain ⟨bf,of,hAF,hltf,-⟩:=HF.out.at (show 0 < F.length by omega);subst hAF;obtain ⟨bk,ok,hAK,hltk,-⟩:=HK.out.at (show 0 < K.length by omega);subst hAK
   have HCF:Hid (∀ W,Aft W0 W -> ∀ i,(h:i < F.length) -> W.cell? ⟨bf,of + i,none⟩ = some (.int .i64 F[i])):=Lib.hid fun W h i hi=>by
    obtain ⟨b',o',e',_,hc'⟩:=(HF.out.aft h).at hi;cases e';exact hc' i hi
   have HCK:Hid (∀ W,Aft W0 W -> ∀ i,(h:i < K.length) -> W.cell? ⟨bk,ok + i,none⟩ = some (.int .i64 K[i])):=Lib.hid fun W h i hi=>by
    obtain ⟨b',o',e',_,hc'⟩:=(HK.out.aft h).at hi;cases e';exact hc' i hi
   go_upto_block 0 with fail
   rw [HFL.out,HKL.out];clear k0 k1 k2 k3 e1 e2 HF HK;refine wp_block ?_;go_loopw [11] (fun i wr=>∃ k:Nat,i = .int .i64 k /\ k <= N /\ Aft W0 wr /\ Hid (∀ j,(h:j < F.length) -> j < k -> fromB F[j] 0 2 = true) /\ Hid (∀ j,(h:j < K.length) -> j < k -> fromB K[j] 0 14 = true)) (fun i _=>N - (intOf i).toNat)
   case atStart=>exact ⟨0,rfl,by omega,HA1.out,Lib.hid fun j _ h=>by omega,Lib.hid fun j _ h=>by omega⟩
   case round =>
    obtain ⟨k,rfl,hk,hy,HFO,HKO⟩:=hrel;have HY:=Lib.hid hy;clear hy;obtain ⟨k0,k1,k2⟩:=box31 (HB.out.aft HY.out);have k3:=(HB.out.aft HY.out).lt;by_cases hkN:k < N
    ·have t1:decide (k < N) = true:=by simpa using hkN
     have ik:(0:Int) <= (k:Int) /\ (k:Int) < (N:Int):=by omega
     have x0:=HCF.out wr HY.out k (by omega);have x1:=HCK.out wr HY.out k (by omega);have HNF:Hid (fromB (F[k]'(by omega)) 0 2 = false -> F.all (fun n=>fromB n 0 2) = false):=Lib.hid fun h=>all_not (by omega) h
     have HNK:Hid (fromB (K[k]'(by omega)) 0 14 = false -> K.all (fun n=>fromB n 0 14) = false):=Lib.hid fun h=>all_not (by omega) h
     obtain ⟨y,hy⟩:∃ y,F[k]'(by omega) = y:=⟨_,rfl⟩;obtain ⟨z,hz⟩:∃ z,K[k]'(by omega) = z:=⟨_,rfl⟩;rw [hy] at x0 HNF;rw [hz] at x1 HNK;have HYY:=Lib.hid hy;have HZZ:=Lib.hid hz;clear hy hz;cases hb1:fromB y 0 2
     ·have HE4:Hid (E = 4):=Lib.hid (by rw [HE2.out,HNF.out hb1];rfl);go_wp2_with (go_at_call 57;refine (beside_any y 0 2 _).mono ?_;rintro e w2 ⟨rfl,rfl⟩;rw [hb1])
      go_ret2;exact ⟨by rw [HE4.out];rfl,H0.out.trans HY.out⟩
     ·cases hb2:fromB z 0 14
      ·have HE4:Hid (E = 4):=Lib.hid (by rw [HE2.out,HNK.out hb2,Bool.and_false];rfl);(repeat (first | go_big_skip | go_big_want | go_big_move | go_big_op | go_step | go_upon | go_back));go_at_call 57;refine (beside_any y 0 2 _).mono ?_;rintro e w2 ⟨rfl,rfl⟩;dsimp only;rw [hb1];simp only [Bool.not_true];(repeat (first | go_big_skip | go_big_want | go_big_move | go_big_op | go_step | go_upon | go_back));go_at_call 57;refine (beside_any z 0 14 _).mono ?_;rintro e w2 ⟨rfl,rfl⟩;dsimp only;rw [hb2];simp only [Bool.not_false];(repeat (first | go_big_skip | go_big_want | go_big_move | go_big_op | go_step | go_upon | go_back));go_ret2;exact ⟨by rw [HE4.out];rfl,H0.out.trans HY.out⟩
      ·have HFO2:Hid (∀ j,(h:j < F.length) -> j < k + 1 -> fromB F[j] 0 2 = true):=Lib.hid fun j h h'=>by
        by_cases e:j = k
        ·subst e;rw [HYY.out];exact hb1
        ·exact HFO.out j h (by omega)
       have HKO2:Hid (∀ j,(h:j < K.length) -> j < k + 1 -> fromB K[j] 0 14 = true):=Lib.hid fun j h h'=>by
        by_cases e:j = k
        ·subst e;rw [HZZ.out];exact hb2
        ·exact HKO.out j h (by omega)
       (repeat (first | go_big_skip | go_big_want | go_big_move | go_big_op | go_step | go_upon | go_back));go_at_call 57;refine (beside_any y 0 2 _).mono ?_;rintro e w2 ⟨rfl,rfl⟩;dsimp only;rw [hb1];simp only [Bool.not_true];(repeat (first | go_big_skip | go_big_want | go_big_move | go_big_op | go_step | go_upon | go_back));go_at_call 57;refine (beside_any z 0 14 _).mono ?_;rintro e w2 ⟨rfl,rfl⟩;dsimp only;rw [hb2];simp only [Bool.not_true];go_wp2_with fail
       exact ⟨⟨k + 1,by go_num,by omega,HY.out,HFO2,HKO2⟩,by simp [intOf];omega⟩
    ·have t1:decide (k < N) = false:=by simpa using hkN
     have HE0:Hid (E = 0):=Lib.hid (by
      rw [HE2.out,all_upto fun j h h'=>HFO.out j h (by omega),all_upto fun j h h'=>HKO.out j h (by omega)];rfl)
     obtain ⟨f,hf⟩:∃ f,overF F (begF (refL R)) = f:=⟨_,rfl⟩;obtain ⟨r,hr⟩:∃ r,overF K (fun _=>0) = r:=⟨_,rfl⟩
     have HFF:Hid (∀ i,(h:i < F.length) -> F[i] = (f i:Nat) /\ f i <= 2):=Lib.hid fun i h=>by
      have h1:=fromB_iff.1 (HFO.out i h (by omega));rw [<- hf];unfold overF;rw [if_pos (by omega),Int.toNat_natCast,List.getD_eq_getElem?_getD,List.getElem?_eq_getElem h];show F[i] = ((F[i].toNat:Nat):Int) /\ F[i].toNat <= 2;omega
     have HKK:Hid (∀ i,(h:i < K.length) -> K[i] = (r i:Nat) /\ r i <= 14):=Lib.hid fun i h=>by
      have h1:=fromB_iff.1 (HKO.out i h (by omega));rw [<- hr];unfold overF;rw [if_pos (by omega),Int.toNat_natCast,List.getD_eq_getElem?_getD,List.getElem?_eq_getElem h];show K[i] = ((K[i].toNat:Nat):Int) /\ K[i].toNat <= 14;omega
     have HHN:Hid (∀ n:Nat,HLD n = heldB S noS (refL R) f r n):=Lib.hid fun n=>by rw [HHL.out,hf,hr]
     obtain ⟨W2,rfl⟩:∃ W2,W2 = wr:=⟨_,rfl⟩;clear hf hr HFO HKO HE2 HHL hkN
     have HCF2:Hid (∀ W,Aft W2 W -> ∀ i,i < N -> W.cell? ⟨bf,of + i,none⟩ = some (.int .i64 (f i:Nat))):=Lib.hid fun W h i hi=>by
      have:=HCF.out W (HY.out.trans h) i (by omega)
      rwa [(HFF.out i (by omega)).1] at this
     have HCK2:Hid (∀ W,Aft W2 W -> ∀ i,i < N -> W.cell? ⟨bk,ok + i,none⟩ = some (.int .i64 (r i:Nat))):=Lib.hid fun W h i hi=>by
      have:=HCK.out W (HY.out.trans h) i (by omega)
      rwa [(HKK.out i (by omega)).1] at this
     have HF2:Hid (∀ i:Nat,i < N -> f i <= 2 /\ r i <= 14):=Lib.hid fun i hi=>⟨(HFF.out i (by omega)).2,(HKK.out i (by omega)).2⟩
     go_upto_block 2 with fail
     clear k0 k1 k2 k3 HCF HCK HFF HKK;refine wp_block ?_;go_loopw [12] (fun i wr=>∃ n:Nat,i = .int .i64 n /\ n <= N /\ Aft W2 wr /\ Hid (∀ j,j < n -> HLD j = true)) (fun i _=>N - (intOf i).toNat)
     case atStart=>exact ⟨0,rfl,by omega,Aft.refl _,Lib.hid fun j h=>by omega⟩
     case round =>
      obtain ⟨n,rfl,hn,hz,HOK⟩:=hrel;have HZ:=Lib.hid hz;clear hz;obtain ⟨k0,k1,k2⟩:=box31 (HB.out.aft (HY.out.trans HZ.out));have k3:=(HB.out.aft (HY.out.trans HZ.out)).lt;by_cases hnN:n < N
      ·have t2:decide (n < N) = true:=by simpa using hnN
       have inn:(0:Int) <= (n:Int) /\ (n:Int) < (N:Int):=by omega
       have HHELD:Hid (HLD n = refH (refL R n) (f n) (r n) (cntB S n (fun x=>decide (f x = 1)) S.length) (cntB S n (fun x=>decide (f x = 0)) S.length) (cntB S n (fun x=>decide (r n <= r x)) S.length) (cntB S n (fun x=>decide (f x = 1) && decide (r x < r n)) S.length)):=Lib.hid (by rw [refH_held];exact HHN.out n);obtain ⟨fn,hfn⟩:∃ fn:Nat,f n = fn:=⟨_,rfl⟩;obtain ⟨rn,hrn⟩:∃ rn:Nat,r n = rn:=⟨_,rfl⟩;obtain ⟨br,hbr⟩:∃ br,refL R n = br:=⟨_,rfl⟩;have hbr':hasB R (n:Int) = br:=hbr;have hfr:=HF2.out n hnN;rw [hfn,hrn] at hfr;rw [hfn,hrn,hbr] at HHELD;have HFN:Hid (∀ W,Aft W2 W -> W.cell? ⟨bf,of + n,none⟩ = some (.int .i64 fn)):=Lib.hid fun W h=>by have:=HCF2.out W h n hnN;rwa [hfn] at this
       have HKNN:Hid (∀ W,Aft W2 W -> W.cell? ⟨bk,ok + n,none⟩ = some (.int .i64 rn)):=Lib.hid fun W h=>by have:=HCK2.out W h n hnN;rwa [hrn] at this
       have H64:Hid (∀ W,Aft W2 W -> Calls Tryz.prog 64 #[.slice A R.length c,.int .i64 n] W fun e w'=>e = .returned (.bool br) /\ W = w'):=Lib.hid fun W h=>by rw [<- hbr'];exact hasR_any A R c n W (HR.out.aft (HY.out.trans h))
       have HRN:=Lib.hid hrn;obtain ⟨W3,rfl⟩:∃ W3,W3 = wr:=⟨_,rfl⟩;clear hfn hrn hbr hbr';go_upto_block 4 with fail
       clear k0 k1 k2 k3;refine wp_block ?_;go_loopw [13,14,15,16,17] (fun vu vo vh vl i wr=>∃ (j u o hi lo:Nat),vu = .int .i64 u /\ vo = .int .i64 o /\ vh = .int .i64 hi /\ vl = .int .i64 lo /\ i = .int .i64 j /\ j <= S.length /\ Aft W3 wr /\ u <= j /\ o <= j /\ hi <= j /\ lo <= j /\ Hid (cntB S n (fun x=>decide (f x = 1)) j = u) /\ Hid (cntB S n (fun x=>decide (f x = 0)) j = o) /\ Hid (cntB S n (fun x=>decide (rn <= r x)) j = hi) /\ Hid (cntB S n (fun x=>decide (f x = 1) && decide (r x < rn)) j = lo)) (fun _ _ _ _ i _=>S.length - (intOf i).toNat)
       case atStart=>exact ⟨0,0,0,0,0,rfl,rfl,rfl,rfl,rfl,by omega,Aft.refl _,by omega,by omega,by omega,by omega,Lib.hid (cntB_zero _ _ _),Lib.hid (cntB_zero _ _ _),Lib.hid (cntB_zero _ _ _),Lib.hid (cntB_zero _ _ _)⟩
       case round =>
        obtain ⟨j,u,o,hi,lo,rfl,rfl,rfl,rfl,rfl,hj,hz2,hu1,ho1,hh1,hl1,HU,HOO,HH,HL⟩:=hrel;have HZ2:=Lib.hid hz2;have HZ3:=Lib.hid (HZ.out.trans hz2);clear hz2;obtain ⟨k0,k1,k2⟩:=box31 (HB.out.aft (HY.out.trans HZ3.out));have k3:=(HB.out.aft (HY.out.trans HZ3.out)).lt;by_cases hjl:j < S.length
        ·have t3:decide (j < S.length) = true:=by simpa using hjl
         have ij:(0:Int) <= (j:Int) /\ (j:Int) < (S.length:Int):=by omega
         obtain ⟨bs,os,hbs,hlts,hcs⟩:=(HC.out.aft (HY.out.trans HZ3.out)).strikes.at hjl;subst hbs;obtain ⟨x1,x2⟩:=hcs j hjl;have hin:=HIN.out _ (List.getElem_mem hjl);have hU:=cntB_succ S n (fun x=>decide (f x = 1)) j hjl;have hO:=cntB_succ S n (fun x=>decide (f x = 0)) j hjl;have hH:=cntB_succ S n (fun x=>decide (rn <= r x)) j hjl;have hL:=cntB_succ S n (fun x=>decide (f x = 1) && decide (r x < rn)) j hjl;obtain ⟨⟨z0,z1⟩,hzz⟩:∃ s,S[j] = s:=⟨_,rfl⟩;rw [hzz] at x1 x2 hin hU hO hH hL;dsimp only at x1 x2 hin hU hO hH hL;obtain ⟨y0,rfl⟩:=Int.eq_ofNat_of_zero_le hin.1.1;have hy0:y0 < N:=by omega
         have iy:(0:Int) <= (y0:Int) /\ (y0:Int) < (N:Int):=by omega
         have hfr2:=HF2.out y0 hy0;have hFV:=fun W (h:Aft wr W)=>HCF2.out W (HZ3.out.trans h) y0 hy0
         have hKV:=fun W (h:Aft wr W)=>HCK2.out W (HZ3.out.trans h) y0 hy0
         obtain ⟨fv,hfv⟩:∃ fv:Nat,f y0 = fv:=⟨_,rfl⟩;obtain ⟨rv,hrv⟩:∃ rv:Nat,r y0 = rv:=⟨_,rfl⟩;rw [hfv] at hFV hU hO hL hfr2;rw [hrv] at hKV hH hL hfr2;rw [HU.out] at hU;rw [HOO.out] at hO;rw [HH.out] at hH;rw [HL.out] at hL;have HFV:=Lib.hid hFV;have HKV:=Lib.hid hKV;have HKN:Hid (∀ W,Aft wr W -> W.cell? ⟨bk,ok + n,none⟩ = some (.int .i64 rn)):=Lib.hid fun W h=>HKNN.out W (HZ3.out.trans h)
         have f0:=HFV.out wr (Aft.refl _);clear hcs hin hzz hFV hKV hfv hrv HU HOO HH HL;cases hz1:(z1 == (n:Int))
         ·have zn:(z1 != (n:Int)) = true:=by simpa using hz1
          have dz:decide (z1 = (n:Int)) = false:=by simpa using hz1
          rw [dz] at hU hO hH hL;simp only [Bool.false_and,Bool.false_eq_true,if_false,Nat.add_zero] at hU hO hH hL;have HU:=Lib.hid hU;have HOO:=Lib.hid hO;have HH:=Lib.hid hH;have HL:=Lib.hid hL;clear hU hO hH hL;go_wp2_with fail
          exact ⟨⟨j + 1,u,o,hi,lo,rfl,rfl,rfl,rfl,by go_num,by omega,HZ2.out,by omega,by omega,by omega,by omega,HU,HOO,HH,HL⟩,by simp [intOf];omega⟩
         ·have zn:(z1 != (n:Int)) = false:=by simpa using hz1
          have dz:decide (z1 = (n:Int)) = true:=by simpa using hz1
          rw [dz] at hU hO hH hL;simp only [Bool.true_and] at hU hO hH hL;have HU:=Lib.hid hU;have HOO:=Lib.hid hO;have HH:=Lib.hid hH;have HL:=Lib.hid hL;clear hU hO hH hL;by_cases hf1:fv = 1
          ·skip
           have q1:((fv:Int) == 1) = true:=by simp;omega
           have q0:((fv:Int) == 0) = false:=by simp;omega
           have d1:decide (fv = 1) = true:=by simpa using hf1
           have d0:decide (fv = 0) = false:=by simp;omega
           go_upto_region 24 with fail
           obtain ⟨bd,hbd⟩:∃ bd,decide (rn <= rv) = bd:=⟨_,rfl⟩;have dd:=hbd;refine wp_region_valsG (by kernel_rfl) 195 rfl (by kernel_rfl) (by kernel_rfl) [.slice (some ⟨bk,ok,none⟩) N cK,.int .i64 y0,.pointer (some ⟨bk,ok + y0,none⟩),.int .i64 rv,.slice (some ⟨bk,ok,none⟩) N cK,.int .i64 n,.pointer (some ⟨bk,ok + n,none⟩),.int .i64 rn,.bool bd] rfl (fun W=>Aft wr W) (Aft.drew _) ?st1 ?fi1
           case st1 =>
            intro i o v ho hv
            match i,ho,hv with
            | 0,ho,hv =>
             cases ho;cases hv;refine .inl ⟨rfl,fun a W hk hw K hK=>?_⟩;have e3:=hk.s 3;exact op_val (by simp [go_sem,ev' e3]) (hK _ hw)
            | 1,ho,hv =>
             cases ho;cases hv;refine .inl ⟨rfl,fun a W hk hw K hK=>?_⟩;have e18:=hk.s 18;exact op_val (by simp [go_sem,ev' e18]) (hK _ hw)
            | 2,ho,hv =>
             cases ho;cases hv;refine .inl ⟨rfl,fun a W hk hw K hK=>?_⟩;have e97:=hk.t 0;have e98:=hk.t 1;exact op_val (by simp [go_sem,ev' e97,ev' e98,iy]) (hK _ hw)
            | 3,ho,hv =>
             cases ho;cases hv;refine .inl ⟨rfl,fun a W hk hw K hK=>?_⟩;have e99:=hk.t 2;exact op_val (by simp [go_sem,ev' e99,HKV.out W hw]) (hK _ hw)
            | 4,ho,hv =>
             cases ho;cases hv;refine .inl ⟨rfl,fun a W hk hw K hK=>?_⟩;have e3:=hk.s 3;exact op_val (by simp [go_sem,ev' e3]) (hK _ hw)
            | 5,ho,hv =>
             cases ho;cases hv;refine .inl ⟨rfl,fun a W hk hw K hK=>?_⟩;have e12:=hk.s 12;exact op_val (by simp [go_sem,ev' e12]) (hK _ hw)
            | 6,ho,hv =>
             cases ho;cases hv;refine .inl ⟨rfl,fun a W hk hw K hK=>?_⟩;have e101:=hk.t 4;have e102:=hk.t 5;exact op_val (by simp [go_sem,ev' e101,ev' e102,inn]) (hK _ hw)
            | 7,ho,hv =>
             cases ho;cases hv;refine .inl ⟨rfl,fun a W hk hw K hK=>?_⟩;have e103:=hk.t 6;exact op_val (by simp [go_sem,ev' e103,HKN.out W hw]) (hK _ hw)
            | 8,ho,hv =>
             cases ho;cases hv;refine .inl ⟨rfl,fun a W hk hw K hK=>?_⟩;have e100:=hk.t 3;have e104:=hk.t 7;exact op_val (by simp [go_sem,ev' e100,ev' e104,hbd]) (hK _ hw)
            | _ + 9,_,hv=>cases hv
           intro W hw;simp only [List.drop_succ_cons,List.drop_zero,List.zip_cons_cons,List.zip_nil_right,putAll];simp only [Act.put,List.setIfInBounds_toArray,List.set];have HW:=Lib.hid hw;clear hw hbd;cases bd
           ·have dl:decide (rv < rn) = true:=by have:=of_decide_eq_false dd;simp;omega
            have l1:decide ((rv:Int) < (rn:Int)) = true:=by have:=of_decide_eq_false dd;simp;omega
            obtain ⟨V,rfl⟩:∃ V,V = W:=⟨_,rfl⟩;go_upto_region 26 with fail
            refine wp_region_valsG (by kernel_rfl) 195 rfl (by kernel_rfl) (by kernel_rfl) [.slice (some ⟨bf,of,none⟩) N cF,.int .i64 y0,.pointer (some ⟨bf,of + y0,none⟩),.int .i64 fv,.bool true,.bool true,.slice (some ⟨bk,ok,none⟩) N cK,.int .i64 y0,.pointer (some ⟨bk,ok + y0,none⟩),.int .i64 rv,.slice (some ⟨bk,ok,none⟩) N cK,.int .i64 n,.pointer (some ⟨bk,ok + n,none⟩),.int .i64 rn,.bool true,.bool true] rfl (fun W=>Aft V W) (Aft.drew _) ?st2 ?fi2
            case st2 =>
             intro i o v ho hv
             match i,ho,hv with
             | 0,ho,hv =>
              cases ho;cases hv;refine .inl ⟨rfl,fun a W hk hw K hK=>?_⟩;have e2:=hk.s 2;exact op_val (by simp [go_sem,ev' e2]) (hK _ hw)
             | 1,ho,hv =>
              cases ho;cases hv;refine .inl ⟨rfl,fun a W hk hw K hK=>?_⟩;have e18:=hk.s 18;exact op_val (by simp [go_sem,ev' e18]) (hK _ hw)
             | 2,ho,hv =>
              cases ho;cases hv;refine .inl ⟨rfl,fun a W hk hw K hK=>?_⟩;have e108:=hk.t 0;have e109:=hk.t 1;exact op_val (by simp [go_sem,ev' e108,ev' e109,iy]) (hK _ hw)
             | 3,ho,hv =>
              cases ho;cases hv;refine .inl ⟨rfl,fun a W hk hw K hK=>?_⟩;have e110:=hk.t 2;exact op_val (by simp [go_sem,ev' e110,HFV.out W (HW.out.trans hw)]) (hK _ hw)
             | 4,ho,hv =>
              cases ho;cases hv;refine .inl ⟨rfl,fun a W hk hw K hK=>?_⟩;have e111:=hk.t 3;exact op_val (by simp [go_sem,ev' e111,q1]) (hK _ hw)
             | 5,ho,hv =>
              cases ho;cases hv;refine .inl ⟨rfl,fun a W hk hw K hK=>?_⟩;have e112:=hk.t 4;exact op_val (by simp [go_sem,ev' e112]) (hK _ hw)
             | 6,ho,hv =>
              cases ho;cases hv;refine .inl ⟨rfl,fun a W hk hw K hK=>?_⟩;have e3:=hk.s 3;exact op_val (by simp [go_sem,ev' e3]) (hK _ hw)
             | 7,ho,hv =>
              cases ho;cases hv;refine .inl ⟨rfl,fun a W hk hw K hK=>?_⟩;have e18:=hk.s 18;exact op_val (by simp [go_sem,ev' e18]) (hK _ hw)
             | 8,ho,hv =>
              cases ho;cases hv;refine .inl ⟨rfl,fun a W hk hw K hK=>?_⟩;have e114:=hk.t 6;have e115:=hk.t 7;exact op_val (by simp [go_sem,ev' e114,ev' e115,iy]) (hK _ hw)
             | 9,ho,hv =>
              cases ho;cases hv;refine .inl ⟨rfl,fun a W hk hw K hK=>?_⟩;have e116:=hk.t 8;exact op_val (by simp [go_sem,ev' e116,HKV.out W (HW.out.trans hw)]) (hK _ hw)
             | 10,ho,hv =>
              cases ho;cases hv;refine .inl ⟨rfl,fun a W hk hw K hK=>?_⟩;have e3:=hk.s 3;exact op_val (by simp [go_sem,ev' e3]) (hK _ hw)
             | 11,ho,hv =>
              cases ho;cases hv;refine .inl ⟨rfl,fun a W hk hw K hK=>?_⟩;have e12:=hk.s 12;exact op_val (by simp [go_sem,ev' e12]) (hK _ hw)
             | 12,ho,hv =>
              cases ho;cases hv;refine .inl ⟨rfl,fun a W hk hw K hK=>?_⟩;have e118:=hk.t 10;have e119:=hk.t 11;exact op_val (by simp [go_sem,ev' e118,ev' e119,inn]) (hK _ hw)
             | 13,ho,hv =>
              cases ho;cases hv;refine .inl ⟨rfl,fun a W hk hw K hK=>?_⟩;have e120:=hk.t 12;exact op_val (by simp [go_sem,ev' e120,HKN.out W (HW.out.trans hw)]) (hK _ hw)
             | 14,ho,hv =>
              cases ho;cases hv;refine .inl ⟨rfl,fun a W hk hw K hK=>?_⟩;have e117:=hk.t 9;have e121:=hk.t 13;exact op_val (by simp [go_sem,ev' e117,ev' e121,l1,dl]) (hK _ hw)
             | 15,ho,hv =>
              cases ho;cases hv;refine .inl ⟨rfl,fun a W hk hw K hK=>?_⟩;have e113:=hk.t 5;have e122:=hk.t 14;exact op_val (by simp [go_sem,ev' e113,ev' e122]) (hK _ hw)
             | _ + 16,_,hv=>cases hv
            intro W hw;simp only [List.drop_succ_cons,List.drop_zero,List.zip_cons_cons,List.zip_nil_right,putAll];simp only [Act.put,List.setIfInBounds_toArray,List.set];go_wp2_with fail
            exact ⟨⟨j + 1,u + 1,o,hi,lo + 1,by go_num,by go_num,by go_num,by go_num,by go_num,by omega,HZ2.out.trans (HW.out.trans hw),by omega,by omega,by omega,by omega,Lib.hid (by rw [HU.out];simp [d1,d0,dd,dl]),Lib.hid (by rw [HOO.out];simp [d1,d0,dd,dl]),Lib.hid (by rw [HH.out];simp [d1,d0,dd,dl]),Lib.hid (by rw [HL.out];simp [d1,d0,dd,dl])⟩,by simp [intOf];omega⟩
           ·have dl:decide (rv < rn) = false:=by have:=of_decide_eq_true dd;simp;omega
            have l1:decide ((rv:Int) < (rn:Int)) = false:=by have:=of_decide_eq_true dd;simp;omega
            obtain ⟨V,rfl⟩:∃ V,V = W:=⟨_,rfl⟩;go_upto_region 26 with fail
            refine wp_region_valsG (by kernel_rfl) 195 rfl (by kernel_rfl) (by kernel_rfl) [.slice (some ⟨bf,of,none⟩) N cF,.int .i64 y0,.pointer (some ⟨bf,of + y0,none⟩),.int .i64 fv,.bool true,.bool true,.slice (some ⟨bk,ok,none⟩) N cK,.int .i64 y0,.pointer (some ⟨bk,ok + y0,none⟩),.int .i64 rv,.slice (some ⟨bk,ok,none⟩) N cK,.int .i64 n,.pointer (some ⟨bk,ok + n,none⟩),.int .i64 rn,.bool false,.bool false] rfl (fun W=>Aft V W) (Aft.drew _) ?st3 ?fi3
            case st3 =>
             intro i o v ho hv
             match i,ho,hv with
             | 0,ho,hv =>
              cases ho;cases hv;refine .inl ⟨rfl,fun a W hk hw K hK=>?_⟩;have e2:=hk.s 2;exact op_val (by simp [go_sem,ev' e2]) (hK _ hw)
             | 1,ho,hv =>
              cases ho;cases hv;refine .inl ⟨rfl,fun a W hk hw K hK=>?_⟩;have e18:=hk.s 18;exact op_val (by simp [go_sem,ev' e18]) (hK _ hw)
             | 2,ho,hv =>
              cases ho;cases hv;refine .inl ⟨rfl,fun a W hk hw K hK=>?_⟩;have e108:=hk.t 0;have e109:=hk.t 1;exact op_val (by simp [go_sem,ev' e108,ev' e109,iy]) (hK _ hw)
             | 3,ho,hv =>
              cases ho;cases hv;refine .inl ⟨rfl,fun a W hk hw K hK=>?_⟩;have e110:=hk.t 2;exact op_val (by simp [go_sem,ev' e110,HFV.out W (HW.out.trans hw)]) (hK _ hw)
             | 4,ho,hv =>
              cases ho;cases hv;refine .inl ⟨rfl,fun a W hk hw K hK=>?_⟩;have e111:=hk.t 3;exact op_val (by simp [go_sem,ev' e111,q1]) (hK _ hw)
             | 5,ho,hv =>
              cases ho;cases hv;refine .inl ⟨rfl,fun a W hk hw K hK=>?_⟩;have e112:=hk.t 4;exact op_val (by simp [go_sem,ev' e112]) (hK _ hw)
             | 6,ho,hv =>
              cases ho;cases hv;refine .inl ⟨rfl,fun a W hk hw K hK=>?_⟩;have e3:=hk.s 3;exact op_val (by simp [go_sem,ev' e3]) (hK _ hw)
             | 7,ho,hv =>
              cases ho;cases hv;refine .inl ⟨rfl,fun a W hk hw K hK=>?_⟩;have e18:=hk.s 18;exact op_val (by simp [go_sem,ev' e18]) (hK _ hw)
             | 8,ho,hv =>
              cases ho;cases hv;refine .inl ⟨rfl,fun a W hk hw K hK=>?_⟩;have e114:=hk.t 6;have e115:=hk.t 7;exact op_val (by simp [go_sem,ev' e114,ev' e115,iy]) (hK _ hw)
             | 9,ho,hv =>
              cases ho;cases hv;refine .inl ⟨rfl,fun a W hk hw K hK=>?_⟩;have e116:=hk.t 8;exact op_val (by simp [go_sem,ev' e116,HKV.out W (HW.out.trans hw)]) (hK _ hw)
             | 10,ho,hv =>
              cases ho;cases hv;refine .inl ⟨rfl,fun a W hk hw K hK=>?_⟩;have e3:=hk.s 3;exact op_val (by simp [go_sem,ev' e3]) (hK _ hw)
             | 11,ho,hv =>
              cases ho;cases hv;refine .inl ⟨rfl,fun a W hk hw K hK=>?_⟩;have e12:=hk.s 12;exact op_val (by simp [go_sem,ev' e12]) (hK _ hw)
             | 12,ho,hv =>
              cases ho;cases hv;refine .inl ⟨rfl,fun a W hk hw K hK=>?_⟩;have e118:=hk.t 10;have e119:=hk.t 11;exact op_val (by simp [go_sem,ev' e118,ev' e119,inn]) (hK _ hw)
             | 13,ho,hv =>
              cases ho;cases hv;refine .inl ⟨rfl,fun a W hk hw K hK=>?_⟩;have e120:=hk.t 12;exact op_val (by simp [go_sem,ev' e120,HKN.out W (HW.out.trans hw)]) (hK _ hw)
             | 14,ho,hv =>
              cases ho;cases hv;refine .inl ⟨rfl,fun a W hk hw K hK=>?_⟩;have e117:=hk.t 9;have e121:=hk.t 13;exact op_val (by simp [go_sem,ev' e117,ev' e121,l1,dl]) (hK _ hw)
             | 15,ho,hv =>
              cases ho;cases hv;refine .inl ⟨rfl,fun a W hk hw K hK=>?_⟩;have e113:=hk.t 5;have e122:=hk.t 14;exact op_val (by simp [go_sem,ev' e113,ev' e122]) (hK _ hw)
             | _ + 16,_,hv=>cases hv
            intro W hw;simp only [List.drop_succ_cons,List.drop_zero,List.zip_cons_cons,List.zip_nil_right,putAll];simp only [Act.put,List.setIfInBounds_toArray,List.set];go_wp2_with fail
            exact ⟨⟨j + 1,u + 1,o,hi + 1,lo,by go_num,by go_num,by go_num,by go_num,by go_num,by omega,HZ2.out.trans (HW.out.trans hw),by omega,by omega,by omega,by omega,Lib.hid (by rw [HU.out];simp [d1,d0,dd,dl]),Lib.hid (by rw [HOO.out];simp [d1,d0,dd,dl]),Lib.hid (by rw [HH.out];simp [d1,d0,dd,dl]),Lib.hid (by rw [HL.out];simp [d1,d0,dd,dl])⟩,by simp [intOf];omega⟩
          ·by_cases hf0:fv = 0
           ·skip
            have q1:((fv:Int) == 1) = false:=by simp;omega
            have q0:((fv:Int) == 0) = true:=by simp;omega
            have d1:decide (fv = 1) = false:=by simpa using hf1
            have d0:decide (fv = 0) = true:=by simpa using hf0
            go_upto_region 24 with fail
            obtain ⟨bd,hbd⟩:∃ bd,decide (rn <= rv) = bd:=⟨_,rfl⟩;have dd:=hbd;refine wp_region_valsG (by kernel_rfl) 195 rfl (by kernel_rfl) (by kernel_rfl) [.slice (some ⟨bk,ok,none⟩) N cK,.int .i64 y0,.pointer (some ⟨bk,ok + y0,none⟩),.int .i64 rv,.slice (some ⟨bk,ok,none⟩) N cK,.int .i64 n,.pointer (some ⟨bk,ok + n,none⟩),.int .i64 rn,.bool bd] rfl (fun W=>Aft wr W) (Aft.drew _) ?st4 ?fi4
            case st4 =>
             intro i o v ho hv
             match i,ho,hv with
             | 0,ho,hv =>
              cases ho;cases hv;refine .inl ⟨rfl,fun a W hk hw K hK=>?_⟩;have e3:=hk.s 3;exact op_val (by simp [go_sem,ev' e3]) (hK _ hw)
             | 1,ho,hv =>
              cases ho;cases hv;refine .inl ⟨rfl,fun a W hk hw K hK=>?_⟩;have e18:=hk.s 18;exact op_val (by simp [go_sem,ev' e18]) (hK _ hw)
             | 2,ho,hv =>
              cases ho;cases hv;refine .inl ⟨rfl,fun a W hk hw K hK=>?_⟩;have e97:=hk.t 0;have e98:=hk.t 1;exact op_val (by simp [go_sem,ev' e97,ev' e98,iy]) (hK _ hw)
             | 3,ho,hv =>
              cases ho;cases hv;refine .inl ⟨rfl,fun a W hk hw K hK=>?_⟩;have e99:=hk.t 2;exact op_val (by simp [go_sem,ev' e99,HKV.out W hw]) (hK _ hw)
             | 4,ho,hv =>
              cases ho;cases hv;refine .inl ⟨rfl,fun a W hk hw K hK=>?_⟩;have e3:=hk.s 3;exact op_val (by simp [go_sem,ev' e3]) (hK _ hw)
             | 5,ho,hv =>
              cases ho;cases hv;refine .inl ⟨rfl,fun a W hk hw K hK=>?_⟩;have e12:=hk.s 12;exact op_val (by simp [go_sem,ev' e12]) (hK _ hw)
             | 6,ho,hv =>
              cases ho;cases hv;refine .inl ⟨rfl,fun a W hk hw K hK=>?_⟩;have e101:=hk.t 4;have e102:=hk.t 5;exact op_val (by simp [go_sem,ev' e101,ev' e102,inn]) (hK _ hw)
             | 7,ho,hv =>
              cases ho;cases hv;refine .inl ⟨rfl,fun a W hk hw K hK=>?_⟩;have e103:=hk.t 6;exact op_val (by simp [go_sem,ev' e103,HKN.out W hw]) (hK _ hw)
             | 8,ho,hv =>
              cases ho;cases hv;refine .inl ⟨rfl,fun a W hk hw K hK=>?_⟩;have e100:=hk.t 3;have e104:=hk.t 7;exact op_val (by simp [go_sem,ev' e100,ev' e104,hbd]) (hK _ hw)
             | _ + 9,_,hv=>cases hv
            intro W hw;simp only [List.drop_succ_cons,List.drop_zero,List.zip_cons_cons,List.zip_nil_right,putAll];simp only [Act.put,List.setIfInBounds_toArray,List.set];have HW:=Lib.hid hw;clear hw hbd;cases bd
            ·have dl:decide (rv < rn) = true:=by have:=of_decide_eq_false dd;simp;omega
             have l1:decide ((rv:Int) < (rn:Int)) = true:=by have:=of_decide_eq_false dd;simp;omega
             obtain ⟨V,rfl⟩:∃ V,V = W:=⟨_,rfl⟩;go_upto_region 26 with fail
             refine wp_region_valsG (by kernel_rfl) 195 rfl (by kernel_rfl) (by kernel_rfl) [.slice (some ⟨bf,of,none⟩) N cF,.int .i64 y0,.pointer (some ⟨bf,of + y0,none⟩),.int .i64 fv,.bool false,.bool false,undef,undef,undef,undef,undef,undef,undef,undef,undef,.bool false] rfl (fun W=>Aft V W) (Aft.drew _) ?st5 ?fi5
             case st5 =>
              intro i o v ho hv
              match i,ho,hv with
              | 0,ho,hv =>
               cases ho;cases hv;refine .inl ⟨rfl,fun a W hk hw K hK=>?_⟩;have e2:=hk.s 2;exact op_val (by simp [go_sem,ev' e2]) (hK _ hw)
              | 1,ho,hv =>
               cases ho;cases hv;refine .inl ⟨rfl,fun a W hk hw K hK=>?_⟩;have e18:=hk.s 18;exact op_val (by simp [go_sem,ev' e18]) (hK _ hw)
              | 2,ho,hv =>
               cases ho;cases hv;refine .inl ⟨rfl,fun a W hk hw K hK=>?_⟩;have e108:=hk.t 0;have e109:=hk.t 1;exact op_val (by simp [go_sem,ev' e108,ev' e109,iy]) (hK _ hw)
              | 3,ho,hv =>
               cases ho;cases hv;refine .inl ⟨rfl,fun a W hk hw K hK=>?_⟩;have e110:=hk.t 2;exact op_val (by simp [go_sem,ev' e110,HFV.out W (HW.out.trans hw)]) (hK _ hw)
              | 4,ho,hv =>
               cases ho;cases hv;refine .inl ⟨rfl,fun a W hk hw K hK=>?_⟩;have e111:=hk.t 3;exact op_val (by simp [go_sem,ev' e111,q1]) (hK _ hw)
              | 5,ho,hv =>
               cases ho;cases hv;refine .inl ⟨rfl,fun a W hk hw K hK=>?_⟩;have e112:=hk.t 4;exact op_val (by simp [go_sem,ev' e112]) (hK _ hw)
              | 6,ho,hv=>cases ho;cases hv;exact .inr ⟨rfl,rfl⟩
              | 7,ho,hv=>cases ho;cases hv;exact .inr ⟨rfl,rfl⟩
              | 8,ho,hv=>cases ho;cases hv;exact .inr ⟨rfl,rfl⟩
              | 9,ho,hv=>cases ho;cases hv;exact .inr ⟨rfl,rfl⟩
              | 10,ho,hv=>cases ho;cases hv;exact .inr ⟨rfl,rfl⟩
              | 11,ho,hv=>cases ho;cases hv;exact .inr ⟨rfl,rfl⟩
              | 12,ho,hv=>cases ho;cases hv;exact .inr ⟨rfl,rfl⟩
              | 13,ho,hv=>cases ho;cases hv;exact .inr ⟨rfl,rfl⟩
              | 14,ho,hv=>cases ho;cases hv;exact .inr ⟨rfl,rfl⟩
              | 15,ho,hv =>
               cases ho;cases hv;refine .inl ⟨rfl,fun a W hk hw K hK=>?_⟩;have e113:=hk.t 5;have e122:=hk.t 14;exact op_val (by simp [go_sem,ev' e113,ev' e122]) (hK _ hw)
              | _ + 16,_,hv=>cases hv
             intro W hw;simp only [List.drop_succ_cons,List.drop_zero,List.zip_cons_cons,List.zip_nil_right,putAll];simp only [Act.put,List.setIfInBounds_toArray,List.set];go_wp2_with fail
             exact ⟨⟨j + 1,u,o + 1,hi,lo,by go_num,by go_num,by go_num,by go_num,by go_num,by omega,HZ2.out.trans (HW.out.trans hw),by omega,by omega,by omega,by omega,Lib.hid (by rw [HU.out];simp [d1,d0,dd,dl]),Lib.hid (by rw [HOO.out];simp [d1,d0,dd,dl]),Lib.hid (by rw [HH.out];simp [d1,d0,dd,dl]),Lib.hid (by rw [HL.out];simp [d1,d0,dd,dl])⟩,by simp [intOf];omega⟩
            ·have dl:decide (rv < rn) = false:=by have:=of_decide_eq_true dd;simp;omega
             have l1:decide ((rv:Int) < (rn:Int)) = false:=by have:=of_decide_eq_true dd;simp;omega
             obtain ⟨V,rfl⟩:∃ V,V = W:=⟨_,rfl⟩;go_upto_region 26 with fail
             refine wp_region_valsG (by kernel_rfl) 195 rfl (by kernel_rfl) (by kernel_rfl) [.slice (some ⟨bf,of,none⟩) N cF,.int .i64 y0,.pointer (some ⟨bf,of + y0,none⟩),.int .i64 fv,.bool false,.bool false,undef,undef,undef,undef,undef,undef,undef,undef,undef,.bool false] rfl (fun W=>Aft V W) (Aft.drew _) ?st6 ?fi6
             case st6 =>
              intro i o v ho hv
              match i,ho,hv with
              | 0,ho,hv =>
               cases ho;cases hv;refine .inl ⟨rfl,fun a W hk hw K hK=>?_⟩;have e2:=hk.s 2;exact op_val (by simp [go_sem,ev' e2]) (hK _ hw)
              | 1,ho,hv =>
               cases ho;cases hv;refine .inl ⟨rfl,fun a W hk hw K hK=>?_⟩;have e18:=hk.s 18;exact op_val (by simp [go_sem,ev' e18]) (hK _ hw)
              | 2,ho,hv =>
               cases ho;cases hv;refine .inl ⟨rfl,fun a W hk hw K hK=>?_⟩;have e108:=hk.t 0;have e109:=hk.t 1;exact op_val (by simp [go_sem,ev' e108,ev' e109,iy]) (hK _ hw)
              | 3,ho,hv =>
               cases ho;cases hv;refine .inl ⟨rfl,fun a W hk hw K hK=>?_⟩;have e110:=hk.t 2;exact op_val (by simp [go_sem,ev' e110,HFV.out W (HW.out.trans hw)]) (hK _ hw)
              | 4,ho,hv =>
               cases ho;cases hv;refine .inl ⟨rfl,fun a W hk hw K hK=>?_⟩;have e111:=hk.t 3;exact op_val (by simp [go_sem,ev' e111,q1]) (hK _ hw)
              | 5,ho,hv =>
               cases ho;cases hv;refine .inl ⟨rfl,fun a W hk hw K hK=>?_⟩;have e112:=hk.t 4;exact op_val (by simp [go_sem,ev' e112]) (hK _ hw)
              | 6,ho,hv=>cases ho;cases hv;exact .inr ⟨rfl,rfl⟩
              | 7,ho,hv=>cases ho;cases hv;exact .inr ⟨rfl,rfl⟩
              | 8,ho,hv=>cases ho;cases hv;exact .inr ⟨rfl,rfl⟩
              | 9,ho,hv=>cases ho;cases hv;exact .inr ⟨rfl,rfl⟩
              | 10,ho,hv=>cases ho;cases hv;exact .inr ⟨rfl,rfl⟩
              | 11,ho,hv=>cases ho;cases hv;exact .inr ⟨rfl,rfl⟩
              | 12,ho,hv=>cases ho;cases hv;exact .inr ⟨rfl,rfl⟩
              | 13,ho,hv=>cases ho;cases hv;exact .inr ⟨rfl,rfl⟩
              | 14,ho,hv=>cases ho;cases hv;exact .inr ⟨rfl,rfl⟩
              | 15,ho,hv =>
               cases ho;cases hv;refine .inl ⟨rfl,fun a W hk hw K hK=>?_⟩;have e113:=hk.t 5;have e122:=hk.t 14;exact op_val (by simp [go_sem,ev' e113,ev' e122]) (hK _ hw)
              | _ + 16,_,hv=>cases hv
             intro W hw;simp only [List.drop_succ_cons,List.drop_zero,List.zip_cons_cons,List.zip_nil_right,putAll];simp only [Act.put,List.setIfInBounds_toArray,List.set];go_wp2_with fail
             exact ⟨⟨j + 1,u,o + 1,hi + 1,lo,by go_num,by go_num,by go_num,by go_num,by go_num,by omega,HZ2.out.trans (HW.out.trans hw),by omega,by omega,by omega,by omega,Lib.hid (by rw [HU.out];simp [d1,d0,dd,dl]),Lib.hid (by rw [HOO.out];simp [d1,d0,dd,dl]),Lib.hid (by rw [HH.out];simp [d1,d0,dd,dl]),Lib.hid (by rw [HL.out];simp [d1,d0,dd,dl])⟩,by simp [intOf];omega⟩
           ·skip
            have q1:((fv:Int) == 1) = false:=by simp;omega
            have q0:((fv:Int) == 0) = false:=by simp;omega
            have d1:decide (fv = 1) = false:=by simpa using hf1
            have d0:decide (fv = 0) = false:=by simpa using hf0
            go_upto_region 24 with fail
            obtain ⟨bd,hbd⟩:∃ bd,decide (rn <= rv) = bd:=⟨_,rfl⟩;have dd:=hbd;refine wp_region_valsG (by kernel_rfl) 195 rfl (by kernel_rfl) (by kernel_rfl) [.slice (some ⟨bk,ok,none⟩) N cK,.int .i64 y0,.pointer (some ⟨bk,ok + y0,none⟩),.int .i64 rv,.slice (some ⟨bk,ok,none⟩) N cK,.int .i64 n,.pointer (some ⟨bk,ok + n,none⟩),.int .i64 rn,.bool bd] rfl (fun W=>Aft wr W) (Aft.drew _) ?st7 ?fi7
            case st7 =>
             intro i o v ho hv
             match i,ho,hv with
             | 0,ho,hv =>
              cases ho;cases hv;refine .inl ⟨rfl,fun a W hk hw K hK=>?_⟩;have e3:=hk.s 3;exact op_val (by simp [go_sem,ev' e3]) (hK _ hw)
             | 1,ho,hv =>
              cases ho;cases hv;refine .inl ⟨rfl,fun a W hk hw K hK=>?_⟩;have e18:=hk.s 18;exact op_val (by simp [go_sem,ev' e18]) (hK _ hw)
             | 2,ho,hv =>
              cases ho;cases hv;refine .inl ⟨rfl,fun a W hk hw K hK=>?_⟩;have e97:=hk.t 0;have e98:=hk.t 1;exact op_val (by simp [go_sem,ev' e97,ev' e98,iy]) (hK _ hw)
             | 3,ho,hv =>
              cases ho;cases hv;refine .inl ⟨rfl,fun a W hk hw K hK=>?_⟩;have e99:=hk.t 2;exact op_val (by simp [go_sem,ev' e99,HKV.out W hw]) (hK _ hw)
             | 4,ho,hv =>
              cases ho;cases hv;refine .inl ⟨rfl,fun a W hk hw K hK=>?_⟩;have e3:=hk.s 3;exact op_val (by simp [go_sem,ev' e3]) (hK _ hw)
             | 5,ho,hv =>
              cases ho;cases hv;refine .inl ⟨rfl,fun a W hk hw K hK=>?_⟩;have e12:=hk.s 12;exact op_val (by simp [go_sem,ev' e12]) (hK _ hw)
             | 6,ho,hv =>
              cases ho;cases hv;refine .inl ⟨rfl,fun a W hk hw K hK=>?_⟩;have e101:=hk.t 4;have e102:=hk.t 5;exact op_val (by simp [go_sem,ev' e101,ev' e102,inn]) (hK _ hw)
             | 7,ho,hv =>
              cases ho;cases hv;refine .inl ⟨rfl,fun a W hk hw K hK=>?_⟩;have e103:=hk.t 6;exact op_val (by simp [go_sem,ev' e103,HKN.out W hw]) (hK _ hw)
             | 8,ho,hv =>
              cases ho;cases hv;refine .inl ⟨rfl,fun a W hk hw K hK=>?_⟩;have e100:=hk.t 3;have e104:=hk.t 7;exact op_val (by simp [go_sem,ev' e100,ev' e104,hbd]) (hK _ hw)
             | _ + 9,_,hv=>cases hv
            intro W hw;simp only [List.drop_succ_cons,List.drop_zero,List.zip_cons_cons,List.zip_nil_right,putAll];simp only [Act.put,List.setIfInBounds_toArray,List.set];have HW:=Lib.hid hw;clear hw hbd;cases bd
            ·have dl:decide (rv < rn) = true:=by have:=of_decide_eq_false dd;simp;omega
             have l1:decide ((rv:Int) < (rn:Int)) = true:=by have:=of_decide_eq_false dd;simp;omega
             obtain ⟨V,rfl⟩:∃ V,V = W:=⟨_,rfl⟩;go_upto_region 26 with fail
             refine wp_region_valsG (by kernel_rfl) 195 rfl (by kernel_rfl) (by kernel_rfl) [.slice (some ⟨bf,of,none⟩) N cF,.int .i64 y0,.pointer (some ⟨bf,of + y0,none⟩),.int .i64 fv,.bool false,.bool false,undef,undef,undef,undef,undef,undef,undef,undef,undef,.bool false] rfl (fun W=>Aft V W) (Aft.drew _) ?st8 ?fi8
             case st8 =>
              intro i o v ho hv
              match i,ho,hv with
              | 0,ho,hv =>
               cases ho;cases hv;refine .inl ⟨rfl,fun a W hk hw K hK=>?_⟩;have e2:=hk.s 2;exact op_val (by simp [go_sem,ev' e2]) (hK _ hw)
              | 1,ho,hv =>
               cases ho;cases hv;refine .inl ⟨rfl,fun a W hk hw K hK=>?_⟩;have e18:=hk.s 18;exact op_val (by simp [go_sem,ev' e18]) (hK _ hw)
              | 2,ho,hv =>
               cases ho;cases hv;refine .inl ⟨rfl,fun a W hk hw K hK=>?_⟩;have e108:=hk.t 0;have e109:=hk.t 1;exact op_val (by simp [go_sem,ev' e108,ev' e109,iy]) (hK _ hw)
              | 3,ho,hv =>
               cases ho;cases hv;refine .inl ⟨rfl,fun a W hk hw K hK=>?_⟩;have e110:=hk.t 2;exact op_val (by simp [go_sem,ev' e110,HFV.out W (HW.out.trans hw)]) (hK _ hw)
              | 4,ho,hv =>
               cases ho;cases hv;refine .inl ⟨rfl,fun a W hk hw K hK=>?_⟩;have e111:=hk.t 3;exact op_val (by simp [go_sem,ev' e111,q1]) (hK _ hw)
              | 5,ho,hv =>
               cases ho;cases hv;refine .inl ⟨rfl,fun a W hk hw K hK=>?_⟩;have e112:=hk.t 4;exact op_val (by simp [go_sem,ev' e112]) (hK _ hw)
              | 6,ho,hv=>cases ho;cases hv;exact .inr ⟨rfl,rfl⟩
              | 7,ho,hv=>cases ho;cases hv;exact .inr ⟨rfl,rfl⟩
              | 8,ho,hv=>cases ho;cases hv;exact .inr ⟨rfl,rfl⟩
              | 9,ho,hv=>cases ho;cases hv;exact .inr ⟨rfl,rfl⟩
              | 10,ho,hv=>cases ho;cases hv;exact .inr ⟨rfl,rfl⟩
              | 11,ho,hv=>cases ho;cases hv;exact .inr ⟨rfl,rfl⟩
              | 12,ho,hv=>cases ho;cases hv;exact .inr ⟨rfl,rfl⟩
              | 13,ho,hv=>cases ho;cases hv;exact .inr ⟨rfl,rfl⟩
              | 14,ho,hv=>cases ho;cases hv;exact .inr ⟨rfl,rfl⟩
              | 15,ho,hv =>
               cases ho;cases hv;refine .inl ⟨rfl,fun a W hk hw K hK=>?_⟩;have e113:=hk.t 5;have e122:=hk.t 14;exact op_val (by simp [go_sem,ev' e113,ev' e122]) (hK _ hw)
              | _ + 16,_,hv=>cases hv
             intro W hw;simp only [List.drop_succ_cons,List.drop_zero,List.zip_cons_cons,List.zip_nil_right,putAll];simp only [Act.put,List.setIfInBounds_toArray,List.set];go_wp2_with fail
             exact ⟨⟨j + 1,u,o,hi,lo,by go_num,by go_num,by go_num,by go_num,by go_num,by omega,HZ2.out.trans (HW.out.trans hw),by omega,by omega,by omega,by omega,Lib.hid (by rw [HU.out];simp [d1,d0,dd,dl]),Lib.hid (by rw [HOO.out];simp [d1,d0,dd,dl]),Lib.hid (by rw [HH.out];simp [d1,d0,dd,dl]),Lib.hid (by rw [HL.out];simp [d1,d0,dd,dl])⟩,by simp [intOf];omega⟩
            ·have dl:decide (rv < rn) = false:=by have:=of_decide_eq_true dd;simp;omega
             have l1:decide ((rv:Int) < (rn:Int)) = false:=by have:=of_decide_eq_true dd;simp;omega
             obtain ⟨V,rfl⟩:∃ V,V = W:=⟨_,rfl⟩;go_upto_region 26 with fail
             refine wp_region_valsG (by kernel_rfl) 195 rfl (by kernel_rfl) (by kernel_rfl) [.slice (some ⟨bf,of,none⟩) N cF,.int .i64 y0,.pointer (some ⟨bf,of + y0,none⟩),.int .i64 fv,.bool false,.bool false,undef,undef,undef,undef,undef,undef,undef,undef,undef,.bool false] rfl (fun W=>Aft V W) (Aft.drew _) ?st9 ?fi9
             case st9 =>
              intro i o v ho hv
              match i,ho,hv with
              | 0,ho,hv =>
               cases ho;cases hv;refine .inl ⟨rfl,fun a W hk hw K hK=>?_⟩;have e2:=hk.s 2;exact op_val (by simp [go_sem,ev' e2]) (hK _ hw)
              | 1,ho,hv =>
               cases ho;cases hv;refine .inl ⟨rfl,fun a W hk hw K hK=>?_⟩;have e18:=hk.s 18;exact op_val (by simp [go_sem,ev' e18]) (hK _ hw)
              | 2,ho,hv =>
               cases ho;cases hv;refine .inl ⟨rfl,fun a W hk hw K hK=>?_⟩;have e108:=hk.t 0;have e109:=hk.t 1;exact op_val (by simp [go_sem,ev' e108,ev' e109,iy]) (hK _ hw)
              | 3,ho,hv =>
               cases ho;cases hv;refine .inl ⟨rfl,fun a W hk hw K hK=>?_⟩;have e110:=hk.t 2;exact op_val (by simp [go_sem,ev' e110,HFV.out W (HW.out.trans hw)]) (hK _ hw)
              | 4,ho,hv =>
               cases ho;cases hv;refine .inl ⟨rfl,fun a W hk hw K hK=>?_⟩;have e111:=hk.t 3;exact op_val (by simp [go_sem,ev' e111,q1]) (hK _ hw)
              | 5,ho,hv =>
               cases ho;cases hv;refine .inl ⟨rfl,fun a W hk hw K hK=>?_⟩;have e112:=hk.t 4;exact op_val (by simp [go_sem,ev' e112]) (hK _ hw)
              | 6,ho,hv=>cases ho;cases hv;exact .inr ⟨rfl,rfl⟩
              | 7,ho,hv=>cases ho;cases hv;exact .inr ⟨rfl,rfl⟩
              | 8,ho,hv=>cases ho;cases hv;exact .inr ⟨rfl,rfl⟩
              | 9,ho,hv=>cases ho;cases hv;exact .inr ⟨rfl,rfl⟩
              | 10,ho,hv=>cases ho;cases hv;exact .inr ⟨rfl,rfl⟩
              | 11,ho,hv=>cases ho;cases hv;exact .inr ⟨rfl,rfl⟩
              | 12,ho,hv=>cases ho;cases hv;exact .inr ⟨rfl,rfl⟩
              | 13,ho,hv=>cases ho;cases hv;exact .inr ⟨rfl,rfl⟩
              | 14,ho,hv=>cases ho;cases hv;exact .inr ⟨rfl,rfl⟩
              | 15,ho,hv =>
               cases ho;cases hv;refine .inl ⟨rfl,fun a W hk hw K hK=>?_⟩;have e113:=hk.t 5;have e122:=hk.t 14;exact op_val (by simp [go_sem,ev' e113,ev' e122]) (hK _ hw)
              | _ + 16,_,hv=>cases hv
             intro W hw;simp only [List.drop_succ_cons,List.drop_zero,List.zip_cons_cons,List.zip_nil_right,putAll];simp only [Act.put,List.setIfInBounds_toArray,List.set];go_wp2_with fail
             exact ⟨⟨j + 1,u,o,hi + 1,lo,by go_num,by go_num,by go_num,by go_num,by go_num,by omega,HZ2.out.trans (HW.out.trans hw),by omega,by omega,by omega,by omega,Lib.hid (by rw [HU.out];simp [d1,d0,dd,dl]),Lib.hid (by rw [HOO.out];simp [d1,d0,dd,dl]),Lib.hid (by rw [HH.out];simp [d1,d0,dd,dl]),Lib.hid (by rw [HL.out];simp [d1,d0,dd,dl])⟩,by simp [intOf];omega⟩
        ·have t3:decide (j < S.length) = false:=by simpa using hjl
         obtain rfl:S.length = j:=by omega
         have HHR:Hid (HLD n = refH br fn rn u o hi lo):=Lib.hid (by rw [HHELD.out,HU.out,HOO.out,HH.out,HL.out]);obtain ⟨hb,hhb⟩:∃ hb,HLD n = hb:=⟨_,rfl⟩;have HHB:Hid (hb = refH br fn rn u o hi lo):=Lib.hid (by rw [<- hhb];exact HHR.out);have HHL2:=Lib.hid hhb;have f0:=HFN.out wr HZ3.out;have r0:=HKNN.out wr HZ3.out;have H64W:=Lib.hid (H64.out wr HZ3.out);clear hhb HHR HHELD HU HOO HH HL hjl;go_upto_block 6 with fail
         clear k0 k1 k2 k3;go_cut [19] from 126 to 192 (fun s19 wx=>s19 = .bool hb /\ wx = wr)
         case first =>
          refine wp_block ?_;cases br
          ·skip
           by_cases h_fn0:fn = 0
           ·skip
            have g_fn0:((fn:Int) == 0) = true:=by simp;omega
            by_cases h_rn0:rn = 0
            ·skip
             have g_rn0:((rn:Int) == 0) = true:=by simp;omega
             by_cases h_u0:u = 0
             ·skip
              have g_u0:((u:Int) == 0) = true:=by simp;omega
              by_cases h_op:0 < o
              ·skip
               have g_op:decide ((0:Int) < (o:Int)) = true:=decide_eq_true (by omega);(repeat (first | go_big_skip | go_big_want | go_big_move | go_big_op | go_step | go_upon | go_back));go_at_call 64;refine H64W.out.mono ?_;rintro e wz ⟨rfl,rfl⟩;dsimp only;(repeat (first | go_big_skip | go_big_want | go_big_move | go_big_op | go_step | go_upon | go_back));go_meet;exact ⟨by rw [HHB.out];simp [refH,h_fn0,h_rn0,h_u0,h_op],rfl⟩
              ·skip
               have g_op:decide ((0:Int) < (o:Int)) = false:=decide_eq_false (by omega);(repeat (first | go_big_skip | go_big_want | go_big_move | go_big_op | go_step | go_upon | go_back));go_at_call 64;refine H64W.out.mono ?_;rintro e wz ⟨rfl,rfl⟩;dsimp only;(repeat (first | go_big_skip | go_big_want | go_big_move | go_big_op | go_step | go_upon | go_back));go_meet;exact ⟨by rw [HHB.out];simp [refH,h_fn0,h_rn0,h_u0,h_op],rfl⟩
             ·skip
              have g_u0:((u:Int) == 0) = false:=by simp;omega
              (repeat (first | go_big_skip | go_big_want | go_big_move | go_big_op | go_step | go_upon | go_back));go_at_call 64;refine H64W.out.mono ?_;rintro e wz ⟨rfl,rfl⟩;dsimp only;(repeat (first | go_big_skip | go_big_want | go_big_move | go_big_op | go_step | go_upon | go_back));go_meet;exact ⟨by rw [HHB.out];simp [refH,h_fn0,h_rn0,h_u0],rfl⟩
            ·skip
             have g_rn0:((rn:Int) == 0) = false:=by simp;omega
             (repeat (first | go_big_skip | go_big_want | go_big_move | go_big_op | go_step | go_upon | go_back));go_at_call 64;refine H64W.out.mono ?_;rintro e wz ⟨rfl,rfl⟩;dsimp only;(repeat (first | go_big_skip | go_big_want | go_big_move | go_big_op | go_step | go_upon | go_back));go_meet;exact ⟨by rw [HHB.out];simp [refH,h_fn0,h_rn0],rfl⟩
           ·skip
            have g_fn0:((fn:Int) == 0) = false:=by simp;omega
            by_cases h_fn1:fn = 1
            ·skip
             have g_fn1:((fn:Int) == 1) = true:=by simp;omega
             by_cases h_rp:0 < rn
             ·skip
              have g_rp:decide ((0:Int) < (rn:Int)) = true:=decide_eq_true (by omega);by_cases h_u0:u = 0
              ·skip
               have g_u0:((u:Int) == 0) = true:=by simp;omega
               by_cases h_o0:o = 0
               ·skip
                have g_o0:((o:Int) == 0) = true:=by simp;omega
                by_cases h_h0:hi = 0
                ·skip
                 have g_h0:((hi:Int) == 0) = true:=by simp;omega
                 (repeat (first | go_big_skip | go_big_want | go_big_move | go_big_op | go_step | go_upon | go_back));go_at_call 64;refine H64W.out.mono ?_;rintro e wz ⟨rfl,rfl⟩;dsimp only;(repeat (first | go_big_skip | go_big_want | go_big_move | go_big_op | go_step | go_upon | go_back));go_meet;exact ⟨by rw [HHB.out];simp [refH,h_fn0,h_fn1,h_rp,h_u0,h_o0,h_h0],rfl⟩
                ·skip
                 have g_h0:((hi:Int) == 0) = false:=by simp;omega
                 (repeat (first | go_big_skip | go_big_want | go_big_move | go_big_op | go_step | go_upon | go_back));go_at_call 64;refine H64W.out.mono ?_;rintro e wz ⟨rfl,rfl⟩;dsimp only;(repeat (first | go_big_skip | go_big_want | go_big_move | go_big_op | go_step | go_upon | go_back));go_meet;exact ⟨by rw [HHB.out];simp [refH,h_fn0,h_fn1,h_rp,h_u0,h_o0,h_h0],rfl⟩
               ·skip
                have g_o0:((o:Int) == 0) = false:=by simp;omega
                (repeat (first | go_big_skip | go_big_want | go_big_move | go_big_op | go_step | go_upon | go_back));go_at_call 64;refine H64W.out.mono ?_;rintro e wz ⟨rfl,rfl⟩;dsimp only;(repeat (first | go_big_skip | go_big_want | go_big_move | go_big_op | go_step | go_upon | go_back));go_meet;exact ⟨by rw [HHB.out];simp [refH,h_fn0,h_fn1,h_rp,h_u0,h_o0],rfl⟩
              ·skip
               have g_u0:((u:Int) == 0) = false:=by simp;omega
               (repeat (first | go_big_skip | go_big_want | go_big_move | go_big_op | go_step | go_upon | go_back));go_at_call 64;refine H64W.out.mono ?_;rintro e wz ⟨rfl,rfl⟩;dsimp only;(repeat (first | go_big_skip | go_big_want | go_big_move | go_big_op | go_step | go_upon | go_back));go_meet;exact ⟨by rw [HHB.out];simp [refH,h_fn0,h_fn1,h_rp,h_u0],rfl⟩
             ·skip
              have g_rp:decide ((0:Int) < (rn:Int)) = false:=decide_eq_false (by omega);(repeat (first | go_big_skip | go_big_want | go_big_move | go_big_op | go_step | go_upon | go_back));go_at_call 64;refine H64W.out.mono ?_;rintro e wz ⟨rfl,rfl⟩;dsimp only;(repeat (first | go_big_skip | go_big_want | go_big_move | go_big_op | go_step | go_upon | go_back));go_meet;exact ⟨by rw [HHB.out];simp [refH,h_fn0,h_fn1,h_rp],rfl⟩
            ·skip
             have g_fn1:((fn:Int) == 1) = false:=by simp;omega
             by_cases h_rp:0 < rn
             ·skip
              have g_rp:decide ((0:Int) < (rn:Int)) = true:=decide_eq_true (by omega);by_cases h_lp:0 < lo
              ·skip
               have g_lp:decide ((0:Int) < (lo:Int)) = true:=decide_eq_true (by omega);(repeat (first | go_big_skip | go_big_want | go_big_move | go_big_op | go_step | go_upon | go_back));go_at_call 64;refine H64W.out.mono ?_;rintro e wz ⟨rfl,rfl⟩;dsimp only;(repeat (first | go_big_skip | go_big_want | go_big_move | go_big_op | go_step | go_upon | go_back));go_meet;exact ⟨by rw [HHB.out];simp [refH,h_fn0,h_fn1,h_rp,h_lp],rfl⟩
              ·skip
               have g_lp:decide ((0:Int) < (lo:Int)) = false:=decide_eq_false (by omega);(repeat (first | go_big_skip | go_big_want | go_big_move | go_big_op | go_step | go_upon | go_back));go_at_call 64;refine H64W.out.mono ?_;rintro e wz ⟨rfl,rfl⟩;dsimp only;(repeat (first | go_big_skip | go_big_want | go_big_move | go_big_op | go_step | go_upon | go_back));go_meet;exact ⟨by rw [HHB.out];simp [refH,h_fn0,h_fn1,h_rp,h_lp],rfl⟩
             ·skip
              have g_rp:decide ((0:Int) < (rn:Int)) = false:=decide_eq_false (by omega);(repeat (first | go_big_skip | go_big_want | go_big_move | go_big_op | go_step | go_upon | go_back));go_at_call 64;refine H64W.out.mono ?_;rintro e wz ⟨rfl,rfl⟩;dsimp only;(repeat (first | go_big_skip | go_big_want | go_big_move | go_big_op | go_step | go_upon | go_back));go_meet;exact ⟨by rw [HHB.out];simp [refH,h_fn0,h_fn1,h_rp],rfl⟩
          ·skip
           by_cases h_fn2:fn = 2
           ·skip
            have g_fn2:((fn:Int) == 2) = true:=by simp;omega
            by_cases h_rn0:rn = 0
            ·skip
             have g_rn0:((rn:Int) == 0) = true:=by simp;omega
             (repeat (first | go_big_skip | go_big_want | go_big_move | go_big_op | go_step | go_upon | go_back));go_at_call 64;refine H64W.out.mono ?_;rintro e wz ⟨rfl,rfl⟩;dsimp only;(repeat (first | go_big_skip | go_big_want | go_big_move | go_big_op | go_step | go_upon | go_back));go_meet;exact ⟨by rw [HHB.out];simp [refH,h_fn2,h_rn0],rfl⟩
            ·skip
             have g_rn0:((rn:Int) == 0) = false:=by simp;omega
             (repeat (first | go_big_skip | go_big_want | go_big_move | go_big_op | go_step | go_upon | go_back));go_at_call 64;refine H64W.out.mono ?_;rintro e wz ⟨rfl,rfl⟩;dsimp only;(repeat (first | go_big_skip | go_big_want | go_big_move | go_big_op | go_step | go_upon | go_back));go_meet;exact ⟨by rw [HHB.out];simp [refH,h_fn2,h_rn0],rfl⟩
           ·skip
            have g_fn2:((fn:Int) == 2) = false:=by simp;omega
            (repeat (first | go_big_skip | go_big_want | go_big_move | go_big_op | go_step | go_upon | go_back));go_at_call 64;refine H64W.out.mono ?_;rintro e wz ⟨rfl,rfl⟩;dsimp only;(repeat (first | go_big_skip | go_big_want | go_big_move | go_big_op | go_step | go_upon | go_back));go_meet;exact ⟨by rw [HHB.out];simp [refH,h_fn2],rfl⟩
         obtain ⟨rfl,rfl⟩:=hcut;obtain ⟨wr,rfl⟩:∃ wr,wr = wc:=⟨_,rfl⟩;clear f0 r0 H64W HHB;cases hb
         ·have HALL:Hid ((List.range N).all HLD = false):=Lib.hid (all_range_no hnN HHL2.out);go_wp2_with fail
          go_ret2;exact ⟨by rw [HE0.out,HALL.out];rfl,H0.out.trans (HY.out.trans HZ3.out)⟩
         ·have HOK2:Hid (∀ j,j < n + 1 -> HLD j = true):=Lib.hid fun j hj=>by
           by_cases e:j = n
           ·subst e;exact HHL2.out
           ·exact HOK.out j (by omega)
          go_wp2_with fail
          exact ⟨⟨n + 1,by go_num,by omega,HZ3.out,HOK2⟩,by simp [intOf];omega⟩
      ·have t2:decide (n < N) = false:=by simpa using hnN
       have HALL:Hid ((List.range N).all HLD = true):=Lib.hid (List.all_eq_true.2 fun j hj=>HOK.out j (by have:=List.mem_range.1 hj;omega));clear HOK;go_wp2_with fail
       go_ret2;exact ⟨by rw [HE0.out,HALL.out];rfl,H0.out.trans (HY.out.trans HZ.out)⟩
  ·have e2:((K.length:Int) != (N:Int)) = true:=by simp;omega
   have HE3:Hid (E = 3):=Lib.hid (by have:=HE.out;rw [if_pos (.inr (by omega))] at this;exact this.symm);go_wp2_with fail
   go_ret2;exact ⟨by rw [HE3.out];rfl,H0.out.trans HA1.out⟩
 ·have e1:((F.length:Int) != (N:Int)) = true:=by simp;omega
  have HE3:Hid (E = 3):=Lib.hid (by have:=HE.out;rw [if_pos (.inl (by omega))] at this;exact this.symm);go_wp2_with fail
  go_ret2;exact ⟨by rw [HE3.out];rfl,H0.out.trans HA1.out⟩
end Go.Proofs
end
