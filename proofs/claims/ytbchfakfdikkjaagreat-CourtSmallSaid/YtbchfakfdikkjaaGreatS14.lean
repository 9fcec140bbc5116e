/- Own texts, merged: CtRh CtPr CtQr CtGr CtCl. -/
import Derived.Test.YtbchfakfdikkjaaGreatS13
import Derived.ProofKit
import Derived.Deep.Slices
import Derived.Deep.Strs
import Derived.ChangeArms
import Derived.OpenShut
set_option linter.unusedSimpArgs false
set_option linter.unusedVariables false
set_option linter.unnecessarySimpa false
section
/- Walks: the reference's Many 21. -/
namespace Go.Proofs
open Go.RowKit
open Court (refL begF noS struckB award winB)
attribute [local go_sem] Oper.semAt_some
theorem bits_i64_one (a:Nat) (ha:a < 1000000):bits .and .i64 (a:Int) 1 = ((a % 2:Nat):Int):=by
 have h1:(BitVec.ofInt 64 (a:Int)).toNat = a:=by
  rw [BitVec.ofInt_natCast,BitVec.toNat_ofNat];exact Nat.mod_eq_of_lt (by omega)
 have h2:(BitVec.ofInt 64 1).toNat = 1:=by decide
 show IntKind.i64.wrap ((BitVec.ofInt 64 (a:Int) &&& BitVec.ofInt 64 1).toNat:Int) = _;rw [BitVec.toNat_and,h1,h2,Nat.and_one_is_mod,IntKind.wrap_i64];omega
theorem bits_big {m k:Nat} (hm:m < 1000000):(bits .and .i64 ((m:Int) / 2 ^ k) 1 == 1) = m.testBit k:=by
 have e:((m:Int) / 2 ^ k) = ((m / 2 ^ k:Nat):Int):=by push_cast;rfl
 rw [e,bits_i64_one _ (Nat.lt_of_le_of_lt (Nat.div_le_self _ _) hm),Nat.testBit_eq_decide_div_mod_eq];by_cases h:m / 2 ^ k % 2 = 1
 ·rw [h];rfl
 ·rw [decide_eq_false h];have:¬ (((m / 2 ^ k % 2:Nat):Int) = 1):=by omega
  simpa using this
def ManyE (b:Nat) (E:Int) (w:World) (e:Ending) (w':World):Prop:=e = .returned (.tuple #[.int .i64 b,.int .i64 E]) /\ Aft w w'
set_option maxRecDepth 100000 in
set_option maxHeartbeats 4000000 in
theorem many_arg (C:CaseL) (a1 a2:Option Addr) (c1 c2:Nat) (n:Int) (w:World) (hC:CRep w C a1 a2) (he:caseE C ≠ 0 \/ Cl n C.claims = false) :
  Calls Tryz.prog 21 #[(.agg #[.int .i64 C.claims,.slice a1 C.strikes.length c1,.slice a2 C.surveys.length c2]),.int .i64 n] w (ManyE 0 (fewE C n) w):=by
 have H0:=Lib.hid (Aft.alloc w (.cells #[.int .i64 C.claims,.slice a1 C.strikes.length c1,.slice a2 C.surveys.length c2] 31));have HB:=Lib.hid (Blk.new w 31 #[.int .i64 C.claims,.slice a1 C.strikes.length c1,.slice a2 C.surveys.length c2]);unfold ManyE fewE;by_cases h1:caseE C = 0
 ·rw [if_pos h1];have hok:=caseE_ok h1
  have hf:Cl n C.claims = false:=by
   rcases he with h | h
   ·exact absurd h1 h
   ·exact h
  rw [hf,if_neg (by decide)];have H1:Hid (Calls Tryz.prog 56 #[(.agg #[.int .i64 C.claims,.slice a1 C.strikes.length c1,.slice a2 C.surveys.length c2])] (w.alloc (.cells #[.int .i64 C.claims,.slice a1 C.strikes.length c1,.slice a2 C.surveys.length c2] 31)) fun e w'=>e = .returned (.int .i64 0) /\ Aft (w.alloc (.cells #[.int .i64 C.claims,.slice a1 C.strikes.length c1,.slice a2 C.surveys.length c2] 31)) w'):=Lib.hid (by rw [<- h1];exact checkR_any C a1 a2 c1 c2 _ (hC.aft H0.out));have hn1:=hok.n1;have hn2:=hok.n2;have e1:IntKind.i64.wrap (C.claims - 1) = C.claims - 1:=by rw [IntWalk.i64_in _ (by omega)]
  have HF:Hid (fromB n 0 (C.claims - 1) = false):=Lib.hid hf;obtain ⟨k0,k1,k2⟩:=box31 HB.out;have hlt:=HB.out.lt;clear hC he h1 hok hf;go_enter Tryz.func21,Tryz.ntmps21;go_wp2_with (first | (go_at_call 56;refine H1.out.mono ?_;rintro e w1 ⟨rfl,ha1⟩;have HA1:=Lib.hid ha1;obtain ⟨j0,j1,j2⟩:=box31 (HB.out.aft ha1);have hlt1:=(HB.out.aft ha1).lt;clear ha1) | (go_at_call 57;refine (beside_any n 0 (C.claims - 1) _).mono ?_;rintro e w2 ⟨rfl,rfl⟩;rw [HF.out]))
  go_ret2;exact ⟨rfl,H0.out.trans HA1.out⟩
 ·rw [if_neg h1];have H1:=Lib.hid (checkR_any C a1 a2 c1 c2 _ (hC.aft H0.out));have t1:(caseE C != 0) = true:=by simpa using h1
  obtain ⟨k0,k1,k2⟩:=box31 HB.out;have hlt:=HB.out.lt;clear hC he h1;generalize caseE C = E at *;go_enter Tryz.func21,Tryz.ntmps21;go_wp2_with (go_at_call 56;refine H1.out.mono ?_;rintro e w1 ⟨rfl,ha1⟩;have HA1:=Lib.hid ha1;clear ha1)
  go_ret2;exact ⟨rfl,H0.out.trans HA1.out⟩
set_option maxRecDepth 100000 in
set_option maxHeartbeats 16000000 in
theorem many_in (N:Nat) (S:List (Int × Int)) (T:List (List Int)) (a1 a2:Option Addr) (c1 c2:Nat) (n:Nat) (w:World) (hC:CRep w ⟨N,S,T⟩ a1 a2) (h1:caseE ⟨N,S,T⟩ = 0) (hn:n < N) :
  Calls Tryz.prog 21 #[(.agg #[.int .i64 N,.slice a1 S.length c1,.slice a2 T.length c2]),.int .i64 n] w (ManyE (if ((n:Int),(n:Int)) ∈ S then 0 else manyTo S N n (2 ^ N)) (if ((n:Int),(n:Int)) ∈ S then 7 else 0) w):=by
 have H0:=Lib.hid (Aft.alloc w (.cells #[.int .i64 N,.slice a1 S.length c1,.slice a2 T.length c2] 31));have HB:=Lib.hid (Blk.new w 31 #[.int .i64 N,.slice a1 S.length c1,.slice a2 T.length c2]);have H1:Hid (Calls Tryz.prog 56 #[(.agg #[.int .i64 N,.slice a1 S.length c1,.slice a2 T.length c2])] (w.alloc (.cells #[.int .i64 N,.slice a1 S.length c1,.slice a2 T.length c2] 31)) fun e w'=>e = .returned (.int .i64 0) /\ Aft (w.alloc (.cells #[.int .i64 N,.slice a1 S.length c1,.slice a2 T.length c2] 31)) w'):=Lib.hid (by rw [<- h1];exact checkR_any ⟨N,S,T⟩ a1 a2 c1 c2 _ (hC.aft H0.out));have hok:=caseE_ok h1;have hn1:=hok.n1;have hn2:=hok.n2;have hss:=hok.few;have HIN:=Lib.hid hok.ins;dsimp only at hn1 hn2 hss HIN;have e1:IntKind.i64.wrap ((N:Int) - 1) = (N:Int) - 1:=by rw [IntWalk.i64_in _ (by omega)]
 have HF:Hid (fromB (n:Int) 0 ((N:Int) - 1) = true):=Lib.hid (fromB_iff.2 (by omega));have HC:=Lib.hid (hC.aft H0.out);have inN:(0:Int) <= (n:Int) /\ (n:Int) < (N:Int):=by omega
 obtain ⟨bm,hbm⟩:∃ bm,(if ((n:Int),(n:Int)) ∈ S then 0 else manyTo S N n (2 ^ N)) = bm:=⟨_,rfl⟩;obtain ⟨em,hem⟩:∃ em:Int,(if ((n:Int),(n:Int)) ∈ S then 7 else 0) = em:=⟨_,rfl⟩;rw [hbm,hem];have HEM:=Lib.hid hem;unfold ManyE;obtain ⟨bC,hbC⟩:∃ bC,w.heap.size = bC:=⟨_,rfl⟩;rw [hbC] at HB;have HBC:=Lib.hid hbC;clear hbC h1 hok hC hem;obtain ⟨q,hq⟩:∃ q,2 ^ N = q:=⟨_,rfl⟩;have hq14:q <= 16384:=by rw [<- hq];exact Nat.le_trans (Nat.pow_le_pow_right (by omega) (show N <= 14 by omega)) (by decide)
 have q0:wrap64 ((2:Int) ^ N) = (q:Int):=by
  have e:(2:Int) ^ N = (q:Int):=by rw [<- hq];push_cast;rfl
  rw [e];unfold wrap64;omega
 rw [hq] at hbm;have HBM:=Lib.hid hbm;clear hq hbm;go_enter Tryz.func21,Tryz.ntmps21;go_upto_region 1 with fail
 rw [HBC.out];generalize w.alloc (.cells #[.int .i64 N,.slice a1 S.length c1,.slice a2 T.length c2] 31) = W0 at *;obtain ⟨k0,k1,k2⟩:=box31 HB.out;have k3:=HB.out.lt;go_upto_block 0 with (first | (go_at_call 56;refine H1.out.mono ?_;rintro e W1 ⟨rfl,ha1⟩;have HA1:=Lib.hid ha1;obtain ⟨j0,j1,j2⟩:=box31 (HB.out.aft ha1);have hlt1:=(HB.out.aft ha1).lt;clear ha1) | (go_at_call 57;refine (beside_any (n:Int) 0 ((N:Int) - 1) _).mono ?_;rintro e w2 ⟨rfl,rfl⟩;rw [HF.out]))
 clear k0 k1 k2 k3 j0 j1 j2 hlt1 H1 HF e1;refine wp_block ?_;go_loopw [7] (fun i wr=>∃ k:Nat,i = .int .i64 k /\ k <= S.length /\ Aft W0 wr /\ Hid (∀ j,(h:j < S.length) -> j < k -> S[j] ≠ ((n:Int),(n:Int)))) (fun i _=>S.length - (intOf i).toNat)
 case atStart=>exact ⟨0,rfl,by omega,HA1.out,Lib.hid fun j _ h=>by omega⟩
 case round =>
  obtain ⟨k,rfl,hk,hy,HNO⟩:=hrel;have HY:=Lib.hid hy;clear hy;obtain ⟨k0,k1,k2⟩:=box31 (HB.out.aft HY.out);have k3:=(HB.out.aft HY.out).lt;by_cases hkl:k < S.length
  ·have t1:decide (k < S.length) = true:=by simpa using hkl
   have ik:(0:Int) <= (k:Int) /\ (k:Int) < (S.length:Int):=by omega
   obtain ⟨bs,os,hbs,hlts,hcs⟩:=(HC.out.aft HY.out).strikes.at hkl;subst hbs;obtain ⟨x1,x2⟩:=hcs k hkl;obtain ⟨⟨y,z⟩,hyz⟩:∃ s,S[k] = s:=⟨_,rfl⟩;have HYZ:=Lib.hid hyz;rw [hyz] at x1 x2;dsimp only at x1 x2;clear hcs hyz;cases hyn:(y == (n:Int))
   ·have HNO2:Hid (∀ j,(h:j < S.length) -> j < k + 1 -> S[j] ≠ ((n:Int),(n:Int))):=Lib.hid fun j h h'=>by
     by_cases e:j = k
     ·subst e;rw [HYZ.out];intro e;cases e;simp at hyn
     ·exact HNO.out j h (by omega)
    go_wp2_with fail
    exact ⟨⟨k + 1,by go_num,by omega,HY.out,HNO2⟩,by simp [intOf];omega⟩
   ·cases hzn:(z == (n:Int))
    ·have HNO2:Hid (∀ j,(h:j < S.length) -> j < k + 1 -> S[j] ≠ ((n:Int),(n:Int))):=Lib.hid fun j h h'=>by
      by_cases e:j = k
      ·subst e;rw [HYZ.out];intro e;cases e;simp at hzn
      ·exact HNO.out j h (by omega)
     go_wp2_with fail
     exact ⟨⟨k + 1,by go_num,by omega,HY.out,HNO2⟩,by simp [intOf];omega⟩
    ·have HMEM:Hid (((n:Int),(n:Int)) ∈ S):=Lib.hid (by
      have h1:=eq_of_beq hyn;have h2:=eq_of_beq hzn;have h3:=HYZ.out;rw [h1,h2] at h3;rw [<- h3];exact List.getElem_mem hkl)
     have HB0:Hid (bm = 0):=Lib.hid (by rw [<- HBM.out,if_pos HMEM.out]);have HE0:Hid (em = 7):=Lib.hid (by rw [<- HEM.out,if_pos HMEM.out]);go_wp2_with fail
     go_ret2;exact ⟨by rw [HB0.out,HE0.out];rfl,H0.out.trans HY.out⟩
  ·have t1:decide (k < S.length) = false:=by simpa using hkl
   have hmem:((n:Int),(n:Int)) ∉ S:=fun h=>by
    obtain ⟨j,hj,e⟩:=List.mem_iff_getElem.1 h;exact HNO.out j hj (by omega) e
   have HB0:Hid (bm = manyTo S N n q):=Lib.hid (by rw [<- HBM.out,if_neg hmem]);have HE0:Hid (em = 0):=Lib.hid (by rw [<- HEM.out,if_neg hmem]);obtain ⟨W2,rfl⟩:∃ W2,W2 = wr:=⟨_,rfl⟩;clear HNO hmem hkl;go_upto_block 2 with fail
   clear k0 k1 k2 k3;have HM0:=Lib.hid (manyTo_zero S N n);refine wp_block ?_;go_loopw [8,9] (fun b i wr=>∃ (m bv:Nat),i = .int .i64 m /\ b = .int .i64 bv /\ m <= q /\ Aft W0 wr /\ Hid (manyTo S N n m = bv)) (fun _ i _=>q - (intOf i).toNat)
   case atStart=>exact ⟨0,N,rfl,rfl,by omega,HY.out,HM0⟩
   case round =>
    obtain ⟨m,bv,rfl,rfl,hm,hy,HBV⟩:=hrel;have HY:=Lib.hid hy;clear hy;obtain ⟨W3,rfl⟩:∃ W3,W3 = wr:=⟨_,rfl⟩;obtain ⟨k0,k1,k2⟩:=box31 (HB.out.aft HY.out);have k3:=(HB.out.aft HY.out).lt;by_cases hmq:m < q
    ·have t2:decide (m < q) = true:=by simpa using hmq
     go_upto_block 4 with fail
     rw [q0];clear k0 k1 k2 k3;have HO0:=Lib.hid (World.ownsRow_nil W3 W3.heap.size 3 1);refine wp_block ?_;go_loopw [10,11] (fun v i wr=>∃ k:Nat,i = .int .i64 k /\ k <= N /\ wr.ownsRow W3.heap.size 3 1 v (idxL (fun i=>m.testBit i) k).length ((idxL (fun i=>m.testBit i) k).map (Value.int .i64)) /\ Aft W3 wr) (fun _ i _=>N - (intOf i).toNat)
     case atStart=>exact ⟨0,rfl,by omega,HO0.out,Aft.refl _⟩
     case round =>
      obtain ⟨k,rfl,hk,hown,hz⟩:=hrel;have HO:=Lib.hid hown;have HZ:=Lib.hid hz;clear hown hz;obtain ⟨k0,k1,k2⟩:=box31 (HB.out.aft (HY.out.trans HZ.out));have k3:=(HB.out.aft (HY.out.trans HZ.out)).lt;have hpl:=idxL_len (fun i=>m.testBit i) k;by_cases hkN:k < N
      ·have t3:decide (k < N) = true:=by simpa using hkN
       have ik64:(0:Int) <= (k:Int) /\ (k:Int) <= 64:=by omega
       have HP:=Lib.hid (idxL_succ (fun i=>m.testBit i) k);have hbit:=bits_big (m:=m) (k:=k) (by omega);cases hb:m.testBit k
       ·rw [hb] at hbit HP;clear hb;rw [if_neg (by decide),List.append_nil] at HP;go_wp2_with fail
        exact ⟨⟨k + 1,by go_num,by omega,by rw [HP.out];exact HO.out,HZ.out⟩,by simp [intOf];omega⟩
       ·rw [hb] at hbit HP;clear hb;rw [if_pos rfl] at HP;have HTA:=Lib.hid (own_aft HO.out (Aft.alloc wr (.cells #[.int .i64 k] 3)));have hbase:W3.heap.size <= (wr.alloc (.cells #[.int .i64 k] 3)).heap.size:=Nat.le_trans HZ.out.size (Aft.alloc _ _).size;have hge:=own_ge HO.out;go_wp2_with (at_builtin;refine wpList_push rfl _ _ rfl HTA.out hbase rfl rfl (cell_new1 _ _ _) (by omega) ?_;intro v6 w6 ho6 hg6;have HO6:=Lib.hid ho6;have HG6:=Lib.hid hg6;clear ho6 hg6)
        exact ⟨⟨k + 1,by go_num,by omega,by rw [HP.out];exact HO6.out,(HZ.out.then_alloc _).grown HG6.out hge⟩,by simp [intOf];omega⟩
      ·have t3:decide (k < N) = false:=by simpa using hkN
       obtain rfl:k = N:=by omega
       have HSU:=Lib.hid (manyTo_succ S k n m);rw [HBV.out] at HSU;unfold manyF at HSU;have hml:∀ x ∈ setL k m,0 <= x /\ x < k:=fun x hx=>setL_mem hx
       have HO2:Hid (wr.ownsRow W3.heap.size 3 1 u10 (setL k m).length ((setL k m).map (Value.int .i64))):=HO;have hpl2:(setL k m).length <= k:=hpl;obtain ⟨l,hl0⟩:∃ l,setL k m = l:=⟨_,rfl⟩;rw [hl0] at HSU hml HO2 hpl2;have HML:=Lib.hid hml;clear HO hpl hl0 hml hkN;obtain ⟨A10,c10,rfl,hc10,hi10⟩:=own_ints HO2.out (by omega);have HI:=Lib.hid hi10;clear hi10 hc10 HO2;by_cases hlb:l.length < bv
       ·have t4:decide (l.length < bv) = true:=by simpa using hlb
        obtain ⟨bh,hbh⟩:∃ bh,hasB l n = bh:=⟨_,rfl⟩;have hbh':l.contains (n:Int) = bh:=hbh;have H64:=Lib.hid (hasR_any A10 l c10 n wr HI.out);rw [hbh] at H64;rw [hbh'] at HSU;clear hbh hbh';cases bh
        ·obtain ⟨F,hF⟩:∃ F,foundL (award S noS k (begF (refL l))) k = F:=⟨_,rfl⟩;have HFL:Hid (F.length = k):=Lib.hid (by rw [<- hF,foundL_len]);obtain ⟨fv,hfv⟩:∃ fv,award S noS k (begF (refL l)) n = fv:=⟨_,rfl⟩
         have HFN:Hid (∀ h:n < F.length,F[n] = (fv:Int)):=Lib.hid fun h=>by
          subst hF;rw [foundL_get,hfv]
         have H65:Hid (Calls Tryz.prog 65 #[.agg #[.int .i64 k,.slice a1 S.length c1,.slice a2 T.length c2],.slice A10 l.length c10] wr (MadeI F wr)):=Lib.hid (by
          rw [<- hF];exact awardR_any k S T a1 a2 c1 c2 l A10 c10 wr (HC.out.aft (HY.out.trans HZ.out)) (by omega) (fun s hs=>(HIN.out s hs).1) HI.out HML.out)
         have HW:Hid (winB S k n l = decide (fv = 1)):=Lib.hid (by rw [<- hfv];rfl);rw [HW.out] at HSU;clear hF hfv HW HI HML;by_cases hf1:fv = 1
         ·have q1:((fv:Int) == 1) = true:=by simp;omega
          rw [if_pos ⟨hlb,rfl,by simpa using hf1⟩] at HSU;go_wp2_with (first | (go_at_call 64;refine H64.out.mono ?_;rintro e w6 ⟨rfl,rfl⟩) | (go_at_call 65;refine H65.out.mono ?_;rintro e W6 ⟨g,rfl,hg,hb,ha⟩;have HA6:=Lib.hid ha;rw [HFL.out];have y0:=ivs_cell hb (i:=n) (by rw [HFL.out];exact hn);have y1:=hb.lt;rw [HFN.out] at y0;clear hg hb ha))
          exact ⟨⟨m + 1,l.length,by go_num,rfl,by omega,HY.out.trans (HZ.out.trans HA6.out),HSU⟩,by simp [intOf];omega⟩
         ·have q1:((fv:Int) == 1) = false:=by simp;omega
          rw [if_neg (fun h=>hf1 (by simpa using h.2.2))] at HSU;go_wp2_with (first | (go_at_call 64;refine H64.out.mono ?_;rintro e w6 ⟨rfl,rfl⟩) | (go_at_call 65;refine H65.out.mono ?_;rintro e W6 ⟨g,rfl,hg,hb,ha⟩;have HA6:=Lib.hid ha;rw [HFL.out];have y0:=ivs_cell hb (i:=n) (by rw [HFL.out];exact hn);have y1:=hb.lt;rw [HFN.out] at y0;clear hg hb ha))
          exact ⟨⟨m + 1,bv,by go_num,rfl,by omega,HY.out.trans (HZ.out.trans HA6.out),HSU⟩,by simp [intOf];omega⟩
        ·rw [if_neg (fun h=>by cases h.2.1)] at HSU;go_wp2_with (go_at_call 64;refine H64.out.mono ?_;rintro e w6 ⟨rfl,rfl⟩)
         exact ⟨⟨m + 1,bv,by go_num,rfl,by omega,HY.out.trans HZ.out,HSU⟩,by simp [intOf];omega⟩
       ·have t4:decide (l.length < bv) = false:=by simpa using hlb
        rw [if_neg (fun h=>hlb h.1)] at HSU;go_wp2_with fail
        exact ⟨⟨m + 1,bv,by go_num,rfl,by omega,HY.out.trans HZ.out,HSU⟩,by simp [intOf];omega⟩
    ·have t2:decide (m < q) = false:=by simpa using hmq
     obtain rfl:m = q:=by omega
     go_wp2_with fail
     go_ret2;exact ⟨by rw [HB0.out,HE0.out,HBV.out];rfl,H0.out.trans HY.out⟩
end Go.Proofs
end
section
/- The program and its reference answer alike: surveys,and the fewest. -/
namespace Go.Proofs
open Go.RowKit
open Court (refL begF noS award FewIs winB)
def PairR (L:List Int) (E:Int) (w:World) (e:Ending) (w':World):Prop:=∃ A c,e = .returned (.tuple #[.slice A L.length c,.int .i64 E]) /\ Ints w' A L /\ Aft w w'
theorem PairR.bad {E:Int} {w:World} {e:Ending} {w':World} (h:BadS E w e w'):PairR [] E w e w':=⟨none,0,h.1,ints_none w',h.2⟩
theorem PairR.goodI {L:List Int} {w:World} {e:Ending} {w':World} (h:GoodI L w e w'):PairR L 0 w e w':=h
theorem PairR.goodL {L:List Int} {w:World} {e:Ending} {w':World} (hl:L.length <= 1000000) (h:GoodL L w e w'):PairR L 0 w e w':=by
 obtain ⟨v,rfl,ho,ha⟩:=h;obtain ⟨A,c,rfl,_,hi⟩:=own_ints ho (by omega);exact ⟨A,c,rfl,hi,ha⟩
theorem PairR.made {L:List Int} {w:World} {e:Ending} {w':World} (hl:L.length <= 1000000) (h:MadeE L w e w'):PairR L 0 w e w':=by
 obtain ⟨g,rfl,_,hb,ha⟩:=h;exact ⟨_,_,rfl,ivs_ints hb (by omega),ha⟩
theorem case_nat {C:CaseL} (h:caseE C = 0):∃ N:Nat,∃ S T,C = ⟨N,S,T⟩ /\ 1 <= N /\ N <= 14:=by
 have hok:=caseE_ok h;obtain ⟨n,S,T⟩:=C;have h1:=hok.n1;have h2:=hok.n2;dsimp only at h1 h2;obtain ⟨N,rfl⟩:=Int.eq_ofNat_of_zero_le (show 0 <= n by omega);exact ⟨N,S,T,rfl,by omega,by omega⟩
theorem idxL_ext {p q:Nat -> Bool} {k m:Nat} (hm:k <= m) (h:∀ i,i < k -> p i = q i) (h2:∀ i,k <= i -> q i = false):idxL q m = idxL p k:=by
 refine Court.sorted_ext (idxL_sorted _ _) (idxL_sorted _ _) fun x=>?_
 rw [mem_idxL,mem_idxL];constructor
 ·rintro ⟨⟨h0,h1⟩,h3⟩;by_cases hx:x.toNat < k
  ·exact ⟨⟨h0,by omega⟩,by rw [h _ hx];exact h3⟩
  ·rw [h2 _ (by omega)] at h3;cases h3
 ·rintro ⟨⟨h0,h1⟩,h3⟩;exact ⟨⟨h0,by omega⟩,by rw [<- h _ (by omega)];exact h3⟩
theorem decides_pair (C:CaseL) (s:Int):∃ (L:List Int) (E:Int),
  (∀ A1 A2 k1 k2 X,CRep X C A1 A2 -> Calls Tryz.prog 15 #[.agg #[.int .i64 C.claims,.slice A1 C.strikes.length k1,.slice A2 C.surveys.length k2],.int .i64 s] X (PairR L E X)) /\
  (∀ A1 A2 k1 k2 X,CRep X C A1 A2 -> Calls Tryz.prog 16 #[.agg #[.int .i64 C.claims,.slice A1 C.strikes.length k1,.slice A2 C.surveys.length k2],.int .i64 s] X (PairR L E X)):=by
 by_cases he:decidingE C s = 0
 ·have he2:=he;unfold decidingE at he2;by_cases h1:caseE C = 0
  ·rw [if_pos h1] at he2
   have hf:fromB s 0 ((C.surveys.length:Int) - 1) = true:=by
    cases h:fromB s 0 ((C.surveys.length:Int) - 1)
    ·rw [h] at he2;cases he2
    ·rfl
   obtain ⟨n,rfl⟩:=Int.eq_ofNat_of_zero_le (fromB_iff.1 hf).1;obtain ⟨N,S,T,rfl,hN1,hN14⟩:=case_nat h1;refine ⟨idxL (fun (i:Nat)=>decT ⟨N,S,T⟩ (T.getD n []) N (2 ^ (T.getD n []).length) i) N,0,fun A1 A2 k1 k2 X hX=>?_,fun A1 A2 k1 k2 X hX=>?_⟩
   ·have h:=decides15_good ⟨N,S,T⟩ A1 A2 k1 k2 n X hX he
    have e:idxL (fun (i:Nat)=>decidesB ⟨N,S,T⟩ n i) 14 = idxL (fun (i:Nat)=>decT ⟨N,S,T⟩ (T.getD n []) N (2 ^ (T.getD n []).length) i) N:=by
     refine idxL_ext hN14 (fun i _=>rfl) fun i hi=>?_
     show decT ⟨N,S,T⟩ (T.getD n []) (N:Int).toNat (2 ^ (T.getD n []).length) i = false;unfold decT;rw [decide_eq_false (by omega)];rfl
    rw [e] at h;exact h.mono fun e w' h=>PairR.goodI h
   ·exact (decidesTop_good N S T A1 A2 k1 k2 n X hX he).mono fun e w' h=>PairR.goodL (by have:=idxL_len (fun (i:Nat)=>decT ⟨N,S,T⟩ (T.getD n []) N (2 ^ (T.getD n []).length) i) N;omega) h
  ·rw [if_neg h1] at he2;exact absurd he2 h1
 ·exact ⟨[],decidingE C s,fun A1 A2 k1 k2 X hX=>(decides15_bad C A1 A2 k1 k2 s X hX he).mono fun e w' h=>PairR.bad h,fun A1 A2 k1 k2 X hX=>(decidesTop_bad C A1 A2 k1 k2 s X hX he).mono fun e w' h=>PairR.bad h⟩
theorem surveys_pair (C:CaseL) (s:Int):∃ (L:List Int) (E:Int),
  (∀ A1 A2 k1 k2 X,CRep X C A1 A2 -> Calls Tryz.prog 18 #[.agg #[.int .i64 C.claims,.slice A1 C.strikes.length k1,.slice A2 C.surveys.length k2],.int .i64 s] X (PairR L E X)) /\
  (∀ A1 A2 k1 k2 X,CRep X C A1 A2 -> Calls Tryz.prog 19 #[.agg #[.int .i64 C.claims,.slice A1 C.strikes.length k1,.slice A2 C.surveys.length k2],.int .i64 s] X (PairR L E X)):=by
 by_cases he:surveyingE C s = 0
 ·have he2:=he;unfold surveyingE at he2;by_cases h1:caseE C = 0
  ·rw [if_pos h1] at he2
   have hf:Cl s C.claims = true:=by
    cases h:Cl s C.claims
    ·rw [h] at he2;cases he2
    ·rfl
   obtain ⟨n,rfl⟩:=Int.eq_ofNat_of_zero_le (Cl_iff.1 hf).1;obtain ⟨N,S,T,rfl,hN1,hN14⟩:=case_nat h1;have h6:=(caseE_ok h1).fews;refine ⟨idxL (fun i=>decT ⟨N,S,T⟩ (T.getD i []) N (2 ^ (T.getD i []).length) n) T.length,0,fun A1 A2 k1 k2 X hX=>?_,fun A1 A2 k1 k2 X hX=>?_⟩
   ·exact (surveys_good ⟨N,S,T⟩ A1 A2 k1 k2 n X hX he).mono fun e w' h=>PairR.goodI h
   ·refine (surveysTop_good N S T A1 A2 k1 k2 n X hX he).mono fun e w' h=>PairR.goodL ?_ h
    have:=idxL_len (fun i=>decT ⟨N,S,T⟩ (T.getD i []) N (2 ^ (T.getD i []).length) n) T.length;dsimp only at h6;omega
  ·rw [if_neg h1] at he2;exact absurd he2 h1
 ·exact ⟨[],surveyingE C s,fun A1 A2 k1 k2 X hX=>(surveys_bad C A1 A2 k1 k2 s X hX he).mono fun e w' h=>PairR.bad h,fun A1 A2 k1 k2 X hX=>(surveysTop_bad C A1 A2 k1 k2 s X hX he).mono fun e w' h=>PairR.bad h⟩
def UpR (NN n:Nat) (w:World) (e:Ending) (w':World):Prop:=∃ g,e = .returned (.tuple #[.slice (some ⟨g,0,none⟩) NN NN,.int .i64 0]) /\ Aft w w' /\ g < w'.heap.size /\ w'.cell? ⟨g,n,none⟩ = some (.int .i64 1)
def FewP (C:CaseL) (q:Int) (m:Nat) (E:Int) (w:World) (e:Ending) (w':World):Prop:=∃ A c L,e = .returned (.tuple #[.slice A m c,.int .i64 E]) /\ m <= 14 /\ Ints w' A L /\ Aft w w' /\ (E = 0 -> ∃ (NN n:Nat),q = n /\ n < NN /\ NN <= 14 /\ ∀ A1 A2 k1 k2 A c X,CRep X C A1 A2 -> Ints X A L -> Calls Tryz.prog 22 #[.agg #[.int .i64 C.claims,.slice A1 C.strikes.length k1,.slice A2 C.surveys.length k2],.slice A m c] X (UpR NN n X))
theorem up_of (N:Nat) (S:List (Int × Int)) (T:List (List Int)) (L:List Int) (n:Nat) (hn:n < N) (hN:N <= 14) (ho:openE ⟨N,S,T⟩ L = 0) (hw:award S noS N (begF (refL L)) n = 1) (A1 A2:Option Addr) (k1 k2:Nat) (A:Option Addr) (c:Nat) (X:World) (hC:CRep X ⟨N,S,T⟩ A1 A2) (hA:Ints X A L) :
  Calls Tryz.prog 22 #[.agg #[.int .i64 N,.slice A1 S.length k1,.slice A2 T.length k2],.slice A L.length c] X (UpR N n X):=by
 refine (awardTop_good N S T A1 A2 k1 k2 L A c X hC hA ho).mono fun e w' h=>?_
 obtain ⟨g,rfl,_,hb,ha⟩:=h;refine ⟨g,by rw [foundL_len],ha,hb.lt,?_⟩;have:=ivs_cell hb (i:=n) (by rw [foundL_len];exact hn);rw [foundL_get,hw] at this;exact this
theorem few_pair (C:CaseL) (q:Int):∃ (m:Nat) (E:Int),
  (∀ A1 A2 k1 k2 X,CRep X C A1 A2 -> Calls Tryz.prog 20 #[.agg #[.int .i64 C.claims,.slice A1 C.strikes.length k1,.slice A2 C.surveys.length k2],.int .i64 q] X (FewP C q m E X)) /\
  (∀ A1 A2 k1 k2 X,CRep X C A1 A2 -> Calls Tryz.prog 21 #[.agg #[.int .i64 C.claims,.slice A1 C.strikes.length k1,.slice A2 C.surveys.length k2],.int .i64 q] X (ManyE m E X)):=by
 by_cases h1:caseE C = 0
 ·by_cases hcl:Cl q C.claims = true
  ·obtain ⟨n,rfl⟩:=Int.eq_ofNat_of_zero_le (Cl_iff.1 hcl).1;obtain ⟨N,S,T,rfl,hN1,hN14⟩:=case_nat h1;have hn:n < N:=by have:=(Cl_iff.1 hcl).2;dsimp only at this;omega
   have hM:=fun A1 A2 k1 k2 X (hX:CRep X ⟨N,S,T⟩ A1 A2)=>many_in N S T A1 A2 k1 k2 n X hX h1 hn
   have hcl2:Cl (n:Int) (⟨N,S,T⟩:CaseL).claims = true:=hcl;by_cases hs:((n:Int),(n:Int)) ∈ S
   ·have hE:fewE ⟨N,S,T⟩ n = 7:=by unfold fewE;rw [if_pos h1,if_pos hcl2,if_pos hs]
    rw [if_pos hs,if_pos hs] at hM;refine ⟨0,7,fun A1 A2 k1 k2 X hX=>?_,hM⟩;refine (few20_bad ⟨N,S,T⟩ A1 A2 k1 k2 n X hX (by rw [hE];decide)).mono fun e w' h=>?_
    obtain ⟨rfl,ha⟩:=h;exact ⟨none,0,[],by rw [hE],by omega,ints_none w',ha,fun h=>by cases h⟩
   ·have hE:fewE ⟨N,S,T⟩ n = 0:=by unfold fewE;rw [if_pos h1,if_pos hcl2,if_neg hs]
    rw [if_neg hs,if_neg hs] at hM;have hok:=caseE_ok h1;have hin:=hok.ins;dsimp only at hin;refine ⟨manyTo S N n (2 ^ N),0,fun A1 A2 k1 k2 X hX=>?_,hM⟩;refine (few20_good ⟨N,S,T⟩ A1 A2 k1 k2 n X hX hE).mono fun e w' h=>?_
    obtain ⟨L,hL,v,rfl,ho,ha⟩:=h;have hL:FewIs S N n L:=hL;obtain ⟨⟨hs1,hs2⟩,hw,-⟩:=hL.facts
    have hlN:L.length < N:=by
     obtain ⟨m,hm1,hm2⟩:=hL;have hb:=Court.few_bound (S:=S) (N:=N) (c:=(n:Int)) ⟨by omega,by omega⟩ hs (fun s hs=>(hin s hs).1) hm2;unfold Court.tryW at hm1;have:=Court.combos_len (List.mem_of_find?_eq_some hm1);omega
    have hlen:=many_few ⟨by omega,by omega⟩ hL hlN;obtain ⟨A,c,rfl,_,hi⟩:=own_ints ho (by omega);have ho2:openE ⟨N,S,T⟩ L = 0:=openE_zero h1 (fun x hx=>by have:=hs2 x hx;exact ⟨this.1,this.2.1⟩) (risesB_true L fun k hk=>List.pairwise_iff_getElem.1 hs1 k (k + 1) (by omega) hk (by omega));refine ⟨A,c,L,by rw [hlen],by omega,hi,ha,fun _=>⟨N,n,rfl,hn,hN14,fun B1 B2 j1 j2 A' c' X' hX' hA'=>?_⟩⟩;rw [hlen];exact up_of N S T L n hn hN14 ho2 (of_decide_eq_true hw) B1 B2 j1 j2 A' c' X' hX' hA'
  ·have hE:fewE C q = 2:=by unfold fewE;rw [if_pos h1,if_neg hcl]
   refine ⟨0,2,fun A1 A2 k1 k2 X hX=>?_,fun A1 A2 k1 k2 X hX=>?_⟩
   ·refine (few20_bad C A1 A2 k1 k2 q X hX (by rw [hE];decide)).mono fun e w' h=>?_
    obtain ⟨rfl,ha⟩:=h;exact ⟨none,0,[],by rw [hE],by omega,ints_none w',ha,fun h=>by cases h⟩
   ·rw [<- hE];exact many_arg C A1 A2 k1 k2 q X hX (.inr (by cases h:Cl q C.claims;rfl;exact absurd h hcl))
 ·have hE:fewE C q = caseE C:=by unfold fewE;rw [if_neg h1]
  refine ⟨0,caseE C,fun A1 A2 k1 k2 X hX=>?_,fun A1 A2 k1 k2 X hX=>?_⟩
  ·refine (few20_bad C A1 A2 k1 k2 q X hX (by rw [hE];exact h1)).mono fun e w' h=>?_
   obtain ⟨rfl,ha⟩:=h;exact ⟨none,0,[],by rw [hE],by omega,ints_none w',ha,fun h=>absurd h h1⟩
  ·rw [<- hE];exact many_arg C A1 A2 k1 k2 q X hX (.inl h1)
end Go.Proofs
end
section
/- Slices and cases as they come in,of whatever length: what great may read before it is known that they are small. -/
namespace Go.Proofs
open Go.RowKit Go.WideShapes Go.ChangeShapes
section rows
variable {α:Type}
def RowsQ (w:World) (A:Option Addr) (sz:Nat) (R:World -> α -> List Value -> Prop) (l:List α):Prop :=
 l.length <= 9223372036854775807 /\ (l = [] \/ ∃ b o,A = some ⟨b,o,none⟩ /\ b < w.heap.size /\
  ∀ i,(h:i < l.length) -> ∃ vs:List Value,vs.length = sz /\ R w l[i] vs /\ ∀ j,(hj:j < vs.length) -> w.cell? ⟨b,o + i * sz + j,none⟩ = some vs[j])
theorem RowsQ.lat {w:World} {A:Option Addr} {sz:Nat} {R:World -> α -> List Value -> Prop} {l:List α} (hR:MonoR R) (h:RowsQ w A sz R l) (u:Later w):RowsQ (w.lat u) A sz R l:=by
 refine ⟨h.1,?_⟩;rcases h.2 with h | ⟨b,o,rfl,hb,hc⟩
 ·exact .inl h
 ·refine .inr ⟨b,o,rfl,Nat.lt_of_lt_of_le hb (w.lat_size u),fun i hi=>?_⟩;obtain ⟨vs,h1,h2,h3⟩:=hc i hi;exact ⟨vs,h1,hR _ _ _ _ h2,fun j hj=>by rw [World.lat_cell _ _ _ _ hb];exact h3 j hj⟩
theorem RowsQ.aft {w w':World} {A:Option Addr} {sz:Nat} {R:World -> α -> List Value -> Prop} {l:List α} (hR:MonoR R) (h:RowsQ w A sz R l) (hl:Aft w w'):RowsQ w' A sz R l:=by
 obtain ⟨u,rfl⟩:=hl;exact h.lat hR u
theorem RowsQ.at {w:World} {A:Option Addr} {sz:Nat} {R:World -> α -> List Value -> Prop} {l:List α} (h:RowsQ w A sz R l) {k:Nat} (hk:k < l.length) :
  ∃ b o,A = some ⟨b,o,none⟩ /\ b < w.heap.size /\ ∀ i,(h:i < l.length) -> ∃ vs:List Value,vs.length = sz /\ R w l[i] vs /\ ∀ j,(hj:j < vs.length) -> w.cell? ⟨b,o + i * sz + j,none⟩ = some vs[j]:=by
 rcases h.2 with rfl | h
 ·simp at hk
 ·exact h
theorem RowsQ.small {w:World} {A:Option Addr} {sz:Nat} {R R':World -> α -> List Value -> Prop} {l:List α} (h:RowsQ w A sz R l) (hs:l.length * sz <= 17592186043904) (hR:∀ x ∈ l,∀ vs,R w x vs -> R' w x vs):RowsP w A sz R' l:=by
 refine ⟨hs,?_⟩;rcases h.2 with h | ⟨b,o,rfl,hb,hc⟩
 ·exact .inl h
 ·refine .inr ⟨b,o,rfl,hb,fun i hi=>?_⟩;obtain ⟨vs,h1,h2,h3⟩:=hc i hi;exact ⟨vs,h1,hR _ (List.getElem_mem hi) _ h2,h3⟩
end rows
def IntsQ (w:World) (A:Option Addr) (l:List Int):Prop:=RowsQ w A 1 IntR l
theorem IntsQ.aft {w w':World} {A:Option Addr} {l:List Int} (h:IntsQ w A l) (ha:Aft w w'):IntsQ w' A l:=RowsQ.aft IntR.mono h ha
theorem IntsQ.lat {w:World} {A:Option Addr} {l:List Int} (h:IntsQ w A l) (u:Later w):IntsQ (w.lat u) A l:=RowsQ.lat IntR.mono h u
theorem IntsQ.small {w:World} {A:Option Addr} {l:List Int} (h:IntsQ w A l) (hs:l.length <= 1000000):Ints w A l:=RowsQ.small h (by omega) fun _ _ _ h=>h
def ListQ:World -> List Int -> List Value -> Prop:=fun w l vs=>∃ A c,vs = [.slice A l.length c] /\ IntsQ w A l
theorem ListQ.mono:MonoR ListQ:=fun _ u _ _ ⟨A,c,h1,h2⟩=>⟨A,c,h1,h2.lat u⟩
def ListsQ (w:World) (A:Option Addr) (l:List (List Int)):Prop:=RowsQ w A 1 ListQ l
theorem ListsQ.aft {w w':World} {A:Option Addr} {l:List (List Int)} (h:ListsQ w A l) (ha:Aft w w'):ListsQ w' A l:=RowsQ.aft ListQ.mono h ha
theorem ListsQ.at {w:World} {A:Option Addr} {l:List (List Int)} (h:ListsQ w A l) {k:Nat} (hk:k < l.length) :
  ∃ b o,A = some ⟨b,o,none⟩ /\ b < w.heap.size /\ ∀ i,(h:i < l.length) -> ∃ Ai ci,w.cell? ⟨b,o + i,none⟩ = some (.slice Ai l[i].length ci) /\ IntsQ w Ai l[i]:=by
 obtain ⟨b,o,rfl,hb,hc⟩:=RowsQ.at h hk;refine ⟨b,o,rfl,hb,fun i hi=>?_⟩;obtain ⟨vs,h1,⟨Ai,ci,rfl,h2⟩,h3⟩:=hc i hi;exact ⟨Ai,ci,by simpa using h3 0 (by simp),h2⟩
theorem ListsQ.small {w:World} {A:Option Addr} {l:List (List Int)} (h:ListsQ w A l) (hs:l.length <= 1000000) (hl:∀ x ∈ l,x.length <= 1000000):Lists w A l :=
 RowsQ.small h (by omega) fun x hx vs ⟨A',c',h1,h2⟩=>⟨A',c',h1,h2.small (hl x hx)⟩
structure CRepQ (w:World) (C:CaseL) (a1 a2:Option Addr):Prop where
 strikes:RowsQ w a1 2 StrR C.strikes
 surveys:ListsQ w a2 C.surveys
theorem CRepQ.aft {w w':World} {C:CaseL} {a1 a2:Option Addr} (h:CRepQ w C a1 a2) (ha:Aft w w'):CRepQ w' C a1 a2:=⟨h.strikes.aft StrR.mono ha,h.surveys.aft ha⟩
structure Small (C:CaseL) (ls:List (List Int)):Prop where
 lists:∀ l ∈ ls,l.length <= 30
 surveys:∀ l ∈ C.surveys,l.length <= 10
 few:C.strikes.length <= 70
 fews:C.surveys.length <= 9
theorem CRepQ.small {w:World} {C:CaseL} {a1 a2:Option Addr} {ls:List (List Int)} (h:CRepQ w C a1 a2) (hs:Small C ls):CRep w C a1 a2 :=
 ⟨RowsQ.small h.strikes (by have:=hs.few;omega) fun _ _ _ h=>h,h.surveys.small (by have:=hs.fews;omega) fun x hx=>by have:=hs.surveys x hx;omega⟩
section
variable {H:Type} {enc:TypeId × Value -> H} {W:World} {base:Nat} {spare:Nat -> Bool} {held:Bool}
end
end Go.Proofs
end
section
/- Walks: great 11. -/
namespace Go.Proofs
open Go.RowKit
attribute [local go_sem] Oper.semAt_some
def GreatR (C:CaseL) (ls:List (List Int)) (w:World) (e:Ending) (w':World):Prop:=∃ b,e = .returned (.bool b) /\ (b = false -> Small C ls) /\ Aft w w'
set_option maxRecDepth 100000 in
set_option maxHeartbeats 4000000 in
theorem great_any (C:CaseL) (a1 a2:Option Addr) (c1 c2:Nat) (most:Int) (ls:List (List Int)) (AL:Option Addr) (cL:Nat) (w:World) (hC:CRepQ w C a1 a2) (hL:ListsQ w AL ls) :
  Calls Tryz.prog 11 #[(.agg #[.int .i64 C.claims,.slice a1 C.strikes.length c1,.slice a2 C.surveys.length c2]),.int .i64 most,.slice AL ls.length cL] w (GreatR C ls w):=by
 have H0:=Lib.hid (Aft.alloc w (.cells #[.int .i64 C.claims,.slice a1 C.strikes.length c1,.slice a2 C.surveys.length c2] 25));have HB:=Lib.hid (Blk.new w 25 #[.int .i64 C.claims,.slice a1 C.strikes.length c1,.slice a2 C.surveys.length c2]);have HL:=Lib.hid (hL.aft H0.out);have HC:=Lib.hid (hC.aft H0.out);have hls:=hL.1;have hsv:=hC.surveys.1;have hst:=hC.strikes.1;clear hC hL;obtain ⟨bC,hbC⟩:∃ bC,w.heap.size = bC:=⟨_,rfl⟩;rw [hbC] at HB;have HBC:=Lib.hid hbC;clear hbC;unfold GreatR;go_enter Tryz.func11,Tryz.ntmps11;go_upto_block 0 with fail
 rw [HBC.out];generalize w.alloc (.cells #[.int .i64 C.claims,.slice a1 C.strikes.length c1,.slice a2 C.surveys.length c2] 25) = W0 at *;refine wp_block ?_;go_loopw [13] (fun i wr=>∃ k:Nat,i = .int .i64 k /\ k <= ls.length /\ Aft W0 wr /\ Hid (∀ j,(h:j < ls.length) -> j < k -> ls[j].length <= 30)) (fun i _=>ls.length - (intOf i).toNat)
 case atStart=>exact ⟨0,rfl,by omega,Aft.refl _,Lib.hid fun j _ h=>by omega⟩
 case round =>
  obtain ⟨k,rfl,hk,hy,HS⟩:=hrel;have HY:=Lib.hid hy;clear hy;by_cases hkl:k < ls.length
  ·have t1:decide (k < ls.length) = true:=by simpa using hkl
   have ik:(0:Int) <= (k:Int) /\ (k:Int) < (ls.length:Int):=by omega
   obtain ⟨b,o,hb0,hb,hc⟩:=(HL.out.aft HY.out).at hkl;subst hb0;obtain ⟨Ai,ci,x0,-⟩:=hc k hkl;obtain ⟨l,hl0⟩:∃ l,ls[k] = l:=⟨_,rfl⟩;have HLK:=Lib.hid hl0;rw [hl0] at x0;clear hc hl0;by_cases hl:30 < l.length
   ·have t2:decide ((30:Int) < (l.length:Int)) = true:=by simp;omega
    go_wp2_with fail
    go_ret;exact ⟨true,rfl,fun h=>(by cases h),H0.out.trans HY.out⟩
   ·have t2:decide ((30:Int) < (l.length:Int)) = false:=by simp;omega
    have HS2:Hid (∀ j,(h:j < ls.length) -> j < k + 1 -> ls[j].length <= 30):=Lib.hid fun j h h'=>by
     by_cases e:j = k
     ·subst e;rw [HLK.out];omega
     ·exact HS.out j h (by omega)
    go_wp2_with fail
    exact ⟨⟨k + 1,by go_num,by omega,HY.out,HS2⟩,by simp [intOf];omega⟩
  ·have t1:decide (k < ls.length) = false:=by simpa using hkl
   have HS1:Hid (∀ l ∈ ls,l.length <= 30):=Lib.hid fun l hl=>by
    obtain ⟨j,hj,rfl⟩:=List.mem_iff_getElem.1 hl;exact HS.out j hj (by omega)
   obtain ⟨W1,rfl⟩:∃ W1,W1 = wr:=⟨_,rfl⟩;obtain ⟨k0,k1,k2⟩:=box25 (HB.out.aft HY.out);have k3:=(HB.out.aft HY.out).lt
   replace HC:=Lib.hid (HC.out.aft HY.out)
   replace HB:=Lib.hid (HB.out.aft HY.out)
   replace H0:=Lib.hid (H0.out.trans HY.out)
   clear HS HY hkl;go_upto_block 2 with fail
   clear k0 k1 k2 k3;refine wp_block ?_;go_loopw [24] (fun i wr=>∃ k:Nat,i = .int .i64 k /\ k <= C.surveys.length /\ Aft W1 wr /\ Hid (∀ j,(h:j < C.surveys.length) -> j < k -> C.surveys[j].length <= 10)) (fun i _=>C.surveys.length - (intOf i).toNat)
   case atStart=>exact ⟨0,rfl,by omega,Aft.refl _,Lib.hid fun j _ h=>by omega⟩
   case round =>
    obtain ⟨k,rfl,hk,hy,HS⟩:=hrel;have HY:=Lib.hid hy;clear hy;by_cases hkl:k < C.surveys.length
    ·have t3:decide (k < C.surveys.length) = true:=by simpa using hkl
     have ik:(0:Int) <= (k:Int) /\ (k:Int) < (C.surveys.length:Int):=by omega
     obtain ⟨b,o,hb0,hb,hc⟩:=(HC.out.surveys.aft HY.out).at hkl;subst hb0;obtain ⟨Ai,ci,x0,-⟩:=hc k hkl;obtain ⟨l,hl0⟩:∃ l,C.surveys[k] = l:=⟨_,rfl⟩;have HLK:=Lib.hid hl0;rw [hl0] at x0;clear hc hl0;by_cases hl:10 < l.length
     ·have t4:decide ((10:Int) < (l.length:Int)) = true:=by simp;omega
      go_wp2_with fail
      go_ret;exact ⟨true,rfl,fun h=>(by cases h),H0.out.trans HY.out⟩
     ·have t4:decide ((10:Int) < (l.length:Int)) = false:=by simp;omega
      have HS2:Hid (∀ j,(h:j < C.surveys.length) -> j < k + 1 -> C.surveys[j].length <= 10):=Lib.hid fun j h h'=>by
       by_cases e:j = k
       ·subst e;rw [HLK.out];omega
       ·exact HS.out j h (by omega)
      go_wp2_with fail
      exact ⟨⟨k + 1,by go_num,by omega,HY.out,HS2⟩,by simp [intOf];omega⟩
    ·have t3:decide (k < C.surveys.length) = false:=by simpa using hkl
     have HS3:Hid (∀ l ∈ C.surveys,l.length <= 10):=Lib.hid fun l hl=>by
      obtain ⟨j,hj,rfl⟩:=List.mem_iff_getElem.1 hl;exact HS.out j hj (by omega)
     obtain ⟨k0,k1,k2⟩:=box25 (HB.out.aft HY.out);have k3:=(HB.out.aft HY.out).lt;clear HS;by_cases h1:70 < C.strikes.length
     ·have t5:decide ((70:Int) < (C.strikes.length:Int)) = true:=by simp;omega
      go_wp2_with fail
      go_ret;exact ⟨true,rfl,fun h=>(by cases h),H0.out.trans HY.out⟩
     ·have t5:decide ((70:Int) < (C.strikes.length:Int)) = false:=by simp;omega
      by_cases h2:9 < C.surveys.length
      ·have t6:decide ((9:Int) < (C.surveys.length:Int)) = true:=by simp;omega
       go_wp2_with fail
       go_ret;exact ⟨true,rfl,fun h=>(by cases h),H0.out.trans HY.out⟩
      ·have t6:decide ((9:Int) < (C.surveys.length:Int)) = false:=by simp;omega
       have HSM:Hid (Small C ls):=Lib.hid ⟨HS1.out,HS3.out,by omega,by omega⟩;clear h1 h2 HS1 HS3;cases h3:decide (most < C.claims)
       ·go_wp2_with fail
        go_ret;exact ⟨_,rfl,fun _=>HSM.out,H0.out.trans HY.out⟩
       ·go_wp2_with fail
        go_ret;exact ⟨_,rfl,fun _=>HSM.out,H0.out.trans HY.out⟩
end Go.Proofs
end
section
/- Walks: the laws' own copies of a case: Clone[Strike] 52,CloneCase 13,Case 14. -/
namespace Go.Proofs
open Go.RowKit
attribute [local go_sem] Oper.semAt_some
theorem OwnLists.sm {b base:Nat} {w W:World} {v:Value} {ls:List (List Int)} (h:OwnLists w base v ls) (hs:Sm b w W) (hb:b <= base):OwnLists W base v ls :=
 let ⟨vs,h⟩:=h;⟨vs,own_sm h.own hs hb,fun i hi hi'=>own_sm (h.rows i hi hi') hs hb,h.apart⟩
theorem lists_own {b base:Nat} {w:World} {v:Value} {ls:List (List Int)} (h:OwnLists w base v ls) (hl:ls.length <= 1000000) (hr:∀ l ∈ ls,l.length <= 1000000) (hb:b <= base):∃ A c,v = .slice A ls.length c /\ ∀ X,Sm b w X -> Lists X A ls:=by
 obtain ⟨A,c,e,_,_⟩:=h.lists (by omega) (fun l hl=>by have:=hr l hl;omega);refine ⟨A,c,e,fun X hX=>?_⟩;obtain ⟨A',c',e',_,hi⟩:=(h.sm hX hb).lists (by omega) (fun l hl=>by have:=hr l hl;omega);rw [e] at e';cases e';exact hi
theorem strs_src {w:World} {A:Option Addr} {l:List (Int × Int)} (h:Strs w A l):∀ ad,A = some ad -> ∀ j u,(strC l)[j]? = some u -> w.cell? (ad.add j) = some u:=by
 intro ad e j u hj
 have hlen:(strC l).length = 2 * l.length:=by
  clear hj h
  induction l with
  | nil=>rfl
  | cons s r ih =>
   have e:strC (s :: r) = .int .i64 s.1 :: .int .i64 s.2 :: strC r:=rfl;rw [e];simp only [List.length_cons,ih];omega
 have hjl:=(List.getElem?_eq_some_iff.1 hj).1;have hlt:j / 2 < l.length:=by omega
 obtain ⟨b,o,e2,_,hc⟩:=h.at hlt;rw [e] at e2;cases e2;obtain ⟨h1,h2⟩:=hc (j / 2) hlt;obtain ⟨g1,g2⟩:=strC_get l (j / 2) hlt;rw [Addr.add_lit];by_cases ho:j % 2 = 0
 ·rw [show 2 * (j / 2) = j by omega,hj] at g1;cases g1;rw [show o + j = o + j / 2 * 2 by omega];exact h1
 ·rw [show 2 * (j / 2) + 1 = j by omega,hj] at g2;cases g2;rw [show o + j = o + j / 2 * 2 + 1 by omega];exact h2
theorem strs_nil {w:World} {A:Option Addr} {l:List (Int × Int)} (h:Strs w A l) (e:A = none):l.length = 0:=by
 rcases Nat.eq_zero_or_pos l.length with h0 | h0
 ·exact h0
 ·obtain ⟨b,o,e2,_⟩:=h.at h0;rw [e] at e2;cases e2
theorem strs_one (l:List (Int × Int)):∀ u ∈ strC l,u.oneCell' = true:=by
 intro u hu;unfold strC at hu;rw [List.mem_flatMap] at hu;obtain ⟨s,_,hs⟩:=hu;simp at hs;rcases hs with rfl | rfl <;> rfl
theorem strC_len (l:List (Int × Int)):(strC l).length = l.length * 2:=by
 induction l with
 | nil=>rfl
 | cons s r ih =>
  have e:strC (s :: r) = .int .i64 s.1 :: .int .i64 s.2 :: strC r:=rfl;rw [e];simp only [List.length_cons,ih];omega
def OwnStrs (w0:World) (l:List (Int × Int)) (e:Ending) (w':World):Prop:=∃ v,e = .returned v /\ w'.ownsRow w0.heap.size 57 2 v l.length (strC l) /\ Aft w0 w'
theorem kitClone_str (A:Option Addr) (l:List (Int × Int)) (c:Nat) (w:World) (hA:Strs w A l) (hl:l.length <= 1000000) :
  Calls Tryz.prog 52 #[.slice A l.length c] w (OwnStrs w l):=by
 go_enter Tryz.func52,Tryz.ntmps52;go_wp2_with (at_builtin;refine wpList_app ty22 rfl _ _ rfl (Aft.refl w) rfl (World.ownsRow_nil w _ 57 2) rfl (strC_len l) (strs_nil hA) (strs_src hA) (strs_one l) (by omega) (by decide) ?_;intro v' w1 hown' hgrow haft)
 go_ret;exact ⟨_,rfl,by simpa using hown',haft⟩
structure Cc (W0:World) (S:List (Int × Int)) (T:List (List Int)) (done:Nat -> Bool) (a:Act) (W:World):Prop where
 aft:Aft W0 W
 s:done 4 = true -> ∃ v,a.eval (.tmp 7) = v /\ W.ownsRow W0.heap.size 57 2 v S.length (strC S)
 t:done 7 = true -> ∃ v,a.eval (.tmp 10) = v /\ OwnLists W W0.heap.size v T
section
variable {W0 W W':World} {S:List (Int × Int)} {T:List (List Int)} {done:Nat -> Bool} {a:Act}
theorem Cc.start:Cc W0 S T (fun _=>false) a W0.drew:=⟨Aft.drew _,(fun h=>by cases h),(fun h=>by cases h)⟩
theorem Cc.keep (h:Cc W0 S T done a W) {i:Nat} {dst:Option Tmp} {v:Value} (hi:i ≠ 4 /\ i ≠ 7) (hd:dst ≠ some 7 /\ dst ≠ some 10):Cc W0 S T (Go.upd done i) (a.put dst v) W:=by
 refine ⟨h.aft,fun p=>?_,fun p=>?_⟩
 ·rw [upd_ne' (Ne.symm hi.1)] at p;obtain ⟨v,e,hs⟩:=h.s p;exact ⟨v,by rw [evne hd.1];exact e,hs⟩
 ·rw [upd_ne' (Ne.symm hi.2)] at p;obtain ⟨v,e,hs⟩:=h.t p;exact ⟨v,by rw [evne hd.2];exact e,hs⟩
theorem Cc.stepS (h:Cc W0 S T done a W) (ha:Aft W W') {v:Value} (hs:W'.ownsRow W0.heap.size 57 2 v S.length (strC S)) (hz:7 < a.tmps.size):Cc W0 S T (Go.upd done 4) (a.put (some 7) v) W':=by
 refine ⟨h.aft.trans ha,fun _=>⟨v,Act.eval_put_same _ _ _ hz,hs⟩,fun p=>?_⟩;rw [upd_ne' (by decide)] at p;obtain ⟨v,e,hs⟩:=h.t p;exact ⟨v,by rw [evne (by decide)];exact e,hs.aft ha⟩
theorem Cc.stepT (h:Cc W0 S T done a W) (ha:Aft W W') {v:Value} (ht:OwnLists W' W0.heap.size v T) (hz:10 < a.tmps.size):Cc W0 S T (Go.upd done 7) (a.put (some 10) v) W':=by
 refine ⟨h.aft.trans ha,fun p=>?_,fun _=>⟨v,Act.eval_put_same _ _ _ hz,ht⟩⟩;rw [upd_ne' (by decide)] at p;obtain ⟨v,e,hs⟩:=h.s p;exact ⟨v,by rw [evne (by decide)];exact e,own_aft hs ha⟩
end
theorem list2 {α:Type} {us:List α} (h:us.length = 2):∃ x y,us = [x,y]:=by
 match us,h with
 | [x,y],_=>exact ⟨x,y,rfl⟩
def CopyR (t:TypeId) (C:CaseL) (w:World) (e:Ending) (w':World):Prop:=∃ v1 v2,e = .returned (.agg #[.int .i64 C.claims,v1,v2]) /\ w'.ownsRow w.heap.size t 2 v1 C.strikes.length (strC C.strikes) /\ OwnLists w' w.heap.size v2 C.surveys /\ Aft w w'
set_option maxRecDepth 100000 in
set_option maxHeartbeats 4000000 in
theorem cloneCase_any (C:CaseL) (a1 a2:Option Addr) (c1 c2:Nat) (w:World) (hC:CRep w C a1 a2) (h1:C.strikes.length <= 1000) (h2:C.surveys.length <= 1000) (h3:∀ l ∈ C.surveys,l.length <= 1000) :
  Calls Tryz.prog 13 #[(.agg #[.int .i64 C.claims,.slice a1 C.strikes.length c1,.slice a2 C.surveys.length c2])] w (CopyR 57 C w):=by
 have H0:=Lib.hid ((Aft.alloc w (.cells #[.int .i64 C.claims,.slice a1 C.strikes.length c1,.slice a2 C.surveys.length c2] 25)).then_alloc (.cells #[.int .i64 0,.slice none 0 0,.slice none 0 0] 25));have HB:=Lib.hid ((Blk.new w 25 #[.int .i64 C.claims,.slice a1 C.strikes.length c1,.slice a2 C.surveys.length c2]).alloc (.cells #[.int .i64 0,.slice none 0 0,.slice none 0 0] 25));have HB2:=Lib.hid (Blk.new (w.alloc (.cells #[.int .i64 C.claims,.slice a1 C.strikes.length c1,.slice a2 C.surveys.length c2] 25)) 25 #[.int .i64 0,.slice none 0 0,.slice none 0 0]);rw [World.size_alloc] at HB2;have HC:=Lib.hid (hC.aft H0.out);have hz0:w.heap.size + 1 < ((w.alloc (.cells #[.int .i64 C.claims,.slice a1 C.strikes.length c1,.slice a2 C.surveys.length c2] 25)).alloc (.cells #[.int .i64 0,.slice none 0 0,.slice none 0 0] 25)).heap.size:=by simp
 clear hC;go_enter Tryz.func13,Tryz.ntmps13;go_upto_region 1 with fail
 try rw [World.size_alloc]
 obtain ⟨b1,hb1⟩:∃ b1,w.heap.size = b1:=⟨_,rfl⟩;have HW:=Lib.hid hb1;rw [hb1] at HB HB2 hz0 ⊢;clear hb1;generalize (w.alloc (.cells #[.int .i64 C.claims,.slice a1 C.strikes.length c1,.slice a2 C.surveys.length c2] 25)).alloc (.cells #[.int .i64 0,.slice none 0 0,.slice none 0 0] 25) = W0 at *;have HC0:Hid (∀ W,Aft W0 W -> W.cell? ⟨b1,0,none⟩ = some (.int .i64 C.claims) /\ W.cell? ⟨b1,1,none⟩ = some (.slice a1 C.strikes.length c1) /\ W.cell? ⟨b1,2,none⟩ = some (.slice a2 C.surveys.length c2)):=Lib.hid fun W h=>box25 (HB.out.aft h)
 have H52:Hid (∀ W,Aft W0 W -> Calls Tryz.prog 52 #[.slice a1 C.strikes.length c1] W (OwnStrs W C.strikes)):=Lib.hid fun W h=>kitClone_str a1 C.strikes c1 W (HC.out.aft h).strikes (by omega)
 have H53:Hid (∀ W,Aft W0 W -> Calls Tryz.prog 53 #[.slice a2 C.surveys.length c2] W fun e w'=>∃ v,e = .returned v /\ OwnLists w' W.heap.size v C.surveys /\ Aft W w'):=Lib.hid fun W h=>cloneAll_any W a2 C.surveys c2 (HC.out.aft h).surveys (by omega)
 have H3:=Lib.hid h3;clear h3;refine wp_region_valsU (by kernel_rfl) 8 12 rfl (by kernel_rfl) (by kernel_rfl) [some (.pointer (some ⟨b1,0,none⟩)),some (.int .i64 C.claims),some (.pointer (some ⟨b1,1,none⟩)),some (.slice a1 C.strikes.length c1),none,some (.pointer (some ⟨b1,2,none⟩)),some (.slice a2 C.surveys.length c2),none] (by kernel_rfl) rfl (Cc W0 C.strikes C.surveys) (Cc.start) ?st1 ?fi1
 case st1 =>
  intro i o v ho hv
  match i,ho,hv with
  | 0,ho,hv =>
   cases ho;cases hv;refine .inl ⟨rfl,fun done a W hz hd hp hk hw K hK=>?_⟩;have e1:=hk.s 1;exact op_val (v:=.pointer (some ⟨b1,0,none⟩)) (by simp [go_sem,ev' e1]) (hK _ _ (fun u hu=>by cases hu;rfl) (hw.keep (by decide) (by decide)))
  | 1,ho,hv =>
   cases ho;cases hv;refine .inl ⟨rfl,fun done a W hz hd hp hk hw K hK=>?_⟩;have e3:=hk.t 0;exact op_val (v:=.int .i64 C.claims) (by simp [go_sem,ev' e3,(HC0.out W hw.aft).1]) (hK _ _ (fun u hu=>by cases hu;rfl) (hw.keep (by decide) (by decide)))
  | 2,ho,hv =>
   cases ho;cases hv;refine .inl ⟨rfl,fun done a W hz hd hp hk hw K hK=>?_⟩;have e1:=hk.s 1;exact op_val (v:=.pointer (some ⟨b1,1,none⟩)) (by simp [go_sem,ev' e1]) (hK _ _ (fun u hu=>by cases hu;rfl) (hw.keep (by decide) (by decide)))
  | 3,ho,hv =>
   cases ho;cases hv;refine .inl ⟨rfl,fun done a W hz hd hp hk hw K hK=>?_⟩;have e5:=hk.t 2;exact op_val (v:=.slice a1 C.strikes.length c1) (by simp [go_sem,ev' e5,(HC0.out W hw.aft).2.1]) (hK _ _ (fun u hu=>by cases hu;rfl) (hw.keep (by decide) (by decide)))
  | 4,ho,hv =>
   cases ho;cases hv;refine .inl ⟨rfl,fun done a W hz hd hp hk hw K hK=>?_⟩;have e6:=hk.t 3;refine op_callN rfl rfl rfl _ rfl (vs:=#[.slice a1 C.strikes.length c1]) (by simp [e6]) (H52.out W hw.aft) fun e w' h=>?_
   obtain ⟨v1,rfl,ho,ha⟩:=h;exact ⟨_,rfl,hK _ _ (fun u hu=>by cases hu) (hw.stepS ha (own_base ho hw.aft.size) (by rw [hz];decide))⟩
  | 5,ho,hv =>
   cases ho;cases hv;refine .inl ⟨rfl,fun done a W hz hd hp hk hw K hK=>?_⟩;have e1:=hk.s 1;exact op_val (v:=.pointer (some ⟨b1,2,none⟩)) (by simp [go_sem,ev' e1]) (hK _ _ (fun u hu=>by cases hu;rfl) (hw.keep (by decide) (by decide)))
  | 6,ho,hv =>
   cases ho;cases hv;refine .inl ⟨rfl,fun done a W hz hd hp hk hw K hK=>?_⟩;have e8:=hk.t 5;exact op_val (v:=.slice a2 C.surveys.length c2) (by simp [go_sem,ev' e8,(HC0.out W hw.aft).2.2]) (hK _ _ (fun u hu=>by cases hu;rfl) (hw.keep (by decide) (by decide)))
  | 7,ho,hv =>
   cases ho;cases hv;refine .inl ⟨rfl,fun done a W hz hd hp hk hw K hK=>?_⟩;have e9:=hk.t 6;refine op_callN rfl rfl rfl _ rfl (vs:=#[.slice a2 C.surveys.length c2]) (by simp [e9]) (H53.out W hw.aft) fun e w' h=>?_
   obtain ⟨v1,rfl,ho,ha⟩:=h;exact ⟨_,rfl,hK _ _ (fun u hu=>by cases hu) (hw.stepT ha (ho.mono hw.aft.size) (by rw [hz];decide))⟩
  | _ + 8,_,hv=>cases hv
 intro done us W hus hd hw;obtain ⟨x1,x2,rfl⟩:=list2 hus;obtain ⟨v1,e7,hs⟩:=hw.s (hd 4 (by decide));obtain ⟨v2,e10,ht⟩:=hw.t (hd 7 (by decide));have e7':x1 = v1:=by simpa [fill,putAll,Act.put,Act.eval] using e7
 have e10':x2 = v2:=by simpa [fill,putAll,Act.put,Act.eval] using e10
 subst e7';subst e10';obtain ⟨A1,k1,hv1,_,_⟩:=own_strs hs (by omega);obtain ⟨A2,k2,hv2,_,_⟩:=ht.lists (by omega) (fun l hl=>by have:=H3.out l hl;omega);subst hv1;subst hv2;have HS:=Lib.hid hs;have HT:=Lib.hid ht;have HA:=Lib.hid hw.aft;clear hw hd hus e7 e10 hs ht;simp only [fill,List.drop_succ_cons,List.drop_zero,List.zip_cons_cons,List.zip_nil_right,putAll];simp only [Act.put,List.setIfInBounds_toArray,List.set];have hk2:=HB2.out.aft HA.out;have HTH:=Lib.hid (blk_there hk2 (rfl:3 = (#[Value.int .i64 0,.slice none 0 0,.slice none 0 0]:Array Value).size));obtain ⟨W9,hW9,hl9,hg9⟩:∃ W9,W.setCells (b1 + 1) 0 [.int .i64 C.claims,.slice A1 C.strikes.length k1,.slice A2 C.surveys.length k2] = W9 /\ (loadVar 25 ⟨b1 + 1,0,none⟩).run Tryz.prog W9 = .ok (.agg #[.int .i64 C.claims,.slice A1 C.strikes.length k1,.slice A2 C.surveys.length k2]) W9 /\ W.grownBy W9 (some (b1 + 1)) :=
  ⟨_,rfl,run_loadVar_mid (P:=Tryz.prog) _ (b1 + 1) 0 25 [.int .i64 C.claims,.slice A1 C.strikes.length k1,.slice A2 C.surveys.length k2] _ (World.rangeAt_setCells_same W (b1 + 1) 0 _ (blk_there hk2 rfl)) Tryz.underlying25 rfl info25b,only_setCells _ _ _ (only_refl _ _)⟩
 have HG9:=Lib.hid hg9;have hlt2:=hk2.lt;clear hk2 hg9;go_wp2_with (refine wpList_store_mid rfl 25 (.tmp 2) (.tmp 11) rfl (b1 + 1) 0 #[.int .i64 C.claims,.slice A1 C.strikes.length k1,.slice A2 C.surveys.length k2] rfl rfl HTH.out info25b (all_oneCell_toArray (by intro v hv;simp at hv;rcases hv with rfl | rfl | rfl <;> rfl)) ?_;rw [hW9])
 have hsm:Sm W0.heap.size W W9:=Sm.of_grown HG9.out fun k e=>by cases e;exact .inl hz0
 have hww:=H0.out.size;refine bodyPost_ret (v:=.agg #[.int .i64 C.claims,.slice A1 C.strikes.length k1,.slice A2 C.surveys.length k2]) (by simp [results,Tryz.results13,Act.put,asAddr,hl9]) rfl ⟨_,_,rfl,own_base (own_sm HS.out hsm (Nat.le_refl _)) hww,(HT.out.sm hsm (Nat.le_refl _)).mono hww,(H0.out.trans HA.out).grown HG9.out (fun k e=>by cases e;have:=HW.out;omega)⟩
theorem own_kept_ty {w w':World} {base g:Nat} {e t:TypeId} {size n:Nat} {v:Value} {xs:List Value} {cs:Array Value} (h:w.ownsRow base e size v n xs) (hb:Blk w g t cs) (hne:e ≠ t) (hg:w.grownBy w' (some g)):w'.ownsRow base e size v n xs:=by
 refine h.kept hg ?_;rcases h.2 with ⟨rfl,_⟩ | ⟨k,cap,cur,rfl,_,hh,_⟩
 ·exact .inl rfl
 ·refine .inr fun e2=>?_
  have e3:k = g:=Option.some.inj e2;subst e3;have hb':w.heap[k]? = some (.cells cs t (0,0)):=hb;rw [hh] at hb';cases hb';exact hne rfl
theorem OwnLists.kept_ty {w w':World} {base g:Nat} {t:TypeId} {v:Value} {ls:List (List Int)} {cs:Array Value} (h:OwnLists w base v ls) (hb:Blk w g t cs) (h1:33 ≠ t) (h2:3 ≠ t) (hg:w.grownBy w' (some g)):OwnLists w' base v ls :=
 let ⟨vs,h⟩:=h;⟨vs,own_kept_ty h.own hb h1 hg,fun i hi hi'=>own_kept_ty (h.rows i hi hi') hb h2 hg,h.apart⟩
theorem OwnLists.kept_own {w w':World} {base base':Nat} {e:TypeId} {size n:Nat} {v v':Value} {xs:List Value} {ls:List (List Int)} (h:OwnLists w base v ls) (h':w.ownsRow base' e size v' n xs) (h1:33 ≠ e) (h2:3 ≠ e) (hg:w.grownBy w' v'.ownBlock):OwnLists w' base v ls:=by
 rcases h'.2 with ⟨rfl,_⟩ | ⟨k,cap,cur,rfl,_,hh,_⟩
 ·obtain ⟨vs,h⟩:=h
  have q:∀ u:Value,u.ownBlock = none \/ u.ownBlock ≠ (Value.slice none 0 0).ownBlock:=fun u=>by
   cases hu:u.ownBlock with
   | none=>exact .inl rfl
   | some g=>exact .inr fun e=>by cases e
  exact ⟨vs,h.own.kept hg (q v),fun i hi hi'=>(h.rows i hi hi').kept hg (q vs[i]),h.apart⟩
 ·exact h.kept_ty (g:=k) (cs:=cur) hh h1 h2 hg
structure Cs (W0:World) (N:Int) (T:List (List Int)) (done:Nat -> Bool) (a:Act) (W:World):Prop where
 aft:Aft W0 W
 t4:done 4 = true -> ∃ v,a.eval (.tmp 10) = v /\ OwnLists W W0.heap.size v T
 t5:done 5 = true -> ∃ v,a.eval (.tmp 11) = .agg #[.int .i64 N,.slice none 0 0,v] /\ OwnLists W W0.heap.size v T
 t6:done 6 = true -> ∃ g,a.eval (.tmp 3) = .pointer (some ⟨g,0,none⟩) /\ W0.heap.size <= g /\ Blk W g 31 #[.int .i64 0,.slice none 0 0,.slice none 0 0]
section
variable {W0 W W':World} {N:Int} {T:List (List Int)} {done:Nat -> Bool} {a:Act}
theorem Cs.start:Cs W0 N T (fun _=>false) a W0.drew:=⟨Aft.drew _,(fun h=>by cases h),(fun h=>by cases h),(fun h=>by cases h)⟩
theorem Cs.keep (h:Cs W0 N T done a W) {i:Nat} {dst:Option Tmp} {v:Value} (hi:i ≠ 4 /\ i ≠ 5 /\ i ≠ 6) (hd:dst ≠ some 10 /\ dst ≠ some 11 /\ dst ≠ some 3):Cs W0 N T (Go.upd done i) (a.put dst v) W:=by
 refine ⟨h.aft,fun p=>?_,fun p=>?_,fun p=>?_⟩
 ·rw [upd_ne' (Ne.symm hi.1)] at p;obtain ⟨v,e,hs⟩:=h.t4 p;exact ⟨v,by rw [evne hd.1];exact e,hs⟩
 ·rw [upd_ne' (Ne.symm hi.2.1)] at p;obtain ⟨v,e,hs⟩:=h.t5 p;exact ⟨v,by rw [evne hd.2.1];exact e,hs⟩
 ·rw [upd_ne' (Ne.symm hi.2.2)] at p;obtain ⟨g,e,hs⟩:=h.t6 p;exact ⟨g,by rw [evne hd.2.2];exact e,hs⟩
theorem Cs.step4 (h:Cs W0 N T done a W) (ha:Aft W W') {v:Value} (ht:OwnLists W' W0.heap.size v T) (hz:10 < a.tmps.size):Cs W0 N T (Go.upd done 4) (a.put (some 10) v) W':=by
 refine ⟨h.aft.trans ha,fun _=>⟨v,Act.eval_put_same _ _ _ hz,ht⟩,fun p=>?_,fun p=>?_⟩
 ·rw [upd_ne' (by decide)] at p;obtain ⟨v,e,hs⟩:=h.t5 p;exact ⟨v,by rw [evne (by decide)];exact e,hs.aft ha⟩
 ·rw [upd_ne' (by decide)] at p;obtain ⟨g,e,hs,hb⟩:=h.t6 p;exact ⟨g,by rw [evne (by decide)];exact e,hs,hb.aft ha⟩
theorem Cs.step5 (h:Cs W0 N T done a W) {v:Value} (ht:OwnLists W W0.heap.size v T) (hz:11 < a.tmps.size):Cs W0 N T (Go.upd done 5) (a.put (some 11) (.agg #[.int .i64 N,.slice none 0 0,v])) W:=by
 refine ⟨h.aft,fun p=>?_,fun _=>⟨v,Act.eval_put_same _ _ _ hz,ht⟩,fun p=>?_⟩
 ·rw [upd_ne' (by decide)] at p;obtain ⟨v,e,hs⟩:=h.t4 p;exact ⟨v,by rw [evne (by decide)];exact e,hs⟩
 ·rw [upd_ne' (by decide)] at p;obtain ⟨g,e,hs⟩:=h.t6 p;exact ⟨g,by rw [evne (by decide)];exact e,hs⟩
theorem Cs.step6 (h:Cs W0 N T done a W) (hz:3 < a.tmps.size):Cs W0 N T (Go.upd done 6) (a.put (some 3) (.pointer (some ⟨W.heap.size,0,none⟩))) (W.alloc (.cells #[.int .i64 0,.slice none 0 0,.slice none 0 0] 31)):=by
 refine ⟨h.aft.then_alloc _,fun p=>?_,fun p=>?_,fun _=>⟨_,Act.eval_put_same _ _ _ hz,h.aft.size,Blk.new W 31 _⟩⟩
 ·rw [upd_ne' (by decide)] at p;obtain ⟨v,e,hs⟩:=h.t4 p;exact ⟨v,by rw [evne (by decide)];exact e,hs.aft (Aft.alloc _ _)⟩
 ·rw [upd_ne' (by decide)] at p;obtain ⟨v,e,hs⟩:=h.t5 p;exact ⟨v,by rw [evne (by decide)];exact e,hs.aft (Aft.alloc _ _)⟩
end
theorem info57c:(Tryz.prog.info? 57).map (·.size) = some 2:=by kernel_rfl
set_option maxRecDepth 100000 in
set_option maxHeartbeats 8000000 in
theorem caseR_any (C:CaseL) (a1 a2:Option Addr) (c1 c2:Nat) (w:World) (hC:CRep w C a1 a2) (h1:C.strikes.length <= 1000) (h2:C.surveys.length <= 1000) (h3:∀ l ∈ C.surveys,l.length <= 1000) :
  Calls Tryz.prog 14 #[(.agg #[.int .i64 C.claims,.slice a1 C.strikes.length c1,.slice a2 C.surveys.length c2])] w (CopyR 84 C w):=by
 have H0:=Lib.hid ((Aft.alloc w (.cells #[.int .i64 C.claims,.slice a1 C.strikes.length c1,.slice a2 C.surveys.length c2] 25)).then_alloc (.cells #[.int .i64 0,.slice none 0 0,.slice none 0 0] 31));have HB:=Lib.hid ((Blk.new w 25 #[.int .i64 C.claims,.slice a1 C.strikes.length c1,.slice a2 C.surveys.length c2]).alloc (.cells #[.int .i64 0,.slice none 0 0,.slice none 0 0] 31));have HB2:=Lib.hid (Blk.new (w.alloc (.cells #[.int .i64 C.claims,.slice a1 C.strikes.length c1,.slice a2 C.surveys.length c2] 25)) 31 #[.int .i64 0,.slice none 0 0,.slice none 0 0]);rw [World.size_alloc] at HB2;have HC:=Lib.hid (hC.aft H0.out);have hz0:w.heap.size + 1 < ((w.alloc (.cells #[.int .i64 C.claims,.slice a1 C.strikes.length c1,.slice a2 C.surveys.length c2] 25)).alloc (.cells #[.int .i64 0,.slice none 0 0,.slice none 0 0] 31)).heap.size:=by simp
 clear hC;go_enter Tryz.func14,Tryz.ntmps14;go_upto_region 1 with fail
 try rw [World.size_alloc]
 obtain ⟨b1,hb1⟩:∃ b1,w.heap.size = b1:=⟨_,rfl⟩;have HW:=Lib.hid hb1;rw [hb1] at HB HB2 hz0 ⊢;clear hb1;generalize (w.alloc (.cells #[.int .i64 C.claims,.slice a1 C.strikes.length c1,.slice a2 C.surveys.length c2] 25)).alloc (.cells #[.int .i64 0,.slice none 0 0,.slice none 0 0] 31) = W0 at *;have HC0:Hid (∀ W,Aft W0 W -> W.cell? ⟨b1,0,none⟩ = some (.int .i64 C.claims) /\ W.cell? ⟨b1,1,none⟩ = some (.slice a1 C.strikes.length c1) /\ W.cell? ⟨b1,2,none⟩ = some (.slice a2 C.surveys.length c2)):=Lib.hid fun W h=>box25 (HB.out.aft h)
 have H53:Hid (∀ W,Aft W0 W -> Calls Tryz.prog 53 #[.slice a2 C.surveys.length c2] W fun e w'=>∃ v,e = .returned v /\ OwnLists w' W.heap.size v C.surveys /\ Aft W w'):=Lib.hid fun W h=>cloneAll_any W a2 C.surveys c2 (HC.out.aft h).surveys (by omega)
 have H3:=Lib.hid h3;clear h3;refine wp_region_valsU (by kernel_rfl) 7 27 rfl (by kernel_rfl) (by kernel_rfl) [some (.pointer (some ⟨b1,0,none⟩)),some (.int .i64 C.claims),some (.pointer (some ⟨b1,2,none⟩)),some (.slice a2 C.surveys.length c2),none,none,none] (by kernel_rfl) rfl (Cs W0 C.claims C.surveys) (Cs.start) ?st2 ?fi2
 case st2 =>
  intro i o v ho hv
  match i,ho,hv with
  | 0,ho,hv =>
   cases ho;cases hv;refine .inl ⟨rfl,fun done a W hz hd hp hk hw K hK=>?_⟩;have e1:=hk.s 1;exact op_val (v:=.pointer (some ⟨b1,0,none⟩)) (by simp [go_sem,ev' e1]) (hK _ _ (fun u hu=>by cases hu;rfl) (hw.keep (by decide) (by decide)))
  | 1,ho,hv =>
   cases ho;cases hv;refine .inl ⟨rfl,fun done a W hz hd hp hk hw K hK=>?_⟩;have e6:=hk.t 0;exact op_val (v:=.int .i64 C.claims) (by simp [go_sem,ev' e6,(HC0.out W hw.aft).1]) (hK _ _ (fun u hu=>by cases hu;rfl) (hw.keep (by decide) (by decide)))
  | 2,ho,hv =>
   cases ho;cases hv;refine .inl ⟨rfl,fun done a W hz hd hp hk hw K hK=>?_⟩;have e1:=hk.s 1;exact op_val (v:=.pointer (some ⟨b1,2,none⟩)) (by simp [go_sem,ev' e1]) (hK _ _ (fun u hu=>by cases hu;rfl) (hw.keep (by decide) (by decide)))
  | 3,ho,hv =>
   cases ho;cases hv;refine .inl ⟨rfl,fun done a W hz hd hp hk hw K hK=>?_⟩;have e8:=hk.t 2;exact op_val (v:=.slice a2 C.surveys.length c2) (by simp [go_sem,ev' e8,(HC0.out W hw.aft).2.2]) (hK _ _ (fun u hu=>by cases hu;rfl) (hw.keep (by decide) (by decide)))
  | 4,ho,hv =>
   cases ho;cases hv;refine .inl ⟨rfl,fun done a W hz hd hp hk hw K hK=>?_⟩;have e9:=hk.t 3;refine op_callN rfl rfl rfl _ rfl (vs:=#[.slice a2 C.surveys.length c2]) (by simp [e9]) (H53.out W hw.aft) fun e w' h=>?_
   obtain ⟨v1,rfl,ho,ha⟩:=h;exact ⟨_,rfl,hK _ _ (fun u hu=>by cases hu) (hw.step4 ha (ho.mono hw.aft.size) (by rw [hz];decide))⟩
  | 5,ho,hv =>
   cases ho;cases hv;refine .inl ⟨rfl,fun done a W hz hd hp hk hw K hK=>?_⟩;have e7:=hk.t 1;obtain ⟨v1,e10,hs⟩:=hw.t4 (hp 4 (by decide));obtain ⟨A,c,hv1,_,_⟩:=hs.lists (by omega) (fun l hl=>by have:=H3.out l hl;omega);subst hv1;exact op_val (v:=.agg #[.int .i64 C.claims,.slice none 0 0,.slice A C.surveys.length c]) (by simp [go_sem,ev' e7,ev' e10]) (hK _ _ (fun u hu=>by cases hu) (hw.step5 hs (by rw [hz];decide)))
  | 6,ho,hv =>
   cases ho;cases hv;refine .inl ⟨rfl,fun done a W hz hd hp hk hw K hK=>?_⟩;exact op_valW (w':=W.alloc (.cells #[.int .i64 0,.slice none 0 0,.slice none 0 0] 31)) (v:=.pointer (some ⟨W.heap.size,0,none⟩)) (by simp [go_sem]) (hK _ _ (fun u hu=>by cases hu) (hw.step6 (by rw [hz];decide)))
  | _ + 7,_,hv=>cases hv
 intro done us W hus hd hw;obtain ⟨x1,x2,x3,rfl⟩:=list3 hus;obtain ⟨v2,e11,ht⟩:=hw.t5 (hd 5 (by decide));obtain ⟨g,e3,hg,hbg⟩:=hw.t6 (hd 6 (by decide));have e11':x2 = .agg #[.int .i64 C.claims,.slice none 0 0,v2]:=by simpa [fill,putAll,Act.put,Act.eval] using e11
 have e3':x3 = .pointer (some ⟨g,0,none⟩):=by simpa [fill,putAll,Act.put,Act.eval] using e3
 obtain ⟨A2,k2,hv2,_⟩:=lists_own (b:=W0.heap.size) ht (by omega) (fun l hl=>by have:=H3.out l hl;omega) (Nat.le_refl _);rw [hv2] at e11' ht;clear hv2;subst e11';subst e3';have HT:=Lib.hid ht;have HA:=Lib.hid hw.aft;have HBG:=Lib.hid hbg;clear hw hd hus e11 e3 ht hbg;simp only [fill,List.drop_succ_cons,List.drop_zero,List.zip_cons_cons,List.zip_nil_right,putAll];simp only [Act.put,List.setIfInBounds_toArray,List.set];go_upto_region 2 with (refine wpList_store_mid rfl 31 (.tmp 3) (.tmp 11) rfl g 0 #[.int .i64 C.claims,.slice none 0 0,.slice A2 C.surveys.length k2] rfl rfl (blk_there HBG.out rfl) info31 (all_oneCell_toArray (by intro v hv;simp at hv;rcases hv with rfl | rfl | rfl <;> rfl)) ?_)
 have hb1:Blk (W.setCells g 0 [.int .i64 C.claims,.slice none 0 0,.slice A2 C.surveys.length k2]) g 31 #[.int .i64 C.claims,.slice none 0 0,.slice A2 C.surveys.length k2]:=by
  have:=((HBG.out.store 0 (.int .i64 C.claims)).store 1 (.slice none 0 0)).store 2 (.slice A2 C.surveys.length k2);exact this
 have hs1:W.grownBy (W.setCells g 0 [.int .i64 C.claims,.slice none 0 0,.slice A2 C.surveys.length k2]) (some g):=only_setCells _ _ _ (only_refl _ _);have HA1:=Lib.hid (HA.out.grown hs1 (fun k e=>by cases e;exact hg));have HT1:=Lib.hid (HT.out.kept_ty HBG.out (by decide) (by decide) hs1);have HB1:=Lib.hid hb1;clear hb1 hs1 HA HT HBG;generalize W.setCells g 0 [.int .i64 C.claims,.slice none 0 0,.slice A2 C.surveys.length k2] = W1 at *;obtain ⟨k0,k1,j2⟩:=HC0.out W1 HA1.out;have k3:=(HB.out.aft HA1.out).lt;go_upto_block 0 with fail
 clear k0 k1 j2 k3;have HO0:=Lib.hid (World.ownsRow_nil W1 W1.heap.size 84 2);have hg1:=HB1.out.lt;refine wp_block ?_;go_loopw [15] (fun i wr=>∃ (k:Nat) (vS:Value) (L2:List (Int × Int)),i = .int .i64 k /\ k <= C.strikes.length /\ Hid (L2 = C.strikes.take k) /\ L2.length <= k /\ wr.ownsRow W1.heap.size 84 2 vS L2.length (strC L2) /\ Blk wr g 31 #[.int .i64 C.claims,vS,.slice A2 C.surveys.length k2] /\ OwnLists wr W0.heap.size (.slice A2 C.surveys.length k2) C.surveys /\ Aft W0 wr /\ W1.heap.size <= wr.heap.size) (fun i _=>C.strikes.length - (intOf i).toNat)
 case atStart=>exact ⟨0,_,[],rfl,by omega,Lib.hid rfl,by simp,HO0.out,HB1.out,HT1.out,HA1.out,Nat.le_refl _⟩
 case round =>
  obtain ⟨k,vS,L2,rfl,hk,HL2,hL2l,hown,hbk,hlt,hax,hsz⟩:=hrel;have HOS:=Lib.hid hown;have HBK:=Lib.hid hbk;have HLT:=Lib.hid hlt;have HAX:=Lib.hid hax;clear hown hbk hlt hax;by_cases hkL:k < C.strikes.length
  ·have t3:decide (k < C.strikes.length) = true:=by simpa using hkL
   have ik:(0:Int) <= (k:Int) /\ (k:Int) < (C.strikes.length:Int):=by omega
   obtain ⟨bs,os,hbs,hlts,hcs⟩:=(HC.out.aft HAX.out).strikes.at hkL;subst hbs;obtain ⟨x0,x1⟩:=hcs k hkL;have HFS:Hid (C.strikes.take (k + 1) = C.strikes.take k ++ [C.strikes[k]]):=Lib.hid (List.take_succ_eq_append_getElem hkL);obtain ⟨⟨y0,y1⟩,hyz⟩:∃ s,C.strikes[k] = s:=⟨_,rfl⟩;rw [hyz] at x0 x1 HFS;dsimp only at x0 x1;rw [<- HL2.out] at HFS;clear hcs hyz;go_upto_region 5 with (refine wpList_store_new rfl 57 (.tmp 5) (.tmp 18) rfl rfl rfl info57c rfl (all_oneCell_toArray (by intro v hv;simp at hv;rcases hv with rfl | rfl <;> rfl)) ?_)
   try simp only [Act.put]
   have HB33:=Lib.hid (Blk.new wr 57 #[.int .i64 y0,.int .i64 y1]);have HA33:=Lib.hid (Aft.alloc wr (.cells #[.int .i64 y0,.int .i64 y1] 57));obtain ⟨b33,hb33⟩:∃ b33,wr.heap.size = b33:=⟨_,rfl⟩;rw [hb33] at HB33 ⊢
   replace HOS:=Lib.hid (own_aft HOS.out HA33.out)
   replace HBK:=Lib.hid (HBK.out.aft HA33.out)
   replace HLT:=Lib.hid (HLT.out.aft HA33.out)
   replace HAX:=Lib.hid (HAX.out.trans HA33.out)
   have hsz:=Nat.le_trans hsz HA33.out.size;clear hb33 HA33 x0 x1;generalize wr.alloc (.cells #[.int .i64 y0,.int .i64 y1] 57) = W13 at *;have j0:W13.cell? ⟨b33,0,none⟩ = some (.int .i64 y0):=HB33.out.cell 0;have j1:W13.cell? ⟨b33,1,none⟩ = some (.int .i64 y1):=HB33.out.cell 1;have j2:=HB33.out.lt;have j3:=HBK.out.cell 1;have j4:=HBK.out.lt;obtain ⟨A8,c8,rfl,_,_⟩:=own_strs84 HOS.out (by omega);have HTA:=Lib.hid (own_aft HOS.out (Aft.alloc W13 (.cells #[.int .i64 y0,.int .i64 y1] 84)));have hbase2:W1.heap.size <= (W13.alloc (.cells #[.int .i64 y0,.int .i64 y1] 84)).heap.size:=Nat.le_trans hsz (Aft.alloc _ _).size;have HC00:=Lib.hid ((Blk.new W13 84 #[.int .i64 y0,.int .i64 y1]).cell 0);have HC01:=Lib.hid ((Blk.new W13 84 #[.int .i64 y0,.int .i64 y1]).cell 1);have HBK2:=Lib.hid (HBK.out.aft (Aft.alloc W13 (.cells #[.int .i64 y0,.int .i64 y1] 84)));have HLT2:=Lib.hid (HLT.out.aft (Aft.alloc W13 (.cells #[.int .i64 y0,.int .i64 y1] 84)));have HAX2:=Lib.hid (HAX.out.then_alloc (.cells #[.int .i64 y0,.int .i64 y1] 84));have hge:=own_ge HTA.out;clear HOS HBK HLT HAX;go_wp2_with (at_builtin;refine wpList_push29 rfl _ _ rfl HTA.out hbase2 rfl rfl HC00.out HC01.out (by omega) ?_;intro v8 w8 ho8 hg8;obtain ⟨A80,c80,rfl,_,_⟩:=own_strs84 ho8 (by simp;omega);have HO8:=Lib.hid ho8;have HG8:=Lib.hid hg8;have y2:=HBK2.out.grown hg8 (fun e=>by have:=hge g e.symm;omega);have HB80:=Lib.hid y2;have y5:=y2.cell 1;have y6:=y2.frozen 1;have y7:=y2.lt;clear ho8)
   have hset:w8.grownBy (w8.setCell ⟨g,1,none⟩ (.slice A80 (L2.length + 1) c80)) (some g):=only_setCell (only_refl w8 (some g)) (p:=⟨g,1,none⟩) (.inl rfl) _;have hO9:=HO8.out;rw [show (L2 ++ [(y0,y1)]).length = L2.length + 1 by simp] at hO9;have hO9:=own_sm hO9 (Sm.of_grown (b:=g + 1) hset fun k e=>by cases e;omega) (by omega);have hT9:=(HLT2.out.kept_own HTA.out (by decide) (by decide) HG8.out).kept_ty HB80.out (by decide) (by decide) hset;have hA9:=(HAX2.out.grown HG8.out (fun k e=>by have:=hge k e;have:=HA1.out.size;omega)).grown hset (fun k e=>by cases e;exact hg)
   have hB9:Blk (w8.setCell ⟨g,1,none⟩ (.slice A80 (L2.length + 1) c80)) g 31 #[.int .i64 C.claims,.slice A80 (L2.length + 1) c80,.slice A2 C.surveys.length k2]:=by
    have:=HB80.out.store 1 (.slice A80 (L2.length + 1) c80);simpa using this
   have hO10:(w8.setCell ⟨g,1,none⟩ (.slice A80 (L2.length + 1) c80)).ownsRow W1.heap.size 84 2 (.slice A80 (L2.length + 1) c80) (L2 ++ [(y0,y1)]).length (strC (L2 ++ [(y0,y1)])):=by
    rw [show (L2 ++ [(y0,y1)]).length = L2.length + 1 by simp];exact hO9
   exact ⟨⟨k + 1,_,L2 ++ [(y0,y1)],by go_num,by omega,Lib.hid HFS.out.symm,by simp;omega,hO10,hB9,hT9,hA9,Nat.le_trans hbase2 (Nat.le_trans HG8.out.size hset.size)⟩,by simp [intOf];omega⟩
  ·have t3:decide (k < C.strikes.length) = false:=by simpa using hkL
   have hLE:L2 = C.strikes:=by
    have:=HL2.out
    rwa [List.take_of_length_le (by omega)] at this
   rw [hLE] at HOS;have hLEl:L2.length = C.strikes.length:=by rw [hLE]
   obtain ⟨A1,k1,hv1,_,_⟩:=own_strs84 HOS.out (by omega);subst hv1;have HS:=HOS;have HT:=HLT;obtain ⟨j0,j1,j2⟩:=box31 HBK.out;have j3:=HBK.out.lt;clear hLE hLEl HL2 HOS HLT;have hk2:=HB2.out.aft HAX.out;have HTH:=Lib.hid (blk_there hk2 (rfl:3 = (#[Value.int .i64 0,.slice none 0 0,.slice none 0 0]:Array Value).size));obtain ⟨W9,hW9,hl9,hg9⟩:∃ W9,wr.setCells (b1 + 1) 0 [.int .i64 C.claims,.slice A1 C.strikes.length k1,.slice A2 C.surveys.length k2] = W9 /\ (loadVar 31 ⟨b1 + 1,0,none⟩).run Tryz.prog W9 = .ok (.agg #[.int .i64 C.claims,.slice A1 C.strikes.length k1,.slice A2 C.surveys.length k2]) W9 /\ wr.grownBy W9 (some (b1 + 1)) :=
    ⟨_,rfl,run_loadVar_mid (P:=Tryz.prog) _ (b1 + 1) 0 31 [.int .i64 C.claims,.slice A1 C.strikes.length k1,.slice A2 C.surveys.length k2] _ (World.rangeAt_setCells_same wr (b1 + 1) 0 _ (blk_there hk2 rfl)) Tryz.underlying31 rfl info31,only_setCells _ _ _ (only_refl _ _)⟩
   have HG9:=Lib.hid hg9;have hlt2:=hk2.lt;clear hk2 hg9;go_wp2_with (refine wpList_store_mid rfl 31 (.tmp 2) (.tmp 26) rfl (b1 + 1) 0 #[.int .i64 C.claims,.slice A1 C.strikes.length k1,.slice A2 C.surveys.length k2] rfl rfl HTH.out info31 (all_oneCell_toArray (by intro v hv;simp at hv;rcases hv with rfl | rfl | rfl <;> rfl)) ?_;rw [hW9])
   have hsm:Sm W0.heap.size wr W9:=Sm.of_grown HG9.out fun k e=>by cases e;exact .inl hz0
   have hww:=H0.out.size;refine bodyPost_ret (v:=.agg #[.int .i64 C.claims,.slice A1 C.strikes.length k1,.slice A2 C.surveys.length k2]) (by simp [results,Tryz.results14,Act.put,asAddr,hl9]) rfl ⟨_,_,rfl,own_base (own_sm HS.out hsm HA1.out.size) (Nat.le_trans hww HA1.out.size),(HT.out.sm hsm (Nat.le_refl _)).mono hww,(H0.out.trans HAX.out).grown HG9.out (fun k e=>by cases e;have:=HW.out;omega)⟩
end Go.Proofs
end
