/- Own texts, merged: CtPs CtRl CtL33. -/
import Derived.Test.YtbchfakfdikkjaaGreatS15
import Derived.Test.YtbchfakfdikkjaaGreatS19
set_option linter.unusedSimpArgs false
set_option linter.unusedVariables false
set_option linter.unnecessarySimpa false
section
/- The program and its reference answer alike: award,ranks,holds. -/
namespace Go.Proofs
open Go.RowKit
open Court (refL begF noS award)
theorem holds_pair (C:CaseL) (R F K:List Int):∃ (b:Bool) (E:Int),
  (∀ A1 A2 k1 k2 A c A' c' A'' c'' X,CRep X C A1 A2 -> Ints X A R -> Ints X A' F -> Ints X A'' K -> Calls Tryz.prog 43 #[.agg #[.int .i64 C.claims,.slice A1 C.strikes.length k1,.slice A2 C.surveys.length k2],.slice A R.length c,.slice A' F.length c',.slice A'' K.length c''] X (HoldsR b E X)) /\
  (∀ A1 A2 k1 k2 A c A' c' A'' c'' X,CRep X C A1 A2 -> Ints X A R -> Ints X A' F -> Ints X A'' K -> Calls Tryz.prog 82 #[.agg #[.int .i64 C.claims,.slice A1 C.strikes.length k1,.slice A2 C.surveys.length k2],.slice A R.length c,.slice A' F.length c',.slice A'' K.length c''] X (HoldsR b E X)):=by
 by_cases ho:openE C R = 0
 ·obtain ⟨N,S,T,rfl,hN1,hN14⟩:=case_nat (openE_ok ho).1;refine ⟨_,holdsE ⟨N,S,T⟩ R F K,fun A1 A2 k1 k2 A c A' c' A'' c'' X hX hA hF hK=>?_,fun A1 A2 k1 k2 A c A' c' A'' c'' X hX hA hF hK=>holdsTop_in N S T A1 A2 k1 k2 R F K A A' A'' c c' c'' X hX hA hF hK ho _ rfl⟩;by_cases he:holdsE ⟨N,S,T⟩ R F K = 0
  ·have:=holds_good ⟨N,S,T⟩ A1 A2 k1 k2 R F K A A' A'' c c' c'' X hX hA hF hK he N rfl;rw [he,decide_eq_true rfl,Bool.true_and];exact this
  ·have:=holds_bad ⟨N,S,T⟩ A1 A2 k1 k2 R F K A A' A'' c c' c'' X hX hA hF hK he;rw [decide_eq_false he,Bool.false_and];exact this
 ·have hE:holdsE C R F K = openE C R:=by unfold holdsE;rw [if_neg ho]
  refine ⟨false,openE C R,fun A1 A2 k1 k2 A c A' c' A'' c'' X hX hA hF hK=>?_,fun A1 A2 k1 k2 A c A' c' A'' c'' X hX hA hF hK=>holdsTop_open C A1 A2 k1 k2 R F K A A' A'' c c' c'' X hX hA ho⟩;have:=holds_bad C A1 A2 k1 k2 R F K A A' A'' c c' c'' X hX hA hF hK (by rw [hE];exact ho);rw [hE] at this;exact this
def RanksP (C:CaseL) (R L:List Int) (E:Int) (w:World) (e:Ending) (w':World):Prop:=∃ A c K,e = .returned (.tuple #[.slice A K.length c,.int .i64 E]) /\ K.length <= 14 /\ Ints w' A K /\ Aft w w' /\ (E ≠ 0 -> K.length = 0) /\
 (E = 0 -> ∀ A1 A2 k1 k2 A c A' c' A'' c'' X,CRep X C A1 A2 -> Ints X A R -> Ints X A' L -> Ints X A'' K -> Calls Tryz.prog 82 #[.agg #[.int .i64 C.claims,.slice A1 C.strikes.length k1,.slice A2 C.surveys.length k2],.slice A R.length c,.slice A' L.length c',.slice A'' K.length c''] X (HoldsR true 0 X))
theorem award_triple (C:CaseL) (R:List Int):∃ (L:List Int) (E:Int),
  (∀ A1 A2 k1 k2 A c X,CRep X C A1 A2 -> Ints X A R -> Calls Tryz.prog 39 #[.agg #[.int .i64 C.claims,.slice A1 C.strikes.length k1,.slice A2 C.surveys.length k2],.slice A R.length c] X (PairR L E X)) /\
  (∀ A1 A2 k1 k2 A c X,CRep X C A1 A2 -> Ints X A R -> Calls Tryz.prog 22 #[.agg #[.int .i64 C.claims,.slice A1 C.strikes.length k1,.slice A2 C.surveys.length k2],.slice A R.length c] X (PairR L E X)) /\
  (∀ A1 A2 k1 k2 A c X,CRep X C A1 A2 -> Ints X A R -> Calls Tryz.prog 42 #[.agg #[.int .i64 C.claims,.slice A1 C.strikes.length k1,.slice A2 C.surveys.length k2],.slice A R.length c] X (RanksP C R L E X)):=by
 by_cases ho:openE C R = 0
 ·obtain ⟨N,S,T,rfl,hN1,hN14⟩:=case_nat (openE_ok ho).1;have hRR:=(listedE_ok (openE_ok ho).2).1;have href:∀ n,refL R n = true -> 0 <= n /\ n < N:=fun n h=>hRR n (List.contains_iff_mem.1 h)
  refine ⟨foundL (award S noS N (begF (refL R))) N,0,fun A1 A2 k1 k2 A c X hX hA=>?_,fun A1 A2 k1 k2 A c X hX hA=>?_,fun A1 A2 k1 k2 A c X hX hA=>?_⟩
  ·exact (award_good ⟨N,S,T⟩ A1 A2 k1 k2 R A c X hX hA ho N rfl).mono fun e w' h=>PairR.goodL (by rw [foundL_len];omega) h
  ·exact (awardTop_good N S T A1 A2 k1 k2 R A c X hX hA ho).mono fun e w' h=>PairR.made (by rw [foundL_len];omega) h
  ·refine (ranks_good ⟨N,S,T⟩ A1 A2 k1 k2 R A c X hX hA ho N rfl).mono fun e w' h=>?_
   obtain ⟨r,hh,v,rfl,hown,ha⟩:=h;obtain ⟨A',c',rfl,_,hi⟩:=own_ints hown (by rw [foundL_len];omega);refine ⟨A',c',foundL r N,rfl,by rw [foundL_len];omega,hi,ha,fun h=>absurd rfl h,fun _ B1 B2 j1 j2 D1 e1 D2 e2 D3 e3 Y hY h1 h2 h3=>?_⟩;have hE:holdsE ⟨N,S,T⟩ R (foundL (award S noS N (begF (refL R))) N) (foundL r N) = 0 :=
    holdsE_zero ho (by rw [foundL_len]) (by rw [foundL_len]) (foundL_mem (b:=2) award_three) fun x hx=>by
     have:=foundL_mem (N:=N) (fun n=>hh.rank (Court.begF_three _) n) x hx;omega
   have:=holdsTop_in N S T B1 B2 j1 j2 R (foundL (award S noS N (begF (refL R))) N) (foundL r N) D1 D2 D3 e1 e2 e3 Y hY h1 h2 h3 ho 0 hE;rw [all_held href hh] at this;exact this
 ·refine ⟨[],openE C R,fun A1 A2 k1 k2 A c X hX hA=>?_,fun A1 A2 k1 k2 A c X hX hA=>(awardTop_bad C A1 A2 k1 k2 R A c X hX hA ho).mono fun e w' h=>PairR.bad h,fun A1 A2 k1 k2 A c X hX hA=>?_⟩
  ·exact (award_bad C A1 A2 k1 k2 R A c X hX hA ho).mono fun e w' h=>PairR.bad h
  ·refine (ranks_bad C A1 A2 k1 k2 R A c X hX hA ho).mono fun e w' h=>?_
   obtain ⟨rfl,ha⟩:=h;exact ⟨none,0,[],rfl,by simp,ints_none w',ha,fun _=>rfl,fun h=>absurd h ho⟩
end Go.Proofs
end
section
/- Walks: the reference's Heard 81. -/
namespace Go.Proofs
open Go.RowKit
open Court (refL begF noS struckB heard1 setF hear hears)
attribute [local go_sem] Oper.semAt_some
theorem hears_take (S:List (Int × Int)) (f:Int -> Nat) (O:List Int) (k:Nat) (h:k < O.length):hears S noS f (O.take (k + 1)) = setF (hears S noS f (O.take k)) O[k] (heard1 S noS (hears S noS f (O.take k)) O[k]):=by
 unfold hears;rw [List.take_succ_eq_append_getElem h,List.foldl_append];rfl
set_option maxRecDepth 100000 in
set_option maxHeartbeats 4000000 in
theorem heardTop_open (C:CaseL) (a1 a2:Option Addr) (c1 c2:Nat) (R O:List Int) (A A':Option Addr) (c c':Nat) (w:World) (hC:CRep w C a1 a2) (hA:Ints w A R) (he:openE C R ≠ 0) :
  Calls Tryz.prog 81 #[(.agg #[.int .i64 C.claims,.slice a1 C.strikes.length c1,.slice a2 C.surveys.length c2]),.slice A R.length c,.slice A' O.length c'] w (BadS (openE C R) w):=by
 have H0:=Lib.hid (Aft.alloc w (.cells #[.int .i64 C.claims,.slice a1 C.strikes.length c1,.slice a2 C.surveys.length c2] 31));have HB:=Lib.hid (Blk.new w 31 #[.int .i64 C.claims,.slice a1 C.strikes.length c1,.slice a2 C.surveys.length c2]);have H1:=Lib.hid (refutedR_any C a1 a2 c1 c2 R A c _ (hC.aft H0.out) (hA.aft H0.out));have t1:(openE C R != 0) = true:=by simpa using he
 obtain ⟨k0,k1,k2⟩:=box31 HB.out;have hlt:=HB.out.lt;unfold BadS;clear hC hA he;generalize openE C R = E at *;go_enter Tryz.func81,Tryz.ntmps81;go_wp2_with (go_at_call 66;refine H1.out.mono ?_;rintro e w1 ⟨rfl,ha1⟩;have HA1:=Lib.hid ha1;clear ha1)
 go_ret2;exact ⟨rfl,H0.out.trans HA1.out⟩
set_option maxRecDepth 100000 in
set_option maxHeartbeats 8000000 in
theorem heardTop_in (N:Nat) (S:List (Int × Int)) (T:List (List Int)) (a1 a2:Option Addr) (c1 c2:Nat) (R O:List Int) (A A':Option Addr) (c c':Nat) (w:World) (hC:CRep w ⟨N,S,T⟩ a1 a2) (hA:Ints w A R) (hO:Ints w A' O) (he:openE ⟨N,S,T⟩ R = 0) :
  Calls Tryz.prog 81 #[(.agg #[.int .i64 N,.slice a1 S.length c1,.slice a2 T.length c2]),.slice A R.length c,.slice A' O.length c'] w fun e w'=>(heardE ⟨N,S,T⟩ R O ≠ 0 -> BadS (heardE ⟨N,S,T⟩ R O) w e w') /\ (heardE ⟨N,S,T⟩ R O = 0 -> PairR (foundL (hears S noS (begF (refL R)) O) N) 0 w e w'):=by
 have hlO:=hO.len;have hE:heardE ⟨N,S,T⟩ R O = if 400 < O.length then 3 else if O.all (fun n=>Cl n N) then 0 else 2:=by unfold heardE;rw [if_pos he]
 obtain ⟨E,hEE⟩:∃ E,heardE ⟨N,S,T⟩ R O = E:=⟨_,rfl⟩;rw [hEE];rw [hEE] at hE;have HE:=Lib.hid hE;clear hE hEE;unfold BadS PairR;have H0:=Lib.hid (Aft.alloc w (.cells #[.int .i64 N,.slice a1 S.length c1,.slice a2 T.length c2] 31));have HB:=Lib.hid (Blk.new w 31 #[.int .i64 N,.slice a1 S.length c1,.slice a2 T.length c2]);have H1:Hid (Calls Tryz.prog 66 #[(.agg #[.int .i64 N,.slice a1 S.length c1,.slice a2 T.length c2]),.slice A R.length c] (w.alloc (.cells #[.int .i64 N,.slice a1 S.length c1,.slice a2 T.length c2] 31)) fun e w'=>e = .returned (.int .i64 0) /\ Aft (w.alloc (.cells #[.int .i64 N,.slice a1 S.length c1,.slice a2 T.length c2] 31)) w'):=Lib.hid (by rw [<- he];exact refutedR_any ⟨N,S,T⟩ a1 a2 c1 c2 R A c _ (hC.aft H0.out) (hA.aft H0.out));have hok:=caseE_ok (openE_ok he).1;have hRR:=(listedE_ok (openE_ok he).2).1;have hn1:=hok.n1;have hn2:=hok.n2;have HIN:=Lib.hid hok.ins;dsimp only at hn1 hn2 HIN hRR;have H99:Hid (∀ W,Aft w W -> Calls Tryz.prog 99 #[(.agg #[.int .i64 N,.slice a1 S.length c1,.slice a2 T.length c2]),.slice A R.length c] W (MadeI (foundL (begF (refL R)) N) W)):=Lib.hid fun W h=>begin_any N a1 a2 S.length T.length c1 c2 A R c W (by omega) (hA.aft h) hRR
 have HC:=Lib.hid (hC.aft H0.out);have HO:=Lib.hid (hO.aft H0.out);have e1:IntKind.i64.wrap ((N:Int) - 1) = (N:Int) - 1:=by rw [IntWalk.i64_in _ (by omega)]
 have hfl:=foundL_len (begF (refL R)) N;obtain ⟨bC,hbC⟩:∃ bC,w.heap.size = bC:=⟨_,rfl⟩;rw [hbC] at HB;have HBC:=Lib.hid hbC;clear hbC hC hA hO he hok hRR;go_enter Tryz.func81,Tryz.ntmps81;go_upto_region 1 with fail
 rw [HBC.out];generalize w.alloc (.cells #[.int .i64 N,.slice a1 S.length c1,.slice a2 T.length c2] 31) = W0 at *;obtain ⟨k0,k1,k2⟩:=box31 HB.out;have k3:=HB.out.lt;by_cases h4:400 < O.length
 ·have t4:decide ((400:Int) < (O.length:Int)) = true:=decide_eq_true (by omega);have HE3:Hid (E = 3):=Lib.hid (by rw [HE.out,if_pos h4]);clear h4;go_wp2_with (go_at_call 66;refine H1.out.mono ?_;rintro e w1 ⟨rfl,ha1⟩;have HA1:=Lib.hid ha1;clear ha1)
  go_ret2;exact ⟨fun _=>⟨by rw [HE3.out];rfl,H0.out.trans HA1.out⟩,fun h=>by rw [HE3.out] at h;cases h⟩
 ·have t4:decide ((400:Int) < (O.length:Int)) = false:=decide_eq_false (by omega);have HE2:Hid (E = if O.all (fun n=>Cl n N) then 0 else 2):=Lib.hid (by rw [HE.out,if_neg h4]);clear HE;go_upto_block 0 with (go_at_call 66;refine H1.out.mono ?_;rintro e W1 ⟨rfl,ha1⟩;have HA1:=Lib.hid ha1;clear ha1)
  clear H1 k0 k1 k2 k3;refine wp_block ?_;go_loopw [9] (fun i wr=>∃ k:Nat,i = .int .i64 k /\ k <= O.length /\ Aft W0 wr /\ Hid (∀ j,(h:j < O.length) -> j < k -> Cl O[j] N = true)) (fun i _=>O.length - (intOf i).toNat)
  case atStart=>exact ⟨0,rfl,by omega,HA1.out,Lib.hid fun j _ h=>by omega⟩
  case round =>
   obtain ⟨k,rfl,hk,hy,HCL⟩:=hrel;have HY:=Lib.hid hy;clear hy;by_cases hkl:k < O.length
   ·have t1:decide (k < O.length) = true:=by simpa using hkl
    have ik:(0:Int) <= (k:Int) /\ (k:Int) < (O.length:Int):=by omega
    obtain ⟨b,o,rfl,hb,hc⟩:=(HO.out.aft HY.out).at hkl;have HNA:Hid (Cl O[k] N = false -> O.all (fun n=>Cl n N) = false):=Lib.hid fun h=>all_not hkl h
    obtain ⟨y,hyk⟩:∃ y,O[k] = y:=⟨_,rfl⟩;have HYK:=Lib.hid hyk;have x0:=hc k hkl;rw [hyk] at x0 HNA;have HX:Hid (∀ W,Aft wr W -> W.cell? ⟨b,o + k,none⟩ = some (.int .i64 y)):=Lib.hid fun W h=>cellA x0 hb h
    have HN:Hid (∀ W,Aft wr W -> W.cell? ⟨bC,0,none⟩ = some (.int .i64 N)):=Lib.hid fun W h=>(box31 (HB.out.aft (HY.out.trans h))).1
    clear hc hyk x0;go_upto_region 9 with fail
    obtain ⟨bb,hbb⟩:∃ bb,(!fromB y 0 ((N:Int) - 1)) = bb:=⟨_,rfl⟩;have H57:Hid (∀ W,Calls Tryz.prog 57 #[.int .i64 y,.int .i64 0,.int .i64 ((N:Int) - 1)] W fun e w'=>e = .returned (.bool bb) /\ W = w'):=Lib.hid fun W=>by rw [<- hbb];exact beside_any y 0 ((N:Int) - 1) W
    have HBB:Hid (Cl y N = !bb):=Lib.hid (by rw [<- hbb,Bool.not_not];rfl);clear hbb;refine wp_region_valsG (by kernel_rfl) 58 rfl (by kernel_rfl) (by kernel_rfl) [.slice (some ⟨b,o,none⟩) O.length c',.int .i64 k,.pointer (some ⟨b,o + k,none⟩),.int .i64 y,.pointer (some ⟨bC,0,none⟩),.int .i64 N,.int .i64 ((N:Int) - 1),.bool bb] rfl (fun W=>Aft wr W) (Aft.drew _) ?st1 ?fi1
    case st1 =>
     intro i o v ho hv
     match i,ho,hv with
     | 0,ho,hv =>
      cases ho;cases hv;refine .inl ⟨rfl,fun a W hk hw K hK=>?_⟩;have e2:=hk.s 2;exact op_val (by simp [go_sem,ev' e2]) (hK _ hw)
     | 1,ho,hv =>
      cases ho;cases hv;refine .inl ⟨rfl,fun a W hk hw K hK=>?_⟩;have e9:=hk.s 9;exact op_val (by simp [go_sem,ev' e9]) (hK _ hw)
     | 2,ho,hv =>
      cases ho;cases hv;refine .inl ⟨rfl,fun a W hk hw K hK=>?_⟩;have e27:=hk.t 0;have e28:=hk.t 1;exact op_val (by simp [go_sem,ev' e27,ev' e28,ik]) (hK _ hw)
     | 3,ho,hv =>
      cases ho;cases hv;refine .inl ⟨rfl,fun a W hk hw K hK=>?_⟩;have e29:=hk.t 2;exact op_val (by simp [go_sem,ev' e29,HX.out W hw]) (hK _ hw)
     | 4,ho,hv =>
      cases ho;cases hv;refine .inl ⟨rfl,fun a W hk hw K hK=>?_⟩;have e3:=hk.s 3;exact op_val (by simp [go_sem,ev' e3]) (hK _ hw)
     | 5,ho,hv =>
      cases ho;cases hv;refine .inl ⟨rfl,fun a W hk hw K hK=>?_⟩;have e31:=hk.t 4;exact op_val (by simp [go_sem,ev' e31,HN.out W hw]) (hK _ hw)
     | 6,ho,hv =>
      cases ho;cases hv;refine .inl ⟨rfl,fun a W hk hw K hK=>?_⟩;have e32:=hk.t 5;exact op_val (by simp [go_sem,ev' e32,e1]) (hK _ hw)
     | 7,ho,hv =>
      cases ho;cases hv;refine .inl ⟨rfl,fun a W hk hw K hK=>?_⟩;have e30:=hk.t 3;have e33:=hk.t 6;refine op_callN rfl rfl rfl _ rfl (vs:=#[.int .i64 y,.int .i64 0,.int .i64 ((N:Int) - 1)]) (by simp [e30,e33,show ∀ v,a.eval (.const v) = v from fun _=>rfl]) (H57.out W) fun e w' h=>?_
      obtain ⟨rfl,rfl⟩:=h;exact ⟨_,rfl,hK _ hw⟩
     | _ + 8,_,hv=>cases hv
    intro W hw;simp only [List.drop_succ_cons,List.drop_zero,List.zip_cons_cons,List.zip_nil_right,putAll];simp only [Act.put,List.setIfInBounds_toArray,List.set];cases bb
    ·have HCL2:Hid (∀ j,(h:j < O.length) -> j < k + 1 -> Cl O[j] N = true):=Lib.hid fun j h h'=>by
      by_cases e:j = k
      ·subst e;rw [HYK.out,HBB.out];rfl
      ·exact HCL.out j h (by omega)
     go_wp2_with fail
     exact ⟨⟨k + 1,by go_num,by omega,HY.out.trans hw,HCL2⟩,by simp [intOf];omega⟩
    ·have HE3:Hid (E = 2):=Lib.hid (by rw [HE2.out,HNA.out (by rw [HBB.out];rfl),if_neg (by decide)]);go_wp2_with fail
     go_ret2;exact ⟨fun _=>⟨by rw [HE3.out];rfl,H0.out.trans (HY.out.trans hw)⟩,fun h=>by rw [HE3.out] at h;cases h⟩
   ·have t1:decide (k < O.length) = false:=by simpa using hkl
    have HAL:Hid (∀ j,(h:j < O.length) -> 0 <= O[j] /\ O[j] < N):=Lib.hid fun j h=>by
     have:=HCL.out j h (by omega);exact Cl_iff.1 this
    have HE3:Hid (E = 0):=Lib.hid (by rw [HE2.out,all_upto fun j h h'=>HCL.out j h (by omega)];rfl);obtain ⟨W2,rfl⟩:∃ W2,W2 = wr:=⟨_,rfl⟩;obtain ⟨k0,k1,k2⟩:=box31 (HB.out.aft HY.out);have k3:=(HB.out.aft HY.out).lt;clear HCL hkl e1;go_upto_block 2 with (go_at_call 99;refine (H99.out _ (H0.out.trans HY.out)).mono ?_;rintro e W3 ⟨g,rfl,hg,hb,ha⟩;have HG0:=Lib.hid hb;have HY3:=Lib.hid (HY.out.trans ha);have HGE:=Lib.hid (Nat.le_trans HY.out.size hg);rw [hfl];clear hg hb ha)
    clear k0 k1 k2 k3 H99;refine wp_block ?_;go_loopw [11] (fun i wr=>∃ k:Nat,i = .int .i64 k /\ k <= O.length /\ Aft W0 wr /\ Blk wr g 3 (ivs (foundL (hears S noS (begF (refL R)) (O.take k)) N))) (fun i _=>O.length - (intOf i).toNat)
    case atStart=>exact ⟨0,rfl,by omega,HY3.out,HG0.out⟩
    case round =>
     obtain ⟨k,rfl,hk,hy,hbk⟩:=hrel;have HY:=Lib.hid hy;have HK:=Lib.hid hbk;clear hy hbk;by_cases hkl:k < O.length
     ·have t2:decide (k < O.length) = true:=by simpa using hkl
      have ik:(0:Int) <= (k:Int) /\ (k:Int) < (O.length:Int):=by omega
      obtain ⟨b,o,rfl,hb,hc⟩:=(HO.out.aft HY.out).at hkl;have x0:=hc k hkl;have hin:=HAL.out k hkl;have HSU:=Lib.hid (hears_take S (begF (refL R)) O k hkl);obtain ⟨x,hx⟩:=Int.eq_ofNat_of_zero_le hin.1;rw [hx] at x0 hin HSU;have hxN:x < N:=by omega
      have ix:(0:Int) <= (x:Int) /\ (x:Int) < (N:Int):=by omega
      obtain ⟨f,hf⟩:∃ f,hears S noS (begF (refL R)) (O.take k) = f:=⟨_,rfl⟩;rw [hf] at HSU HK;obtain ⟨hv,hhv⟩:∃ hv,heard1 S noS f x = hv:=⟨_,rfl⟩;rw [hhv] at HSU
      have H100:Hid (∀ W,Aft wr W -> Calls Tryz.prog 100 #[(.agg #[.int .i64 N,.slice a1 S.length c1,.slice a2 T.length c2]),.slice (some ⟨g,0,none⟩) N N,.int .i64 x] W fun e w'=>e = .returned (.int .i64 hv) /\ Aft W w'):=Lib.hid fun W h=>by
       rw [<- hhv];exact heardR_any ⟨N,S,T⟩ a1 a2 c1 c2 N f (some ⟨g,0,none⟩) N x W (HC.out.aft (HY.out.trans h)) (by omega) (fun s hs=>(HIN.out s hs).1) (ivs_ints (HK.out.aft h) (by rw [foundL_len];omega)) hxN
      have HX:Hid (∀ W,Aft wr W -> W.cell? ⟨b,o + k,none⟩ = some (.int .i64 x)):=Lib.hid fun W h=>cellA x0 hb h
      have HC0:Hid (∀ W,Aft wr W -> W.cell? ⟨bC,0,none⟩ = some (.int .i64 N) /\ W.cell? ⟨bC,1,none⟩ = some (.slice a1 S.length c1) /\ W.cell? ⟨bC,2,none⟩ = some (.slice a2 T.length c2)):=Lib.hid fun W h=>box31 (HB.out.aft (HY.out.trans h))
      clear hc x0 hin hx hf hhv;go_upto_region 15 with fail
      refine wp_region_valsT (by kernel_rfl) 12 58 rfl (by kernel_rfl) (by kernel_rfl) (by kernel_rfl) [.slice (some ⟨g,0,none⟩) N N,.slice (some ⟨b,o,none⟩) O.length c',.int .i64 k,.pointer (some ⟨b,o + k,none⟩),.int .i64 x,(.agg #[.int .i64 N,.slice a1 S.length c1,.slice a2 T.length c2]),.slice (some ⟨g,0,none⟩) N N,.slice (some ⟨b,o,none⟩) O.length c',.int .i64 k,.pointer (some ⟨b,o + k,none⟩),.int .i64 x,.int .i64 hv] rfl (fun done W=>Aft wr W) (Aft.drew _) ?st2 ?fi2
      case st2 =>
       intro i o v ho hv
       match i,ho,hv with
       | 0,ho,hv =>
        cases ho;cases hv;refine .inl ⟨rfl,fun done a W hd hp hk hw K hK=>?_⟩;have e10:=hk.s 10;exact op_val (by simp [go_sem,ev' e10]) (hK _ hw)
       | 1,ho,hv =>
        cases ho;cases hv;refine .inl ⟨rfl,fun done a W hd hp hk hw K hK=>?_⟩;have e2:=hk.s 2;exact op_val (by simp [go_sem,ev' e2]) (hK _ hw)
       | 2,ho,hv =>
        cases ho;cases hv;refine .inl ⟨rfl,fun done a W hd hp hk hw K hK=>?_⟩;have e11:=hk.s 11;exact op_val (by simp [go_sem,ev' e11]) (hK _ hw)
       | 3,ho,hv =>
        cases ho;cases hv;refine .inl ⟨rfl,fun done a W hd hp hk hw K hK=>?_⟩;have e45:=hk.t 1;have e46:=hk.t 2;exact op_val (by simp [go_sem,ev' e45,ev' e46,ik]) (hK _ hw)
       | 4,ho,hv =>
        cases ho;cases hv;refine .inl ⟨rfl,fun done a W hd hp hk hw K hK=>?_⟩;have e47:=hk.t 3;exact op_val (by simp [go_sem,ev' e47,HX.out W hw]) (hK _ hw)
       | 5,ho,hv =>
        cases ho;cases hv;refine .inl ⟨rfl,fun done a W hd hp hk hw K hK=>?_⟩;have e3:=hk.s 3;obtain ⟨j0,j1,j2⟩:=HC0.out W hw;exact op_val (v:=(.agg #[.int .i64 N,.slice a1 S.length c1,.slice a2 T.length c2])) (by simp [go_sem,ev' e3,j0,j1,j2]) (hK _ hw)
       | 6,ho,hv =>
        cases ho;cases hv;refine .inl ⟨rfl,fun done a W hd hp hk hw K hK=>?_⟩;have e10:=hk.s 10;exact op_val (by simp [go_sem,ev' e10]) (hK _ hw)
       | 7,ho,hv =>
        cases ho;cases hv;refine .inl ⟨rfl,fun done a W hd hp hk hw K hK=>?_⟩;have e2:=hk.s 2;exact op_val (by simp [go_sem,ev' e2]) (hK _ hw)
       | 8,ho,hv =>
        cases ho;cases hv;refine .inl ⟨rfl,fun done a W hd hp hk hw K hK=>?_⟩;have e11:=hk.s 11;exact op_val (by simp [go_sem,ev' e11]) (hK _ hw)
       | 9,ho,hv =>
        cases ho;cases hv;refine .inl ⟨rfl,fun done a W hd hp hk hw K hK=>?_⟩;have e51:=hk.t 7;have e52:=hk.t 8;exact op_val (by simp [go_sem,ev' e51,ev' e52,ik]) (hK _ hw)
       | 10,ho,hv =>
        cases ho;cases hv;refine .inl ⟨rfl,fun done a W hd hp hk hw K hK=>?_⟩;have e53:=hk.t 9;exact op_val (by simp [go_sem,ev' e53,HX.out W hw]) (hK _ hw)
       | 11,ho,hv =>
        cases ho;cases hv;refine .inl ⟨rfl,fun done a W hd hp hk hw K hK=>?_⟩;have e49:=hk.t 5;have e50:=hk.t 6;have e54:=hk.t 10;refine op_callN rfl rfl rfl _ rfl (vs:=#[(.agg #[.int .i64 N,.slice a1 S.length c1,.slice a2 T.length c2]),.slice (some ⟨g,0,none⟩) N N,.int .i64 x]) (by simp [e49,e50,e54]) (H100.out W hw) fun e w' h=>?_
        obtain ⟨rfl,ha⟩:=h;exact ⟨_,rfl,hK _ (hw.trans ha)⟩
       | _ + 12,_,hv=>cases hv
      intro done W hd hw;simp only [List.drop_succ_cons,List.drop_zero,List.zip_cons_cons,List.zip_nil_right,putAll];simp only [Act.put,List.setIfInBounds_toArray,List.set];have HW:=Lib.hid hw;have y0:=ivs_cell (HK.out.aft hw) (i:=x) (by rw [foundL_len];exact hxN);have y1:=(HK.out.aft hw).frozen x;have y2:=(HK.out.aft hw).lt;generalize hvv:(foundL f N)[x]'(by rw [foundL_len];exact hxN) = vv at y0;clear hvv hw;go_wp2_with fail
      have hs:W.grownBy (W.setCell ⟨g,x,none⟩ (.int .i64 hv)) (some g):=only_setCell (only_refl W (some g)) (p:=⟨g,x,none⟩) (.inl rfl) _;refine ⟨⟨k + 1,by go_num,by omega,(HY.out.trans HW.out).grown hs (fun j e=>by cases e;exact HGE.out),?_⟩,by simp [intOf];omega⟩;have:=(HK.out.aft HW.out).store x (.int .i64 hv);rw [ivs_set,foundL_set _ hxN,<- HSU.out] at this;exact this
     ·have t2:decide (k < O.length) = false:=by simpa using hkl
      have HK2:Hid (Blk wr g 3 (ivs (foundL (hears S noS (begF (refL R)) O) N))):=Lib.hid (by
       have:=HK.out
       rwa [List.take_of_length_le (by omega)] at this)
      clear HK;have hfl2:=foundL_len (hears S noS (begF (refL R)) O) N;go_wp2_with fail
      go_ret2;exact ⟨fun h=>absurd HE3.out h,fun _=>⟨some ⟨g,0,none⟩,N,by rw [hfl2];rfl,ivs_ints HK2.out (by omega),H0.out.trans HY.out⟩⟩
theorem heard_pair (C:CaseL) (R O:List Int):∃ (L:List Int) (E:Int),
  (∀ A1 A2 k1 k2 A c A' c' X,CRep X C A1 A2 -> Ints X A R -> Ints X A' O -> Calls Tryz.prog 35 #[.agg #[.int .i64 C.claims,.slice A1 C.strikes.length k1,.slice A2 C.surveys.length k2],.slice A R.length c,.slice A' O.length c'] X (PairR L E X)) /\
  (∀ A1 A2 k1 k2 A c A' c' X,CRep X C A1 A2 -> Ints X A R -> Ints X A' O -> Calls Tryz.prog 81 #[.agg #[.int .i64 C.claims,.slice A1 C.strikes.length k1,.slice A2 C.surveys.length k2],.slice A R.length c,.slice A' O.length c'] X (PairR L E X)):=by
 by_cases ho:openE C R = 0
 ·obtain ⟨N,S,T,rfl,hN1,hN14⟩:=case_nat (openE_ok ho).1;by_cases he:heardE ⟨N,S,T⟩ R O = 0
  ·refine ⟨foundL (hears S noS (begF (refL R)) O) N,0,fun A1 A2 k1 k2 A c A' c' X hX hA hO=>?_,fun A1 A2 k1 k2 A c A' c' X hX hA hO=>?_⟩
   ·exact (heard_good ⟨N,S,T⟩ A1 A2 k1 k2 R O A A' c c' X hX hA hO he N rfl).mono fun e w' h=>PairR.goodL (by rw [foundL_len];omega) h
   ·exact (heardTop_in N S T A1 A2 k1 k2 R O A A' c c' X hX hA hO ho).mono fun e w' h=>h.2 he
  ·refine ⟨[],heardE ⟨N,S,T⟩ R O,fun A1 A2 k1 k2 A c A' c' X hX hA hO=>?_,fun A1 A2 k1 k2 A c A' c' X hX hA hO=>?_⟩
   ·exact (heard_bad ⟨N,S,T⟩ A1 A2 k1 k2 R O A A' c c' X hX hA hO he).mono fun e w' h=>PairR.bad h
   ·exact (heardTop_in N S T A1 A2 k1 k2 R O A A' c c' X hX hA hO ho).mono fun e w' h=>PairR.bad (h.1 he)
 ·have hE:heardE C R O = openE C R:=by unfold heardE;rw [if_neg ho]
  refine ⟨[],openE C R,fun A1 A2 k1 k2 A c A' c' X hX hA hO=>?_,fun A1 A2 k1 k2 A c A' c' X hX hA hO=>(heardTop_open C A1 A2 k1 k2 R O A A' c c' X hX hA ho).mono fun e w' h=>PairR.bad h⟩;have:=heard_bad C A1 A2 k1 k2 R O A A' c c' X hX hA hO (by rw [hE];exact ho);unfold BadH at this;rw [hE] at this;exact this.mono fun e w' h=>PairR.bad h
end Go.Proofs
end
section
/- Walks: the law CourtHearings (33). -/
namespace Go.Proofs
open Go.RowKit
open Court (refL begF noS award)
attribute [local go_sem] Oper.semAt_some
structure Cy (W0:World) (C:CaseL) (R O F Kl:List Int) (done:Nat -> Bool) (a:Act) (W:World):Prop where
 aft:Aft W0 W
 o1:done 1 = true -> ∃ v1 v2,a.eval (.tmp 50) = .agg #[.int .i64 C.claims,v1,v2] /\ W.ownsRow W0.heap.size 57 2 v1 C.strikes.length (strC C.strikes) /\ OwnLists W W0.heap.size v2 C.surveys
 o3:done 3 = true -> ∃ v,a.eval (.tmp 52) = v /\ W.ownsRow W0.heap.size 3 1 v R.length (R.map (Value.int .i64))
 o5:done 5 = true -> ∃ v,a.eval (.tmp 54) = v /\ W.ownsRow W0.heap.size 3 1 v O.length (O.map (Value.int .i64))
 o7:done 7 = true -> ∃ v,a.eval (.tmp 56) = v /\ W.ownsRow W0.heap.size 3 1 v F.length (F.map (Value.int .i64))
 o9:done 9 = true -> ∃ v,a.eval (.tmp 58) = v /\ W.ownsRow W0.heap.size 3 1 v Kl.length (Kl.map (Value.int .i64))
 o11:done 11 = true -> ∃ v1 v2,a.eval (.tmp 60) = .agg #[.int .i64 C.claims,v1,v2] /\ W.ownsRow W0.heap.size 84 2 v1 C.strikes.length (strC C.strikes) /\ OwnLists W W0.heap.size v2 C.surveys
 o12:done 12 = true -> ∃ g,a.eval (.tmp 11) = .pointer (some ⟨g,0,none⟩) /\ W0.heap.size <= g /\ Blk W g 25 #[.int .i64 0,.slice none 0 0,.slice none 0 0]
 o13:done 13 = true -> ∃ g,a.eval (.tmp 16) = .pointer (some ⟨g,0,none⟩) /\ W0.heap.size <= g /\ Blk W g 31 #[.int .i64 0,.slice none 0 0,.slice none 0 0]
section
variable {W0 W W':World} {C:CaseL} {R O F Kl:List Int} {done:Nat -> Bool} {a:Act}
theorem Cy.start:Cy W0 C R O F Kl (fun _=>false) a W0.drew:=⟨Aft.drew _,(fun h=>by cases h),(fun h=>by cases h),(fun h=>by cases h),(fun h=>by cases h),(fun h=>by cases h),(fun h=>by cases h),(fun h=>by cases h),(fun h=>by cases h)⟩
theorem Cy.keep (h:Cy W0 C R O F Kl done a W) {i:Nat} {dst:Option Tmp} {v:Value} (hi:i ≠ 1 /\ i ≠ 3 /\ i ≠ 5 /\ i ≠ 7 /\ i ≠ 9 /\ i ≠ 11 /\ i ≠ 12 /\ i ≠ 13) (hd:dst ≠ some 50 /\ dst ≠ some 52 /\ dst ≠ some 54 /\ dst ≠ some 56 /\ dst ≠ some 58 /\ dst ≠ some 60 /\ dst ≠ some 11 /\ dst ≠ some 16):Cy W0 C R O F Kl (Go.upd done i) (a.put dst v) W:=by
 refine ⟨h.aft,fun p=>?_,fun p=>?_,fun p=>?_,fun p=>?_,fun p=>?_,fun p=>?_,fun p=>?_,fun p=>?_⟩
 ·rw [upd_ne' (Ne.symm hi.1)] at p;obtain ⟨v1,v2,e,hs⟩:=h.o1 p;exact ⟨v1,v2,by rw [evne hd.1];exact e,hs⟩
 ·rw [upd_ne' (Ne.symm hi.2.1)] at p;obtain ⟨v,e,hs⟩:=h.o3 p;exact ⟨v,by rw [evne hd.2.1];exact e,hs⟩
 ·rw [upd_ne' (Ne.symm hi.2.2.1)] at p;obtain ⟨v,e,hs⟩:=h.o5 p;exact ⟨v,by rw [evne hd.2.2.1];exact e,hs⟩
 ·rw [upd_ne' (Ne.symm hi.2.2.2.1)] at p;obtain ⟨v,e,hs⟩:=h.o7 p;exact ⟨v,by rw [evne hd.2.2.2.1];exact e,hs⟩
 ·rw [upd_ne' (Ne.symm hi.2.2.2.2.1)] at p;obtain ⟨v,e,hs⟩:=h.o9 p;exact ⟨v,by rw [evne hd.2.2.2.2.1];exact e,hs⟩
 ·rw [upd_ne' (Ne.symm hi.2.2.2.2.2.1)] at p;obtain ⟨v1,v2,e,hs⟩:=h.o11 p;exact ⟨v1,v2,by rw [evne hd.2.2.2.2.2.1];exact e,hs⟩
 ·rw [upd_ne' (Ne.symm hi.2.2.2.2.2.2.1)] at p;obtain ⟨g,e,hs⟩:=h.o12 p;exact ⟨g,by rw [evne hd.2.2.2.2.2.2.1];exact e,hs⟩
 ·rw [upd_ne' (Ne.symm hi.2.2.2.2.2.2.2)] at p;obtain ⟨g,e,hs⟩:=h.o13 p;exact ⟨g,by rw [evne hd.2.2.2.2.2.2.2];exact e,hs⟩
theorem Cy.step1 (h:Cy W0 C R O F Kl done a W) (ha:Aft W W') {v1 v2:Value} (hs:W'.ownsRow W0.heap.size 57 2 v1 C.strikes.length (strC C.strikes) /\ OwnLists W' W0.heap.size v2 C.surveys) (hz:50 < a.tmps.size):Cy W0 C R O F Kl (Go.upd done 1) (a.put (some 50) (.agg #[.int .i64 C.claims,v1,v2])) W':=by
 refine ⟨h.aft.trans ha,fun _=>⟨v1,v2,Act.eval_put_same _ _ _ hz,hs⟩,fun p=>?_,fun p=>?_,fun p=>?_,fun p=>?_,fun p=>?_,fun p=>?_,fun p=>?_⟩
 ·rw [upd_ne' (by decide)] at p;obtain ⟨v,e,hs⟩:=h.o3 p;exact ⟨v,by rw [evne (by decide)];exact e,own_aft hs ha⟩
 ·rw [upd_ne' (by decide)] at p;obtain ⟨v,e,hs⟩:=h.o5 p;exact ⟨v,by rw [evne (by decide)];exact e,own_aft hs ha⟩
 ·rw [upd_ne' (by decide)] at p;obtain ⟨v,e,hs⟩:=h.o7 p;exact ⟨v,by rw [evne (by decide)];exact e,own_aft hs ha⟩
 ·rw [upd_ne' (by decide)] at p;obtain ⟨v,e,hs⟩:=h.o9 p;exact ⟨v,by rw [evne (by decide)];exact e,own_aft hs ha⟩
 ·rw [upd_ne' (by decide)] at p;obtain ⟨v1,v2,e,hs⟩:=h.o11 p;exact ⟨v1,v2,by rw [evne (by decide)];exact e,⟨own_aft hs.1 ha,hs.2.aft ha⟩⟩
 ·rw [upd_ne' (by decide)] at p;obtain ⟨g,e,hs⟩:=h.o12 p;exact ⟨g,by rw [evne (by decide)];exact e,⟨hs.1,hs.2.aft ha⟩⟩
 ·rw [upd_ne' (by decide)] at p;obtain ⟨g,e,hs⟩:=h.o13 p;exact ⟨g,by rw [evne (by decide)];exact e,⟨hs.1,hs.2.aft ha⟩⟩
theorem Cy.step3 (h:Cy W0 C R O F Kl done a W) (ha:Aft W W') {v:Value} (hs:W'.ownsRow W0.heap.size 3 1 v R.length (R.map (Value.int .i64))) (hz:52 < a.tmps.size):Cy W0 C R O F Kl (Go.upd done 3) (a.put (some 52) (v)) W':=by
 refine ⟨h.aft.trans ha,fun p=>?_,fun _=>⟨v,Act.eval_put_same _ _ _ hz,hs⟩,fun p=>?_,fun p=>?_,fun p=>?_,fun p=>?_,fun p=>?_,fun p=>?_⟩
 ·rw [upd_ne' (by decide)] at p;obtain ⟨v1,v2,e,hs⟩:=h.o1 p;exact ⟨v1,v2,by rw [evne (by decide)];exact e,⟨own_aft hs.1 ha,hs.2.aft ha⟩⟩
 ·rw [upd_ne' (by decide)] at p;obtain ⟨v,e,hs⟩:=h.o5 p;exact ⟨v,by rw [evne (by decide)];exact e,own_aft hs ha⟩
 ·rw [upd_ne' (by decide)] at p;obtain ⟨v,e,hs⟩:=h.o7 p;exact ⟨v,by rw [evne (by decide)];exact e,own_aft hs ha⟩
 ·rw [upd_ne' (by decide)] at p;obtain ⟨v,e,hs⟩:=h.o9 p;exact ⟨v,by rw [evne (by decide)];exact e,own_aft hs ha⟩
 ·rw [upd_ne' (by decide)] at p;obtain ⟨v1,v2,e,hs⟩:=h.o11 p;exact ⟨v1,v2,by rw [evne (by decide)];exact e,⟨own_aft hs.1 ha,hs.2.aft ha⟩⟩
 ·rw [upd_ne' (by decide)] at p;obtain ⟨g,e,hs⟩:=h.o12 p;exact ⟨g,by rw [evne (by decide)];exact e,⟨hs.1,hs.2.aft ha⟩⟩
 ·rw [upd_ne' (by decide)] at p;obtain ⟨g,e,hs⟩:=h.o13 p;exact ⟨g,by rw [evne (by decide)];exact e,⟨hs.1,hs.2.aft ha⟩⟩
theorem Cy.step5 (h:Cy W0 C R O F Kl done a W) (ha:Aft W W') {v:Value} (hs:W'.ownsRow W0.heap.size 3 1 v O.length (O.map (Value.int .i64))) (hz:54 < a.tmps.size):Cy W0 C R O F Kl (Go.upd done 5) (a.put (some 54) (v)) W':=by
 refine ⟨h.aft.trans ha,fun p=>?_,fun p=>?_,fun _=>⟨v,Act.eval_put_same _ _ _ hz,hs⟩,fun p=>?_,fun p=>?_,fun p=>?_,fun p=>?_,fun p=>?_⟩
 ·rw [upd_ne' (by decide)] at p;obtain ⟨v1,v2,e,hs⟩:=h.o1 p;exact ⟨v1,v2,by rw [evne (by decide)];exact e,⟨own_aft hs.1 ha,hs.2.aft ha⟩⟩
 ·rw [upd_ne' (by decide)] at p;obtain ⟨v,e,hs⟩:=h.o3 p;exact ⟨v,by rw [evne (by decide)];exact e,own_aft hs ha⟩
 ·rw [upd_ne' (by decide)] at p;obtain ⟨v,e,hs⟩:=h.o7 p;exact ⟨v,by rw [evne (by decide)];exact e,own_aft hs ha⟩
 ·rw [upd_ne' (by decide)] at p;obtain ⟨v,e,hs⟩:=h.o9 p;exact ⟨v,by rw [evne (by decide)];exact e,own_aft hs ha⟩
 ·rw [upd_ne' (by decide)] at p;obtain ⟨v1,v2,e,hs⟩:=h.o11 p;exact ⟨v1,v2,by rw [evne (by decide)];exact e,⟨own_aft hs.1 ha,hs.2.aft ha⟩⟩
 ·rw [upd_ne' (by decide)] at p;obtain ⟨g,e,hs⟩:=h.o12 p;exact ⟨g,by rw [evne (by decide)];exact e,⟨hs.1,hs.2.aft ha⟩⟩
 ·rw [upd_ne' (by decide)] at p;obtain ⟨g,e,hs⟩:=h.o13 p;exact ⟨g,by rw [evne (by decide)];exact e,⟨hs.1,hs.2.aft ha⟩⟩
theorem Cy.step7 (h:Cy W0 C R O F Kl done a W) (ha:Aft W W') {v:Value} (hs:W'.ownsRow W0.heap.size 3 1 v F.length (F.map (Value.int .i64))) (hz:56 < a.tmps.size):Cy W0 C R O F Kl (Go.upd done 7) (a.put (some 56) (v)) W':=by
 refine ⟨h.aft.trans ha,fun p=>?_,fun p=>?_,fun p=>?_,fun _=>⟨v,Act.eval_put_same _ _ _ hz,hs⟩,fun p=>?_,fun p=>?_,fun p=>?_,fun p=>?_⟩
 ·rw [upd_ne' (by decide)] at p;obtain ⟨v1,v2,e,hs⟩:=h.o1 p;exact ⟨v1,v2,by rw [evne (by decide)];exact e,⟨own_aft hs.1 ha,hs.2.aft ha⟩⟩
 ·rw [upd_ne' (by decide)] at p;obtain ⟨v,e,hs⟩:=h.o3 p;exact ⟨v,by rw [evne (by decide)];exact e,own_aft hs ha⟩
 ·rw [upd_ne' (by decide)] at p;obtain ⟨v,e,hs⟩:=h.o5 p;exact ⟨v,by rw [evne (by decide)];exact e,own_aft hs ha⟩
 ·rw [upd_ne' (by decide)] at p;obtain ⟨v,e,hs⟩:=h.o9 p;exact ⟨v,by rw [evne (by decide)];exact e,own_aft hs ha⟩
 ·rw [upd_ne' (by decide)] at p;obtain ⟨v1,v2,e,hs⟩:=h.o11 p;exact ⟨v1,v2,by rw [evne (by decide)];exact e,⟨own_aft hs.1 ha,hs.2.aft ha⟩⟩
 ·rw [upd_ne' (by decide)] at p;obtain ⟨g,e,hs⟩:=h.o12 p;exact ⟨g,by rw [evne (by decide)];exact e,⟨hs.1,hs.2.aft ha⟩⟩
 ·rw [upd_ne' (by decide)] at p;obtain ⟨g,e,hs⟩:=h.o13 p;exact ⟨g,by rw [evne (by decide)];exact e,⟨hs.1,hs.2.aft ha⟩⟩
theorem Cy.step9 (h:Cy W0 C R O F Kl done a W) (ha:Aft W W') {v:Value} (hs:W'.ownsRow W0.heap.size 3 1 v Kl.length (Kl.map (Value.int .i64))) (hz:58 < a.tmps.size):Cy W0 C R O F Kl (Go.upd done 9) (a.put (some 58) (v)) W':=by
 refine ⟨h.aft.trans ha,fun p=>?_,fun p=>?_,fun p=>?_,fun p=>?_,fun _=>⟨v,Act.eval_put_same _ _ _ hz,hs⟩,fun p=>?_,fun p=>?_,fun p=>?_⟩
 ·rw [upd_ne' (by decide)] at p;obtain ⟨v1,v2,e,hs⟩:=h.o1 p;exact ⟨v1,v2,by rw [evne (by decide)];exact e,⟨own_aft hs.1 ha,hs.2.aft ha⟩⟩
 ·rw [upd_ne' (by decide)] at p;obtain ⟨v,e,hs⟩:=h.o3 p;exact ⟨v,by rw [evne (by decide)];exact e,own_aft hs ha⟩
 ·rw [upd_ne' (by decide)] at p;obtain ⟨v,e,hs⟩:=h.o5 p;exact ⟨v,by rw [evne (by decide)];exact e,own_aft hs ha⟩
 ·rw [upd_ne' (by decide)] at p;obtain ⟨v,e,hs⟩:=h.o7 p;exact ⟨v,by rw [evne (by decide)];exact e,own_aft hs ha⟩
 ·rw [upd_ne' (by decide)] at p;obtain ⟨v1,v2,e,hs⟩:=h.o11 p;exact ⟨v1,v2,by rw [evne (by decide)];exact e,⟨own_aft hs.1 ha,hs.2.aft ha⟩⟩
 ·rw [upd_ne' (by decide)] at p;obtain ⟨g,e,hs⟩:=h.o12 p;exact ⟨g,by rw [evne (by decide)];exact e,⟨hs.1,hs.2.aft ha⟩⟩
 ·rw [upd_ne' (by decide)] at p;obtain ⟨g,e,hs⟩:=h.o13 p;exact ⟨g,by rw [evne (by decide)];exact e,⟨hs.1,hs.2.aft ha⟩⟩
theorem Cy.step11 (h:Cy W0 C R O F Kl done a W) (ha:Aft W W') {v1 v2:Value} (hs:W'.ownsRow W0.heap.size 84 2 v1 C.strikes.length (strC C.strikes) /\ OwnLists W' W0.heap.size v2 C.surveys) (hz:60 < a.tmps.size):Cy W0 C R O F Kl (Go.upd done 11) (a.put (some 60) (.agg #[.int .i64 C.claims,v1,v2])) W':=by
 refine ⟨h.aft.trans ha,fun p=>?_,fun p=>?_,fun p=>?_,fun p=>?_,fun p=>?_,fun _=>⟨v1,v2,Act.eval_put_same _ _ _ hz,hs⟩,fun p=>?_,fun p=>?_⟩
 ·rw [upd_ne' (by decide)] at p;obtain ⟨v1,v2,e,hs⟩:=h.o1 p;exact ⟨v1,v2,by rw [evne (by decide)];exact e,⟨own_aft hs.1 ha,hs.2.aft ha⟩⟩
 ·rw [upd_ne' (by decide)] at p;obtain ⟨v,e,hs⟩:=h.o3 p;exact ⟨v,by rw [evne (by decide)];exact e,own_aft hs ha⟩
 ·rw [upd_ne' (by decide)] at p;obtain ⟨v,e,hs⟩:=h.o5 p;exact ⟨v,by rw [evne (by decide)];exact e,own_aft hs ha⟩
 ·rw [upd_ne' (by decide)] at p;obtain ⟨v,e,hs⟩:=h.o7 p;exact ⟨v,by rw [evne (by decide)];exact e,own_aft hs ha⟩
 ·rw [upd_ne' (by decide)] at p;obtain ⟨v,e,hs⟩:=h.o9 p;exact ⟨v,by rw [evne (by decide)];exact e,own_aft hs ha⟩
 ·rw [upd_ne' (by decide)] at p;obtain ⟨g,e,hs⟩:=h.o12 p;exact ⟨g,by rw [evne (by decide)];exact e,⟨hs.1,hs.2.aft ha⟩⟩
 ·rw [upd_ne' (by decide)] at p;obtain ⟨g,e,hs⟩:=h.o13 p;exact ⟨g,by rw [evne (by decide)];exact e,⟨hs.1,hs.2.aft ha⟩⟩
theorem Cy.step12 (h:Cy W0 C R O F Kl done a W) (ha:Aft W W') {g:Nat} (hs:W0.heap.size <= g /\ Blk W' g 25 #[.int .i64 0,.slice none 0 0,.slice none 0 0]) (hz:11 < a.tmps.size):Cy W0 C R O F Kl (Go.upd done 12) (a.put (some 11) (.pointer (some ⟨g,0,none⟩))) W':=by
 refine ⟨h.aft.trans ha,fun p=>?_,fun p=>?_,fun p=>?_,fun p=>?_,fun p=>?_,fun p=>?_,fun _=>⟨g,Act.eval_put_same _ _ _ hz,hs⟩,fun p=>?_⟩
 ·rw [upd_ne' (by decide)] at p;obtain ⟨v1,v2,e,hs⟩:=h.o1 p;exact ⟨v1,v2,by rw [evne (by decide)];exact e,⟨own_aft hs.1 ha,hs.2.aft ha⟩⟩
 ·rw [upd_ne' (by decide)] at p;obtain ⟨v,e,hs⟩:=h.o3 p;exact ⟨v,by rw [evne (by decide)];exact e,own_aft hs ha⟩
 ·rw [upd_ne' (by decide)] at p;obtain ⟨v,e,hs⟩:=h.o5 p;exact ⟨v,by rw [evne (by decide)];exact e,own_aft hs ha⟩
 ·rw [upd_ne' (by decide)] at p;obtain ⟨v,e,hs⟩:=h.o7 p;exact ⟨v,by rw [evne (by decide)];exact e,own_aft hs ha⟩
 ·rw [upd_ne' (by decide)] at p;obtain ⟨v,e,hs⟩:=h.o9 p;exact ⟨v,by rw [evne (by decide)];exact e,own_aft hs ha⟩
 ·rw [upd_ne' (by decide)] at p;obtain ⟨v1,v2,e,hs⟩:=h.o11 p;exact ⟨v1,v2,by rw [evne (by decide)];exact e,⟨own_aft hs.1 ha,hs.2.aft ha⟩⟩
 ·rw [upd_ne' (by decide)] at p;obtain ⟨g,e,hs⟩:=h.o13 p;exact ⟨g,by rw [evne (by decide)];exact e,⟨hs.1,hs.2.aft ha⟩⟩
theorem Cy.step13 (h:Cy W0 C R O F Kl done a W) (ha:Aft W W') {g:Nat} (hs:W0.heap.size <= g /\ Blk W' g 31 #[.int .i64 0,.slice none 0 0,.slice none 0 0]) (hz:16 < a.tmps.size):Cy W0 C R O F Kl (Go.upd done 13) (a.put (some 16) (.pointer (some ⟨g,0,none⟩))) W':=by
 refine ⟨h.aft.trans ha,fun p=>?_,fun p=>?_,fun p=>?_,fun p=>?_,fun p=>?_,fun p=>?_,fun p=>?_,fun _=>⟨g,Act.eval_put_same _ _ _ hz,hs⟩⟩
 ·rw [upd_ne' (by decide)] at p;obtain ⟨v1,v2,e,hs⟩:=h.o1 p;exact ⟨v1,v2,by rw [evne (by decide)];exact e,⟨own_aft hs.1 ha,hs.2.aft ha⟩⟩
 ·rw [upd_ne' (by decide)] at p;obtain ⟨v,e,hs⟩:=h.o3 p;exact ⟨v,by rw [evne (by decide)];exact e,own_aft hs ha⟩
 ·rw [upd_ne' (by decide)] at p;obtain ⟨v,e,hs⟩:=h.o5 p;exact ⟨v,by rw [evne (by decide)];exact e,own_aft hs ha⟩
 ·rw [upd_ne' (by decide)] at p;obtain ⟨v,e,hs⟩:=h.o7 p;exact ⟨v,by rw [evne (by decide)];exact e,own_aft hs ha⟩
 ·rw [upd_ne' (by decide)] at p;obtain ⟨v,e,hs⟩:=h.o9 p;exact ⟨v,by rw [evne (by decide)];exact e,own_aft hs ha⟩
 ·rw [upd_ne' (by decide)] at p;obtain ⟨v1,v2,e,hs⟩:=h.o11 p;exact ⟨v1,v2,by rw [evne (by decide)];exact e,⟨own_aft hs.1 ha,hs.2.aft ha⟩⟩
 ·rw [upd_ne' (by decide)] at p;obtain ⟨g,e,hs⟩:=h.o12 p;exact ⟨g,by rw [evne (by decide)];exact e,⟨hs.1,hs.2.aft ha⟩⟩
end
theorem list8 {α:Type} {us:List α} (h:us.length = 8):∃ x1 x2 x3 x4 x5 x6 x7 x8,us = [x1,x2,x3,x4,x5,x6,x7,x8]:=by
 match us,h with
 | [x1,x2,x3,x4,x5,x6,x7,x8],_=>exact ⟨x1,x2,x3,x4,x5,x6,x7,x8,rfl⟩
structure Two8 (C:CaseL) (R O F Kl:List Int) (W:World) (g7 g8 b3:Nat) (a1 a2:Option Addr) (c1 c2:Nat) (A1 A2 A3 A4:Option Addr) (k1 k2 k3 k4:Nat) (AR AO AF AK A5 A6 A7 A8:Option Addr):Prop where
 k7:Blk W g7 25 #[.int .i64 C.claims,.slice A1 C.strikes.length k1,.slice A2 C.surveys.length k2]
 k8:Blk W g8 31 #[.int .i64 C.claims,.slice A3 C.strikes.length k3,.slice A4 C.surveys.length k4]
 k3:Blk W b3 25 #[.int .i64 C.claims,.slice a1 C.strikes.length c1,.slice a2 C.surveys.length c2]
 r7:CRep W C A1 A2
 r8:CRep W C A3 A4
 r3:CRep W C a1 a2
 iR:Ints W AR R
 iO:Ints W AO O
 iF:Ints W AF F
 iK:Ints W AK Kl
 i5:Ints W A5 R
 i6:Ints W A6 O
 i7:Ints W A7 F
 i8:Ints W A8 Kl
theorem Two8.aft {C:CaseL} {R O F Kl:List Int} {W W':World} {g7 g8 b3:Nat} {a1 a2:Option Addr} {c1 c2:Nat} {A1 A2 A3 A4:Option Addr} {k1 k2 k3 k4:Nat} {AR AO AF AK A5 A6 A7 A8:Option Addr} (h:Two8 C R O F Kl W g7 g8 b3 a1 a2 c1 c2 A1 A2 A3 A4 k1 k2 k3 k4 AR AO AF AK A5 A6 A7 A8) (ha:Aft W W'):Two8 C R O F Kl W' g7 g8 b3 a1 a2 c1 c2 A1 A2 A3 A4 k1 k2 k3 k4 AR AO AF AK A5 A6 A7 A8 :=
 ⟨h.k7.aft ha,h.k8.aft ha,h.k3.aft ha,h.r7.aft ha,h.r8.aft ha,h.r3.aft ha,h.iR.aft ha,h.iO.aft ha,h.iF.aft ha,h.iK.aft ha,h.i5.aft ha,h.i6.aft ha,h.i7.aft ha,h.i8.aft ha⟩
theorem listsQ_three {W:World} {A B D:Option Addr} {R L M:List Int} {c d e:Nat} (hR:IntsQ W A R) (hL:IntsQ W B L) (hM:IntsQ W D M):ListsQ (W.alloc (.cells #[.slice A R.length c,.slice B L.length d,.slice D M.length e] 33)) (some ⟨W.heap.size,0,none⟩) [R,L,M]:=by
 have hb:=Blk.new W 33 #[.slice A R.length c,.slice B L.length d,.slice D M.length e];refine ⟨by simp,.inr ⟨W.heap.size,0,rfl,hb.lt,fun i hi=>?_⟩⟩
 match i,hi with
 | 0,_=>exact ⟨[.slice A R.length c],rfl,⟨A,c,rfl,hR.aft (Aft.alloc _ _)⟩,fun j hj=>by
   have:j = 0:=by simpa using hj
   subst this;exact hb.cell 0⟩
 | 1,_=>exact ⟨[.slice B L.length d],rfl,⟨B,d,rfl,hL.aft (Aft.alloc _ _)⟩,fun j hj=>by
   have:j = 0:=by simpa using hj
   subst this;exact hb.cell 1⟩
 | 2,_=>exact ⟨[.slice D M.length e],rfl,⟨D,e,rfl,hM.aft (Aft.alloc _ _)⟩,fun j hj=>by
   have:j = 0:=by simpa using hj
   subst this;exact hb.cell 2⟩
set_option maxRecDepth 100000 in
set_option maxHeartbeats 16000000 in
theorem hearingsLaw_any (C:CaseL) (a1 a2:Option Addr) (c1 c2:Nat) (R:List Int) (AR:Option Addr) (cR:Nat) (O:List Int) (AO:Option Addr) (cO:Nat) (F:List Int) (AF:Option Addr) (cF:Nat) (Kl:List Int) (AK:Option Addr) (cK:Nat) (w:World) (hC:CRepQ w C a1 a2) (hR:IntsQ w AR R) (hO:IntsQ w AO O) (hF:IntsQ w AF F) (hK:IntsQ w AK Kl) :
  Calls Tryz.prog 33 #[(.agg #[.int .i64 C.claims,.slice a1 C.strikes.length c1,.slice a2 C.surveys.length c2]),.slice AR R.length cR,.slice AO O.length cO,.slice AF F.length cF,.slice AK Kl.length cK] w fun e w'=>e = .returned (.bool true) /\ Aft w w':=by
 have H0:=Lib.hid (Aft.alloc w (.cells #[.int .i64 C.claims,.slice a1 C.strikes.length c1,.slice a2 C.surveys.length c2] 25));have HB:=Lib.hid (Blk.new w 25 #[.int .i64 C.claims,.slice a1 C.strikes.length c1,.slice a2 C.surveys.length c2]);have HQ:=Lib.hid (hC.aft H0.out);have HRQ:=Lib.hid (hR.aft H0.out);have HOQ:=Lib.hid (hO.aft H0.out);have HFQ:=Lib.hid (hF.aft H0.out);have HKQ:=Lib.hid (hK.aft H0.out);have hlo:=hO.1;clear hC hR hO hF hK;obtain ⟨b3,hb3⟩:∃ b3,w.heap.size = b3:=⟨_,rfl⟩;rw [hb3] at HB;have HBC:=Lib.hid hb3;clear hb3;go_enter Tryz.func33,Tryz.ntmps33;go_upto_region 1 with fail
 rw [HBC.out];generalize w.alloc (.cells #[.int .i64 C.claims,.slice a1 C.strikes.length c1,.slice a2 C.surveys.length c2] 25) = W0 at *;obtain ⟨k0,k1,k2⟩:=box25 HB.out;have k3:=HB.out.lt;have HA0:=Lib.hid (Aft.alloc W0 (.cells #[.slice AR R.length cR,.slice AF F.length cF,.slice AK Kl.length cK] 33));have HGR:Hid (Calls Tryz.prog 11 #[(.agg #[.int .i64 C.claims,.slice a1 C.strikes.length c1,.slice a2 C.surveys.length c2]),.int .i64 14,.slice (some ⟨W0.heap.size,0,none⟩) 3 3] (W0.alloc (.cells #[.slice AR R.length cR,.slice AF F.length cF,.slice AK Kl.length cK] 33)) (GreatR C [R,F,Kl] (W0.alloc (.cells #[.slice AR R.length cR,.slice AF F.length cF,.slice AK Kl.length cK] 33)))):=Lib.hid (great_any C a1 a2 c1 c2 14 [R,F,Kl] (some ⟨W0.heap.size,0,none⟩) 3 _ (HQ.out.aft (Aft.alloc _ _)) (listsQ_three HRQ.out HFQ.out HKQ.out));go_cut [47] from 27 to 47 (fun s47 wx=>∃ bb,s47 = .bool bb /\ Aft W0 wx /\ (bb = false -> Small C [R,F,Kl] /\ O.length <= 420))
 case first =>
  (repeat (first | go_big_skip | go_big_want | go_big_move | go_big_op | go_step | go_upon | go_back));go_at_call 11;refine HGR.out.mono ?_;rintro e W1 ⟨b,rfl,hs,ha⟩;dsimp only;have HA1:=Lib.hid (HA0.out.trans ha);have HSM:=Lib.hid hs;clear ha hs k0 k1 k2 k3 HGR HA0;cases b
  ·have hsm:=HSM.out rfl;have HSS:=Lib.hid hsm;clear hsm HSM;by_cases h30:30 < O.length
   ·have t1:decide ((30:Int) < (O.length:Int)) = true:=decide_eq_true (by omega);by_cases h400:O.length <= 400
    ·have t2:decide ((O.length:Int) <= 400) = true:=decide_eq_true (by omega);(repeat (first | go_big_skip | go_big_want | go_big_move | go_big_op | go_step | go_upon | go_back));go_meet;exact ⟨_,rfl,HA1.out,fun h=>by cases h⟩
    ·have t2:decide ((O.length:Int) <= 400) = false:=decide_eq_false (by omega);by_cases h420:420 < O.length
     ·have t3:decide ((420:Int) < (O.length:Int)) = true:=decide_eq_true (by omega);(repeat (first | go_big_skip | go_big_want | go_big_move | go_big_op | go_step | go_upon | go_back));go_meet;exact ⟨_,rfl,HA1.out,fun h=>by cases h⟩
     ·have t3:decide ((420:Int) < (O.length:Int)) = false:=decide_eq_false (by omega);have h421:O.length <= 420:=by omega
      (repeat (first | go_big_skip | go_big_want | go_big_move | go_big_op | go_step | go_upon | go_back));go_meet;exact ⟨_,rfl,HA1.out,fun _=>⟨HSS.out,h421⟩⟩
   ·have t1:decide ((30:Int) < (O.length:Int)) = false:=decide_eq_false (by omega);have t3:decide ((420:Int) < (O.length:Int)) = false:=decide_eq_false (by omega);have h421:O.length <= 420:=by omega
    (repeat (first | go_big_skip | go_big_want | go_big_move | go_big_op | go_step | go_upon | go_back));go_meet;exact ⟨_,rfl,HA1.out,fun _=>⟨HSS.out,h421⟩⟩
  ·(repeat (first | go_big_skip | go_big_want | go_big_move | go_big_op | go_step | go_upon | go_back));go_meet;exact ⟨_,rfl,HA1.out,fun h=>by cases h⟩
 obtain ⟨bb,rfl,ha1,hbb⟩:=hcut;obtain ⟨W1,rfl⟩:∃ W1,W1 = wc:=⟨_,rfl⟩;have HA1:=Lib.hid ha1;have HBB:=Lib.hid hbb;clear ha1 hbb HGR HA0 k0 k1 k2 k3;cases bb
 ·obtain ⟨hsm,hO420⟩:=HBB.out rfl;have HC:=Lib.hid ((HQ.out.aft HA1.out).small hsm)
  replace HB:=Lib.hid (HB.out.aft HA1.out)
  have hs1:=hsm.few;have hs2:=hsm.fews;have hr30:R.length <= 30:=hsm.lists R (by simp);have hf30:F.length <= 30:=hsm.lists F (by simp);have hk30:Kl.length <= 30:=hsm.lists Kl (by simp);have HRI:=Lib.hid ((HRQ.out.aft HA1.out).small (by omega));have HOI:=Lib.hid ((HOQ.out.aft HA1.out).small (by omega));have HFI:=Lib.hid ((HFQ.out.aft HA1.out).small (by omega));have HKI:=Lib.hid ((HKQ.out.aft HA1.out).small (by omega));have HS3:=Lib.hid hsm.surveys;clear hsm HBB HQ HRQ HOQ HFQ HKQ;go_upto_region 3 with fail
  have HC0:Hid (∀ W,Aft W1 W -> W.cell? ⟨b3,0,none⟩ = some (.int .i64 C.claims) /\ W.cell? ⟨b3,1,none⟩ = some (.slice a1 C.strikes.length c1) /\ W.cell? ⟨b3,2,none⟩ = some (.slice a2 C.surveys.length c2)):=Lib.hid fun W h=>box25 (HB.out.aft h)
  have H13:Hid (∀ W,Aft W1 W -> Calls Tryz.prog 13 #[(.agg #[.int .i64 C.claims,.slice a1 C.strikes.length c1,.slice a2 C.surveys.length c2])] W (CopyR 57 C W)):=Lib.hid fun W h=>cloneCase_any C a1 a2 c1 c2 W (HC.out.aft h) (by omega) (by omega) (fun l hl=>by have:=HS3.out l hl;omega)
  have H14:Hid (∀ W,Aft W1 W -> Calls Tryz.prog 14 #[(.agg #[.int .i64 C.claims,.slice a1 C.strikes.length c1,.slice a2 C.surveys.length c2])] W (CopyR 84 C W)):=Lib.hid fun W h=>caseR_any C a1 a2 c1 c2 W (HC.out.aft h) (by omega) (by omega) (fun l hl=>by have:=HS3.out l hl;omega)
  have H24R:Hid (∀ W,Aft W1 W -> Calls Tryz.prog 24 #[.slice AR R.length cR] W (OwnInts W R)):=Lib.hid fun W h=>kitClone_int AR R cR W (HRI.out.aft h)
  have H24O:Hid (∀ W,Aft W1 W -> Calls Tryz.prog 24 #[.slice AO O.length cO] W (OwnInts W O)):=Lib.hid fun W h=>kitClone_int AO O cO W (HOI.out.aft h)
  have H24F:Hid (∀ W,Aft W1 W -> Calls Tryz.prog 24 #[.slice AF F.length cF] W (OwnInts W F)):=Lib.hid fun W h=>kitClone_int AF F cF W (HFI.out.aft h)
  have H24K:Hid (∀ W,Aft W1 W -> Calls Tryz.prog 24 #[.slice AK Kl.length cK] W (OwnInts W Kl)):=Lib.hid fun W h=>kitClone_int AK Kl cK W (HKI.out.aft h)
  refine wp_region_valsU (by kernel_rfl) 14 198 rfl (by kernel_rfl) (by kernel_rfl) [some ((.agg #[.int .i64 C.claims,.slice a1 C.strikes.length c1,.slice a2 C.surveys.length c2])),none,some (.slice AR R.length cR),none,some (.slice AO O.length cO),none,some (.slice AF F.length cF),none,some (.slice AK Kl.length cK),none,some ((.agg #[.int .i64 C.claims,.slice a1 C.strikes.length c1,.slice a2 C.surveys.length c2])),none,none,none] (by kernel_rfl) rfl (Cy W1 C R O F Kl) (Cy.start) ?st1 ?fi1
  case st1 =>
   intro i o v ho hv
   match i,ho,hv with
   | 0,ho,hv =>
    cases ho;cases hv;refine .inl ⟨rfl,fun done a W hz hd hp hk hw K hK=>?_⟩;have e5:=hk.s 5;obtain ⟨y0,y1,y2⟩:=HC0.out W hw.aft;exact op_val (v:=(.agg #[.int .i64 C.claims,.slice a1 C.strikes.length c1,.slice a2 C.surveys.length c2])) (by simp [go_sem,ev' e5,y0,y1,y2]) (hK _ _ (fun u hu=>by cases hu;rfl) (hw.keep (by decide) (by decide)))
   | 1,ho,hv =>
    cases ho;cases hv;refine .inl ⟨rfl,fun done a W hz hd hp hk hw K hK=>?_⟩;have e49:=hk.t 0;refine op_callN rfl rfl rfl _ rfl (vs:=#[(.agg #[.int .i64 C.claims,.slice a1 C.strikes.length c1,.slice a2 C.surveys.length c2])]) (by simp [e49]) (H13.out W hw.aft) fun e w' h=>?_
    obtain ⟨v1,v2,rfl,ho,hl,ha⟩:=h;exact ⟨_,rfl,hK _ _ (fun u hu=>by cases hu) (hw.step1 ha ⟨own_base ho hw.aft.size,hl.mono hw.aft.size⟩ (by rw [hz];decide))⟩
   | 2,ho,hv =>
    cases ho;cases hv;refine .inl ⟨rfl,fun done a W hz hd hp hk hw K hK=>?_⟩;have e1:=hk.s 1;exact op_val (v:=.slice AR R.length cR) (by simp [go_sem,ev' e1]) (hK _ _ (fun u hu=>by cases hu;rfl) (hw.keep (by decide) (by decide)))
   | 3,ho,hv =>
    cases ho;cases hv;refine .inl ⟨rfl,fun done a W hz hd hp hk hw K hK=>?_⟩;have e51:=hk.t 2;refine op_callN rfl rfl rfl _ rfl (vs:=#[.slice AR R.length cR]) (by simp [e51]) (H24R.out W hw.aft) fun e w' h=>?_
    obtain ⟨v1,rfl,ho,ha⟩:=h;exact ⟨_,rfl,hK _ _ (fun u hu=>by cases hu) (hw.step3 ha (own_base ho hw.aft.size) (by rw [hz];decide))⟩
   | 4,ho,hv =>
    cases ho;cases hv;refine .inl ⟨rfl,fun done a W hz hd hp hk hw K hK=>?_⟩;have e2:=hk.s 2;exact op_val (v:=.slice AO O.length cO) (by simp [go_sem,ev' e2]) (hK _ _ (fun u hu=>by cases hu;rfl) (hw.keep (by decide) (by decide)))
   | 5,ho,hv =>
    cases ho;cases hv;refine .inl ⟨rfl,fun done a W hz hd hp hk hw K hK=>?_⟩;have e53:=hk.t 4;refine op_callN rfl rfl rfl _ rfl (vs:=#[.slice AO O.length cO]) (by simp [e53]) (H24O.out W hw.aft) fun e w' h=>?_
    obtain ⟨v1,rfl,ho,ha⟩:=h;exact ⟨_,rfl,hK _ _ (fun u hu=>by cases hu) (hw.step5 ha (own_base ho hw.aft.size) (by rw [hz];decide))⟩
   | 6,ho,hv =>
    cases ho;cases hv;refine .inl ⟨rfl,fun done a W hz hd hp hk hw K hK=>?_⟩;have e3:=hk.s 3;exact op_val (v:=.slice AF F.length cF) (by simp [go_sem,ev' e3]) (hK _ _ (fun u hu=>by cases hu;rfl) (hw.keep (by decide) (by decide)))
   | 7,ho,hv =>
    cases ho;cases hv;refine .inl ⟨rfl,fun done a W hz hd hp hk hw K hK=>?_⟩;have e55:=hk.t 6;refine op_callN rfl rfl rfl _ rfl (vs:=#[.slice AF F.length cF]) (by simp [e55]) (H24F.out W hw.aft) fun e w' h=>?_
    obtain ⟨v1,rfl,ho,ha⟩:=h;exact ⟨_,rfl,hK _ _ (fun u hu=>by cases hu) (hw.step7 ha (own_base ho hw.aft.size) (by rw [hz];decide))⟩
   | 8,ho,hv =>
    cases ho;cases hv;refine .inl ⟨rfl,fun done a W hz hd hp hk hw K hK=>?_⟩;have e4:=hk.s 4;exact op_val (v:=.slice AK Kl.length cK) (by simp [go_sem,ev' e4]) (hK _ _ (fun u hu=>by cases hu;rfl) (hw.keep (by decide) (by decide)))
   | 9,ho,hv =>
    cases ho;cases hv;refine .inl ⟨rfl,fun done a W hz hd hp hk hw K hK=>?_⟩;have e57:=hk.t 8;refine op_callN rfl rfl rfl _ rfl (vs:=#[.slice AK Kl.length cK]) (by simp [e57]) (H24K.out W hw.aft) fun e w' h=>?_
    obtain ⟨v1,rfl,ho,ha⟩:=h;exact ⟨_,rfl,hK _ _ (fun u hu=>by cases hu) (hw.step9 ha (own_base ho hw.aft.size) (by rw [hz];decide))⟩
   | 10,ho,hv =>
    cases ho;cases hv;refine .inl ⟨rfl,fun done a W hz hd hp hk hw K hK=>?_⟩;have e5:=hk.s 5;obtain ⟨y0,y1,y2⟩:=HC0.out W hw.aft;exact op_val (v:=(.agg #[.int .i64 C.claims,.slice a1 C.strikes.length c1,.slice a2 C.surveys.length c2])) (by simp [go_sem,ev' e5,y0,y1,y2]) (hK _ _ (fun u hu=>by cases hu;rfl) (hw.keep (by decide) (by decide)))
   | 11,ho,hv =>
    cases ho;cases hv;refine .inl ⟨rfl,fun done a W hz hd hp hk hw K hK=>?_⟩;have e59:=hk.t 10;refine op_callN rfl rfl rfl _ rfl (vs:=#[(.agg #[.int .i64 C.claims,.slice a1 C.strikes.length c1,.slice a2 C.surveys.length c2])]) (by simp [e59]) (H14.out W hw.aft) fun e w' h=>?_
    obtain ⟨v1,v2,rfl,ho,hl,ha⟩:=h;exact ⟨_,rfl,hK _ _ (fun u hu=>by cases hu) (hw.step11 ha ⟨own_base ho hw.aft.size,hl.mono hw.aft.size⟩ (by rw [hz];decide))⟩
   | 12,ho,hv =>
    cases ho;cases hv;refine .inl ⟨rfl,fun done a W hz hd hp hk hw K hK=>?_⟩;exact op_valW (w':=W.alloc (.cells #[.int .i64 0,.slice none 0 0,.slice none 0 0] 25)) (v:=.pointer (some ⟨W.heap.size,0,none⟩)) (by simp [go_sem]) (hK _ _ (fun u hu=>by cases hu) (hw.step12 (Aft.alloc _ _) ⟨hw.aft.size,Blk.new W 25 _⟩ (by rw [hz];decide)))
   | 13,ho,hv =>
    cases ho;cases hv;refine .inl ⟨rfl,fun done a W hz hd hp hk hw K hK=>?_⟩;exact op_valW (w':=W.alloc (.cells #[.int .i64 0,.slice none 0 0,.slice none 0 0] 31)) (v:=.pointer (some ⟨W.heap.size,0,none⟩)) (by simp [go_sem]) (hK _ _ (fun u hu=>by cases hu) (hw.step13 (Aft.alloc _ _) ⟨hw.aft.size,Blk.new W 31 _⟩ (by rw [hz];decide)))
   | _ + 14,_,hv=>cases hv
  intro done us W hus hd hw;obtain ⟨x1,x2,x3,x4,x5,x6,x7,x8,rfl⟩:=list8 hus;obtain ⟨v1,v2,e50,ho1,hl1⟩:=hw.o1 (hd 1 (by decide));obtain ⟨v5,e52,ho5⟩:=hw.o3 (hd 3 (by decide));obtain ⟨v6,e54,ho6⟩:=hw.o5 (hd 5 (by decide));obtain ⟨v7,e56,ho7⟩:=hw.o7 (hd 7 (by decide));obtain ⟨v8,e58,ho8⟩:=hw.o9 (hd 9 (by decide));obtain ⟨v3,v4,e60,ho3,hl3⟩:=hw.o11 (hd 11 (by decide));obtain ⟨g7,e11,hg7,hb7⟩:=hw.o12 (hd 12 (by decide));obtain ⟨g8,e16,hg8,hb8⟩:=hw.o13 (hd 13 (by decide));have e50':x1 = .agg #[.int .i64 C.claims,v1,v2]:=by simpa [fill,putAll,Act.put,Act.eval] using e50
  have e52':x2 = v5:=by simpa [fill,putAll,Act.put,Act.eval] using e52
  have e54':x3 = v6:=by simpa [fill,putAll,Act.put,Act.eval] using e54
  have e56':x4 = v7:=by simpa [fill,putAll,Act.put,Act.eval] using e56
  have e58':x5 = v8:=by simpa [fill,putAll,Act.put,Act.eval] using e58
  have e60':x6 = .agg #[.int .i64 C.claims,v3,v4]:=by simpa [fill,putAll,Act.put,Act.eval] using e60
  have e11':x7 = .pointer (some ⟨g7,0,none⟩):=by simpa [fill,putAll,Act.put,Act.eval] using e11
  have e16':x8 = .pointer (some ⟨g8,0,none⟩):=by simpa [fill,putAll,Act.put,Act.eval] using e16
  subst e50';subst e52';subst e54';subst e56';subst e58';subst e60';subst e11';subst e16';obtain ⟨A1,k1,hv1,_,_⟩:=own_strs ho1 (by omega);obtain ⟨A2,k2,hv2,_,_⟩:=hl1.lists (by omega) (fun l hl=>by have:=HS3.out l hl;omega);obtain ⟨A3,k3,hv3,_,_⟩:=own_strs84 ho3 (by omega);obtain ⟨A4,k4,hv4,_,_⟩:=hl3.lists (by omega) (fun l hl=>by have:=HS3.out l hl;omega);obtain ⟨A5,k5,hv5,_,_⟩:=own_ints ho5 (by omega);obtain ⟨A6,k6,hv6,_,_⟩:=own_ints ho6 (by omega);obtain ⟨A7,k7,hv7,_,_⟩:=own_ints ho7 (by omega);obtain ⟨A8,k8,hv8,_,_⟩:=own_ints ho8 (by omega);subst hv1;subst hv2;subst hv3;subst hv4;subst hv5;subst hv6;subst hv7;subst hv8
  have hne:g7 ≠ g8:=fun e=>by
   subst e;have h7:W.heap[g7]? = some (.cells #[.int .i64 0,.slice none 0 0,.slice none 0 0] 25 (0,0)):=hb7;have h8:W.heap[g7]? = some (.cells #[.int .i64 0,.slice none 0 0,.slice none 0 0] 31 (0,0)):=hb8;rw [h7] at h8;cases h8
  have hs7:W.grownBy (W.setCells g7 0 [.int .i64 C.claims,.slice A1 C.strikes.length k1,.slice A2 C.surveys.length k2]) (some g7):=only_setCells _ _ _ (only_refl _ _);have hb7':Blk (W.setCells g7 0 [.int .i64 C.claims,.slice A1 C.strikes.length k1,.slice A2 C.surveys.length k2]) g7 25 #[.int .i64 C.claims,.slice A1 C.strikes.length k1,.slice A2 C.surveys.length k2]:=((hb7.store 0 (.int .i64 C.claims)).store 1 (.slice A1 C.strikes.length k1)).store 2 (.slice A2 C.surveys.length k2);have hb8':=hb8.grown hs7 (fun e=>hne (Option.some.inj e).symm);have ho1:=own_kept_ty ho1 hb7 (by decide) hs7;have ho3:=own_kept_ty ho3 hb7 (by decide) hs7;have ho5:=own_kept_ty ho5 hb7 (by decide) hs7;have ho6:=own_kept_ty ho6 hb7 (by decide) hs7;have ho7:=own_kept_ty ho7 hb7 (by decide) hs7;have ho8:=own_kept_ty ho8 hb7 (by decide) hs7;have hl1:=hl1.kept_ty hb7 (by decide) (by decide) hs7;have hl3:=hl3.kept_ty hb7 (by decide) (by decide) hs7;have hA7:=hw.aft.grown hs7 (fun k e=>by cases e;exact hg7);have HT7:=Lib.hid (blk_there hb7 (rfl:3 = (#[Value.int .i64 0,.slice none 0 0,.slice none 0 0]:Array Value).size));have HT8:=Lib.hid (blk_there hb8' (rfl:3 = (#[Value.int .i64 0,.slice none 0 0,.slice none 0 0]:Array Value).size));obtain ⟨W2,hW2⟩:∃ W2,(W.setCells g7 0 [.int .i64 C.claims,.slice A1 C.strikes.length k1,.slice A2 C.surveys.length k2]).setCells g8 0 [.int .i64 C.claims,.slice A3 C.strikes.length k3,.slice A4 C.surveys.length k4] = W2:=⟨_,rfl⟩;have hs8:(W.setCells g7 0 [.int .i64 C.claims,.slice A1 C.strikes.length k1,.slice A2 C.surveys.length k2]).grownBy W2 (some g8):=by rw [<- hW2];exact only_setCells _ _ _ (only_refl _ _)
  have hb8'':Blk W2 g8 31 #[.int .i64 C.claims,.slice A3 C.strikes.length k3,.slice A4 C.surveys.length k4]:=by rw [<- hW2];exact ((hb8'.store 0 (.int .i64 C.claims)).store 1 (.slice A3 C.strikes.length k3)).store 2 (.slice A4 C.surveys.length k4)
  have hb7'':=hb7'.grown hs8 (fun e=>hne (Option.some.inj e));have ho1:=own_kept_ty ho1 hb8' (by decide) hs8;have ho3:=own_kept_ty ho3 hb8' (by decide) hs8;have ho5:=own_kept_ty ho5 hb8' (by decide) hs8;have ho6:=own_kept_ty ho6 hb8' (by decide) hs8;have ho7:=own_kept_ty ho7 hb8' (by decide) hs8;have ho8:=own_kept_ty ho8 hb8' (by decide) hs8;have hl1:=hl1.kept_ty hb8' (by decide) (by decide) hs8;have hl3:=hl3.kept_ty hb8' (by decide) (by decide) hs8;have hA8:=hA7.grown hs8 (fun k e=>by cases e;exact hg8);have HTW:Hid (Two8 C R O F Kl W2 g7 g8 b3 a1 a2 c1 c2 A1 A2 A3 A4 k1 k2 k3 k4 AR AO AF AK A5 A6 A7 A8):=Lib.hid (by
   obtain ⟨_,_,f1,g1,_⟩:=own_strs ho1 (by omega);obtain ⟨_,_,f2,_,g2⟩:=hl1.lists (by omega) (fun l hl=>by have:=HS3.out l hl;omega);obtain ⟨_,_,f3,g3,_⟩:=own_strs84 ho3 (by omega);obtain ⟨_,_,f4,_,g4⟩:=hl3.lists (by omega) (fun l hl=>by have:=HS3.out l hl;omega);obtain ⟨_,_,f5,_,g5⟩:=own_ints ho5 (by omega);obtain ⟨_,_,f6,_,g6⟩:=own_ints ho6 (by omega);obtain ⟨_,_,f7,_,g7⟩:=own_ints ho7 (by omega);obtain ⟨_,_,f8,_,g8⟩:=own_ints ho8 (by omega);cases f1;cases f2;cases f3;cases f4;cases f5;cases f6;cases f7;cases f8;exact ⟨hb7'',hb8'',HB.out.aft hA8,⟨g1,g2⟩,⟨g3,g4⟩,HC.out.aft hA8,HRI.out.aft hA8,HOI.out.aft hA8,HFI.out.aft hA8,HKI.out.aft hA8,g5,g6,g7,g8⟩)
  have HAW:=Lib.hid (H0.out.trans (HA1.out.trans hA8));have HW2:=Lib.hid hW2;clear hw hd hus e50 e52 e54 e56 e58 e60 e11 e16 ho1 ho3 ho5 ho6 ho7 ho8 hl1 hl3 hb7 hb8 hb7' hb8' hb8'' hb7'' hs7 hs8 hA7 hA8 hne hg7 hg8 hW2 HC0 H13 H14 H24R H24O H24F H24K HB HC HA1 H0 HRI HOI HFI HKI;simp only [fill,List.drop_succ_cons,List.drop_zero,List.zip_cons_cons,List.zip_nil_right,putAll];simp only [Act.put,List.setIfInBounds_toArray,List.set];go_upto_region 4 with (first | (refine wpList_store_mid rfl 25 (.tmp 11) (.tmp 50) rfl g7 0 #[.int .i64 C.claims,.slice A1 C.strikes.length k1,.slice A2 C.surveys.length k2] rfl rfl HT7.out info25b (all_oneCell_toArray (by intro v hv;simp at hv;rcases hv with rfl | rfl | rfl <;> rfl)) ?_) | (refine wpList_store_mid rfl 31 (.tmp 16) (.tmp 60) rfl g8 0 #[.int .i64 C.claims,.slice A3 C.strikes.length k3,.slice A4 C.surveys.length k4] rfl rfl HT8.out info31 (all_oneCell_toArray (by intro v hv;simp at hv;rcases hv with rfl | rfl | rfl <;> rfl)) ?_;rw [HW2.out]))
  clear HT7 HT8 HW2;obtain ⟨cE,hcE⟩:∃ cE,caseE C = cE:=⟨_,rfl⟩;have H34:Hid (∀ X,Aft W2 X -> Calls Tryz.prog 34 #[.agg #[.int .i64 C.claims,.slice A1 C.strikes.length k1,.slice A2 C.surveys.length k2]] X fun e w'=>e = .returned (.int .i64 cE) /\ Aft X w'):=Lib.hid fun X h=>by rw [<- hcE];exact check_any C A1 A2 k1 k2 X (HTW.out.aft h).r7
  have H56:Hid (∀ X,Aft W2 X -> Calls Tryz.prog 56 #[.agg #[.int .i64 C.claims,.slice A3 C.strikes.length k3,.slice A4 C.surveys.length k4]] X fun e w'=>e = .returned (.int .i64 cE) /\ Aft X w'):=Lib.hid fun X h=>by rw [<- hcE];exact checkR_any C A3 A4 k3 k4 X (HTW.out.aft h).r8
  have HG7:Hid (∀ X,Aft W2 X -> X.cell? ⟨g7,0,none⟩ = some (.int .i64 C.claims) /\ X.cell? ⟨g7,1,none⟩ = some (.slice A1 C.strikes.length k1) /\ X.cell? ⟨g7,2,none⟩ = some (.slice A2 C.surveys.length k2)):=Lib.hid fun X h=>box25 (HTW.out.aft h).k7
  have HG8:Hid (∀ X,Aft W2 X -> X.cell? ⟨g8,0,none⟩ = some (.int .i64 C.claims) /\ X.cell? ⟨g8,1,none⟩ = some (.slice A3 C.strikes.length k3) /\ X.cell? ⟨g8,2,none⟩ = some (.slice A4 C.surveys.length k4)):=Lib.hid fun X h=>box31 (HTW.out.aft h).k8
  have tE:(cE != cE) = false:=by simp
  clear hcE;refine wp_region_valsG (by kernel_rfl) 198 rfl (by kernel_rfl) (by kernel_rfl) [(.agg #[.int .i64 C.claims,.slice A1 C.strikes.length k1,.slice A2 C.surveys.length k2]),.int .i64 cE,(.agg #[.int .i64 C.claims,.slice A3 C.strikes.length k3,.slice A4 C.surveys.length k4]),.int .i64 cE,.bool false] rfl (fun W=>Aft W2 W) (Aft.drew _) ?st2 ?fi2
  case st2 =>
   intro i o v ho hv
   match i,ho,hv with
   | 0,ho,hv =>
    cases ho;cases hv;refine .inl ⟨rfl,fun a W hk hw K hK=>?_⟩;have e11:=hk.s 11;obtain ⟨y0,y1,y2⟩:=HG7.out W hw;exact op_val (v:=.agg #[.int .i64 C.claims,.slice A1 C.strikes.length k1,.slice A2 C.surveys.length k2]) (by simp [go_sem,ev' e11,y0,y1,y2]) (hK _ hw)
   | 1,ho,hv =>
    cases ho;cases hv;refine .inl ⟨rfl,fun a W hk hw K hK=>?_⟩;have e61:=hk.t 0;refine op_callN rfl rfl rfl _ rfl (vs:=#[.agg #[.int .i64 C.claims,.slice A1 C.strikes.length k1,.slice A2 C.surveys.length k2]]) (by simp [e61]) (H34.out W hw) fun e w' h=>?_
    obtain ⟨rfl,ha⟩:=h;exact ⟨_,rfl,hK _ (hw.trans ha)⟩
   | 2,ho,hv =>
    cases ho;cases hv;refine .inl ⟨rfl,fun a W hk hw K hK=>?_⟩;have e16:=hk.s 16;obtain ⟨y0,y1,y2⟩:=HG8.out W hw;exact op_val (v:=.agg #[.int .i64 C.claims,.slice A3 C.strikes.length k3,.slice A4 C.surveys.length k4]) (by simp [go_sem,ev' e16,y0,y1,y2]) (hK _ hw)
   | 3,ho,hv =>
    cases ho;cases hv;refine .inl ⟨rfl,fun a W hk hw K hK=>?_⟩;have e63:=hk.t 2;refine op_callN rfl rfl rfl _ rfl (vs:=#[.agg #[.int .i64 C.claims,.slice A3 C.strikes.length k3,.slice A4 C.surveys.length k4]]) (by simp [e63]) (H56.out W hw) fun e w' h=>?_
    obtain ⟨rfl,ha⟩:=h;exact ⟨_,rfl,hK _ (hw.trans ha)⟩
   | 4,ho,hv =>
    cases ho;cases hv;refine .inl ⟨rfl,fun a W hk hw K hK=>?_⟩;have e62:=hk.t 1;have e64:=hk.t 3;exact op_val (by simp [go_sem,ev' e62,ev' e64,tE]) (hK _ hw)
   | _ + 5,_,hv=>cases hv
  intro W hw;simp only [List.drop_succ_cons,List.drop_zero,List.zip_cons_cons,List.zip_nil_right,putAll];simp only [Act.put,List.setIfInBounds_toArray,List.set]
  replace HTW:=Lib.hid (HTW.out.aft hw)
  replace HAW:=Lib.hid (HAW.out.trans hw)
  clear hw H34 H56 HG7 HG8 tE;obtain ⟨W3,rfl⟩:∃ W3,W3 = W:=⟨_,rfl⟩;go_upto_region 6 with fail
  obtain ⟨L1,E1,hp,hr⟩:=heard_pair C R O;have H35:=Lib.hid (hp A1 A2 k1 k2 A5 k5 A6 k6);have H81:=Lib.hid (hr A3 A4 k3 k4 AR cR AO cO);clear hp hr;obtain ⟨x0,x1,x2⟩:=box25 HTW.out.k7;have x3:=HTW.out.k7.lt;go_upto_region 7 with (go_at_call 35;refine (H35.out _ HTW.out.r7 HTW.out.i5 HTW.out.i6).mono ?_;rintro e W4 ⟨B1,d1,rfl,hi,ha⟩;have HI1:=Lib.hid hi;replace HTW:=Lib.hid (HTW.out.aft ha);replace HAW:=Lib.hid (HAW.out.trans ha);clear hi ha x0 x1 x2 x3)
  obtain ⟨x0,x1,x2⟩:=box31 HTW.out.k8;have x3:=HTW.out.k8.lt;go_upto_region 8 with (go_at_call 81;refine (H81.out _ HTW.out.r8 HTW.out.iR HTW.out.iO).mono ?_;rintro e W5 ⟨B2,d2,rfl,hi,ha⟩;have HI2:=Lib.hid hi;replace HI1:=Lib.hid (HI1.out.aft ha);replace HTW:=Lib.hid (HTW.out.aft ha);replace HAW:=Lib.hid (HAW.out.trans ha);clear hi ha x0 x1 x2 x3)
  have tE:(E1 != E1) = false:=by simp
  have h17:=kitEqual_int B1 B2 L1 L1 d1 d2 W5 HI1.out HI2.out;rw [eqB_self] at h17;have H17:=Lib.hid h17;clear h17;go_cut [88] from 80 to 88 (fun sv wx=>sv = .bool false /\ Aft W5 wx)
  case first =>
   (repeat (first | go_big_skip | go_big_want | go_big_move | go_big_op | go_step | go_upon | go_back));go_at_call 17;refine H17.out.mono ?_;rintro e wz ⟨rfl,ha⟩;dsimp only;have HZ:=Lib.hid ha;clear ha;(repeat (first | go_big_skip | go_big_want | go_big_move | go_big_op | go_step | go_upon | go_back));go_meet;exact ⟨rfl,HZ.out⟩
  obtain ⟨rfl,ha⟩:=hcut
  replace HTW:=Lib.hid (HTW.out.aft ha)
  replace HAW:=Lib.hid (HAW.out.trans ha)
  clear ha tE H17 HI1 HI2 H35 H81;obtain ⟨W6,rfl⟩:∃ W6,W6 = wc:=⟨_,rfl⟩;go_upto_region 10 with fail
  obtain ⟨L2,E2,hp,hr,hq⟩:=award_triple C R;have H39:=Lib.hid (hp A1 A2 k1 k2 A5 k5);have H22:=Lib.hid (hr A3 A4 k3 k4 AR cR);have H42:=Lib.hid (hq A1 A2 k1 k2 A5 k5);clear hp hr hq;obtain ⟨x0,x1,x2⟩:=box25 HTW.out.k7;have x3:=HTW.out.k7.lt;go_upto_region 11 with (go_at_call 39;refine (H39.out _ HTW.out.r7 HTW.out.i5).mono ?_;rintro e W7 ⟨B1,d1,rfl,hi,ha⟩;have HI1:=Lib.hid hi;replace HTW:=Lib.hid (HTW.out.aft ha);replace HAW:=Lib.hid (HAW.out.trans ha);clear hi ha x0 x1 x2 x3)
  obtain ⟨x0,x1,x2⟩:=box31 HTW.out.k8;have x3:=HTW.out.k8.lt;go_upto_region 12 with (go_at_call 22;refine (H22.out _ HTW.out.r8 HTW.out.iR).mono ?_;rintro e W8 ⟨B2,d2,rfl,hi,ha⟩;have HI2:=Lib.hid hi;replace HI1:=Lib.hid (HI1.out.aft ha);replace HTW:=Lib.hid (HTW.out.aft ha);replace HAW:=Lib.hid (HAW.out.trans ha);clear hi ha x0 x1 x2 x3)
  obtain ⟨x0,x1,x2⟩:=box25 HTW.out.k7;have x3:=HTW.out.k7.lt;go_upto_region 13 with (go_at_call 42;refine (H42.out _ HTW.out.r7 HTW.out.i5).mono ?_;rintro e W9 ⟨B3,d3,KR,rfl,hk14,hi,ha,hk0,hkc⟩;have HI3:=Lib.hid hi;have HK0:=Lib.hid hk0;have HKC:=Lib.hid hkc;replace HI1:=Lib.hid (HI1.out.aft ha);replace HI2:=Lib.hid (HI2.out.aft ha);replace HTW:=Lib.hid (HTW.out.aft ha);replace HAW:=Lib.hid (HAW.out.trans ha);clear hi ha hk0 hkc x0 x1 x2 x3)
  have tE:(E2 != E2) = false:=by simp
  have h17:=kitEqual_int B1 B2 L2 L2 d1 d2 W9 HI1.out HI2.out;rw [eqB_self] at h17;have H17:=Lib.hid h17;clear h17 H39 H22 H42;go_cut [129] from 107 to 129 (fun sv wx=>sv = .bool false /\ Aft W9 wx)
  case first =>
   by_cases hE2:E2 = 0
   ·have t0:(E2 != 0) = false:=by rw [hE2];rfl
    (repeat (first | go_big_skip | go_big_want | go_big_move | go_big_op | go_step | go_upon | go_back));go_at_call 17;refine H17.out.mono ?_;rintro e wz ⟨rfl,ha⟩;dsimp only;have HZ:=Lib.hid ha;clear ha;(repeat (first | go_big_skip | go_big_want | go_big_move | go_big_op | go_step | go_upon | go_back));go_meet;exact ⟨rfl,HZ.out⟩
   ·have t0:(E2 != 0) = true:=by rw [bne_iff_ne];exact hE2
    have hk:=HK0.out hE2;have t9:decide ((0:Int) < (KR.length:Int)) = false:=decide_eq_false (by omega);clear hk;(repeat (first | go_big_skip | go_big_want | go_big_move | go_big_op | go_step | go_upon | go_back));go_at_call 17;refine H17.out.mono ?_;rintro e wz ⟨rfl,ha⟩;dsimp only;have HZ:=Lib.hid ha;clear ha;(repeat (first | go_big_skip | go_big_want | go_big_move | go_big_op | go_step | go_upon | go_back));go_meet;exact ⟨congrArg Value.bool (decide_eq_false (by have:=HK0.out hE2;omega)),HZ.out⟩
  obtain ⟨rfl,ha⟩:=hcut
  replace HI2:=Lib.hid (HI2.out.aft ha)
  replace HI3:=Lib.hid (HI3.out.aft ha)
  replace HTW:=Lib.hid (HTW.out.aft ha)
  replace HAW:=Lib.hid (HAW.out.trans ha)
  clear ha tE H17 HI1 HK0;obtain ⟨V0,rfl⟩:∃ V0,V0 = wc:=⟨_,rfl⟩;go_upto_region 15 with fail
  go_upto_if 131 with fail
  go_cut [133] from 133 to 145 (fun sv wx=>Aft V0 wx)
  case first =>
   by_cases hE2:E2 = 0
   ·have t0:(E2 == 0) = true:=by rw [hE2];rfl
    have H82:=Lib.hid (HKC.out hE2 A3 A4 k3 k4 AR cR B2 d2 B3 d3 V0 HTW.out.r8 HTW.out.iR HI2.out HI3.out);obtain ⟨x0,x1,x2⟩:=box31 HTW.out.k8;have x3:=HTW.out.k8.lt;(repeat (first | go_big_skip | go_big_want | go_big_move | go_big_op | go_step | go_upon | go_back));go_at_call 82;refine H82.out.mono ?_;rintro e wz ⟨rfl,ha⟩;dsimp only;have HZ:=Lib.hid ha;clear ha;(repeat (first | go_big_skip | go_big_want | go_big_move | go_big_op | go_step | go_upon | go_back));go_meet;exact HZ.out
   ·have t0:(E2 == 0) = false:=by rw [beq_eq_false_iff_ne];exact hE2
    (repeat (first | go_big_skip | go_big_want | go_big_move | go_big_op | go_step | go_upon | go_back));go_meet;exact Aft.refl _
  have ha:=hcut
  replace HTW:=Lib.hid (HTW.out.aft ha)
  replace HAW:=Lib.hid (HAW.out.trans ha)
  clear ha hcut HI2 HI3 HKC;obtain ⟨V1,rfl⟩:∃ V1,V1 = wc:=⟨_,rfl⟩;go_upto_region 19 with fail
  obtain ⟨hb,hE,hp,hr⟩:=holds_pair C R F Kl;have H43:=Lib.hid (hp A1 A2 k1 k2 A5 k5 A7 k7 A8 k8);have H82:=Lib.hid (hr A3 A4 k3 k4 AR cR AF cF AK cK);clear hp hr;obtain ⟨x0,x1,x2⟩:=box25 HTW.out.k7;have x3:=HTW.out.k7.lt;go_upto_region 20 with (go_at_call 43;refine (H43.out _ HTW.out.r7 HTW.out.i5 HTW.out.i7 HTW.out.i8).mono ?_;rintro e V2 ⟨rfl,ha⟩;replace HTW:=Lib.hid (HTW.out.aft ha);replace HAW:=Lib.hid (HAW.out.trans ha);clear ha x0 x1 x2 x3)
  obtain ⟨x0,x1,x2⟩:=box31 HTW.out.k8;have x3:=HTW.out.k8.lt;go_upto_region 21 with (go_at_call 82;refine (H82.out _ HTW.out.r8 HTW.out.iR HTW.out.iF HTW.out.iK).mono ?_;rintro e V3 ⟨rfl,ha⟩;replace HTW:=Lib.hid (HTW.out.aft ha);replace HAW:=Lib.hid (HAW.out.trans ha);clear ha x0 x1 x2 x3)
  clear H43 H82;have tE:(hE == hE) = true:=by simp
  have tb:(hb == hb) = true:=by simp
  obtain ⟨x0,x1,x2⟩:=box25 HTW.out.k7;have x3:=HTW.out.k7.lt;obtain ⟨y0,y1,y2⟩:=box25 HTW.out.k3;have y3:=HTW.out.k3.lt;have H23:=Lib.hid (equal_same C A1 A2 k1 k2 a1 a2 c1 c2 V3 HTW.out.r7 HTW.out.r3);have tb2:∀ b:Bool,(b == b) = true:=fun b=>by simp
  cases hb
  ·skip
   (repeat (first | go_big_skip | go_big_want | go_big_move | go_big_op | go_step | go_upon | go_back));go_at_call 23;refine H23.out.mono ?_;rintro e V4 ⟨rfl,ha⟩;dsimp only
   replace HTW:=Lib.hid (HTW.out.aft ha)
   replace HAW:=Lib.hid (HAW.out.trans ha)
   clear ha H23 x0 x1 x2 x3 y0 y1 y2 y3;have h17:=kitEqual_int A5 AR R R k5 cR V4 HTW.out.i5 HTW.out.iR;rw [eqB_self] at h17;have H17:=Lib.hid h17;clear h17;(repeat (first | go_big_skip | go_big_want | go_big_move | go_big_op | go_step | go_upon | go_back));go_at_call 17;refine H17.out.mono ?_;rintro e V5 ⟨rfl,ha⟩;dsimp only
   replace HTW:=Lib.hid (HTW.out.aft ha)
   replace HAW:=Lib.hid (HAW.out.trans ha)
   clear ha H17;have h17:=kitEqual_int A6 AO O O k6 cO V5 HTW.out.i6 HTW.out.iO;rw [eqB_self] at h17;have H17:=Lib.hid h17;clear h17;(repeat (first | go_big_skip | go_big_want | go_big_move | go_big_op | go_step | go_upon | go_back));go_at_call 17;refine H17.out.mono ?_;rintro e V6 ⟨rfl,ha⟩;dsimp only
   replace HTW:=Lib.hid (HTW.out.aft ha)
   replace HAW:=Lib.hid (HAW.out.trans ha)
   clear ha H17;have h17:=kitEqual_int A7 AF F F k7 cF V6 HTW.out.i7 HTW.out.iF;rw [eqB_self] at h17;have H17:=Lib.hid h17;clear h17;(repeat (first | go_big_skip | go_big_want | go_big_move | go_big_op | go_step | go_upon | go_back));go_at_call 17;refine H17.out.mono ?_;rintro e V7 ⟨rfl,ha⟩;dsimp only
   replace HTW:=Lib.hid (HTW.out.aft ha)
   replace HAW:=Lib.hid (HAW.out.trans ha)
   clear ha H17;have h17:=kitEqual_int A8 AK Kl Kl k8 cK V7 HTW.out.i8 HTW.out.iK;rw [eqB_self] at h17;have H17:=Lib.hid h17;clear h17;(repeat (first | go_big_skip | go_big_want | go_big_move | go_big_op | go_step | go_upon | go_back));go_at_call 17;refine H17.out.mono ?_;rintro e V8 ⟨rfl,ha⟩;dsimp only
   replace HTW:=Lib.hid (HTW.out.aft ha)
   replace HAW:=Lib.hid (HAW.out.trans ha)
   clear ha H17;(repeat (first | go_big_skip | go_big_want | go_big_move | go_big_op | go_step | go_upon | go_back));go_at_call 12;refine (awake_any _).mono ?_;rintro e V9 ⟨rfl,ha⟩;dsimp only;have HEND:=Lib.hid (HAW.out.trans ha);clear ha;(repeat (first | go_big_skip | go_big_want | go_big_move | go_big_op | go_step | go_upon | go_back));go_ret;exact ⟨rfl,HEND.out⟩
  ·skip
   (repeat (first | go_big_skip | go_big_want | go_big_move | go_big_op | go_step | go_upon | go_back));go_at_call 23;refine H23.out.mono ?_;rintro e V4 ⟨rfl,ha⟩;dsimp only
   replace HTW:=Lib.hid (HTW.out.aft ha)
   replace HAW:=Lib.hid (HAW.out.trans ha)
   clear ha H23 x0 x1 x2 x3 y0 y1 y2 y3;have h17:=kitEqual_int A5 AR R R k5 cR V4 HTW.out.i5 HTW.out.iR;rw [eqB_self] at h17;have H17:=Lib.hid h17;clear h17;(repeat (first | go_big_skip | go_big_want | go_big_move | go_big_op | go_step | go_upon | go_back));go_at_call 17;refine H17.out.mono ?_;rintro e V5 ⟨rfl,ha⟩;dsimp only
   replace HTW:=Lib.hid (HTW.out.aft ha)
   replace HAW:=Lib.hid (HAW.out.trans ha)
   clear ha H17;have h17:=kitEqual_int A6 AO O O k6 cO V5 HTW.out.i6 HTW.out.iO;rw [eqB_self] at h17;have H17:=Lib.hid h17;clear h17;(repeat (first | go_big_skip | go_big_want | go_big_move | go_big_op | go_step | go_upon | go_back));go_at_call 17;refine H17.out.mono ?_;rintro e V6 ⟨rfl,ha⟩;dsimp only
   replace HTW:=Lib.hid (HTW.out.aft ha)
   replace HAW:=Lib.hid (HAW.out.trans ha)
   clear ha H17;have h17:=kitEqual_int A7 AF F F k7 cF V6 HTW.out.i7 HTW.out.iF;rw [eqB_self] at h17;have H17:=Lib.hid h17;clear h17;(repeat (first | go_big_skip | go_big_want | go_big_move | go_big_op | go_step | go_upon | go_back));go_at_call 17;refine H17.out.mono ?_;rintro e V7 ⟨rfl,ha⟩;dsimp only
   replace HTW:=Lib.hid (HTW.out.aft ha)
   replace HAW:=Lib.hid (HAW.out.trans ha)
   clear ha H17;have h17:=kitEqual_int A8 AK Kl Kl k8 cK V7 HTW.out.i8 HTW.out.iK;rw [eqB_self] at h17;have H17:=Lib.hid h17;clear h17;(repeat (first | go_big_skip | go_big_want | go_big_move | go_big_op | go_step | go_upon | go_back));go_at_call 17;refine H17.out.mono ?_;rintro e V8 ⟨rfl,ha⟩;dsimp only
   replace HTW:=Lib.hid (HTW.out.aft ha)
   replace HAW:=Lib.hid (HAW.out.trans ha)
   clear ha H17;(repeat (first | go_big_skip | go_big_want | go_big_move | go_big_op | go_step | go_upon | go_back));go_at_call 12;refine (awake_any _).mono ?_;rintro e V9 ⟨rfl,ha⟩;dsimp only;have HEND:=Lib.hid (HAW.out.trans ha);clear ha;(repeat (first | go_big_skip | go_big_want | go_big_move | go_big_op | go_step | go_upon | go_back));go_ret;exact ⟨rfl,HEND.out⟩
 ·go_wp2_with (go_at_call 12;refine (awake_any _).mono ?_;rintro e wz2 ⟨rfl,ha⟩;have HEND:=Lib.hid (H0.out.trans (HA1.out.trans ha));clear ha)
  go_ret;exact ⟨rfl,HEND.out⟩
end Go.Proofs
end
