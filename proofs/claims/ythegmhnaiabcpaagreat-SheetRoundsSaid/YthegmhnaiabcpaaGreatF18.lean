/- Own texts, merged: Re Rk0. -/
import Derived.Test.YthegmhnaiabcpaaGreatF17
set_option linter.unusedSimpArgs false
set_option linter.unusedVariables false
set_option linter.unnecessarySimpa false
section
/- Walks: the reference's apart 49. -/
namespace Go.Proofs
open Go.RowKit
attribute [local go_sem] Oper.semAt_some
def ApartR (S:SetL) (north:Bool) (N D:Int) (w:World) (e:Ending) (w':World):Prop:=∃ T c G C V,e = .returned (.slice (some ⟨T,0,none⟩) S.n.toNat c) /\ TabZ w T S.n.toNat G C V w' /\ ∀ a b,a < S.n.toNat -> b < S.n.toNat -> Sheet.Dist (Sheet.sc D N (Sheet.legs (joOf north S.J))) a b (Sheet.optE (V a b))
theorem pow12 {k:Nat} (h:k < 12):(0:Int) <= 2000000000 * 2 ^ k /\ (2000000000 * 2 ^ k:Int) <= 4096000000000 /\ (2000000000 * 2 ^ (k + 1):Int) = 2 * (2000000000 * 2 ^ k):=by
 have h1:(2:Int) ^ k <= 2048:=by
  have:=Nat.pow_le_pow_right (n:=2) (by decide) (show k <= 11 by omega);have h3:((2 ^ k:Nat):Int) <= ((2 ^ 11:Nat):Int):=by exact_mod_cast this
  simpa using h3
 have h2:(0:Int) <= 2 ^ k:=by
  have:(0:Int) <= ((2 ^ k:Nat):Int):=Int.natCast_nonneg _;simpa using this
 refine ⟨by omega,by omega,?_⟩;rw [Int.pow_succ];omega
set_option maxRecDepth 100000 in
set_option maxHeartbeats 16000000 in
theorem refApart_any (S:SetL) (A:Option Addr) (c:Nat) (north:Bool) (N D:Int) (w:World) (hA:Quads w A S.J) (hS:SetOk S) (hp:PlayOk N D) (hneg:Sheet.NoNeg (Sheet.sc D N (Sheet.legs (joOf north S.J)))) :
  Calls Tryz.prog 49 #[.agg #[.int .i64 S.n,.slice A S.J.length c],.bool north,.agg #[.int .i64 N,.int .i64 D]] w (ApartR S north N D w):=by
 obtain ⟨s,hs⟩:∃ s,w.heap.size = s:=⟨_,rfl⟩;have F0:=((Fr.start w).alloc rfl 37 #[.int .i64 S.n,.slice A S.J.length c]).alloc (by simp) 29 #[.int .i64 N,.int .i64 D];simp only [List.nil_append,List.cons_append] at F0;rw [hs] at F0;obtain ⟨W0,hW0⟩:∃ W0,(w.alloc (.cells #[.int .i64 S.n,.slice A S.J.length c] 37)).alloc (.cells #[.int .i64 N,.int .i64 D] 29) = W0:=⟨_,rfl⟩;rw [hW0] at F0;have HF0:=Lib.hid F0;have HA:=Lib.hid (hA.aft F0.aft);have HW0:=Lib.hid hW0;have HS0:=Lib.hid hs;have hn1:=hS.n1;have hn2:=hS.n2;have hfew:=hS.few;have hd1:=hp.d1;have hd2:=hp.d2;have hd3:=hp.n1;have hd4:=hp.n2;obtain ⟨n,hn⟩:∃ n,S.n.toNat = n:=⟨_,rfl⟩;have hnn:S.n = (n:Int):=by omega
 have hn12:n <= 12:=by omega
 have hn0:0 < n:=by omega
 have HNN:=Lib.hid hnn;have HN:=Lib.hid hn;have HS:=Lib.hid hS;have HWT:Hid (∀ g:Nat × Bool,g.1 < (joOf north S.J).length -> -2000000000 <= Sheet.wt (joOf north S.J) D N g /\ Sheet.wt (joOf north S.J) D N g <= 2000000000):=Lib.hid fun g hg=>wt_le (north:=north) hS hp (g:=g) (by simpa [joOf] using hg)
 have HEI:Hid (Sheet.In (Sheet.sc D N (Sheet.legs (joOf north S.J))) n):=Lib.hid (by rw [<- hn];exact (hS.ok north).in_sc);have HJO:Hid (∀ i,(h:i < S.J.length) -> Sheet.jo (joOf north S.J) i = (S.J[i].a.toNat,S.J[i].b.toNat,way1 north S.J[i])):=Lib.hid fun i h=>jo_of north S.J h
 have HJL:Hid ((joOf north S.J).length = S.J.length):=Lib.hid (joOf_len north S.J);have HWY:Hid (∀ i,(h:i < S.J.length) -> -1000000 <= way1 north S.J[i] /\ way1 north S.J[i] <= 1000000):=Lib.hid fun i h=>way_le hS north _ (List.getElem_mem h)
 have HEM:Hid (∀ a b x,(a,b,x) ∈ Sheet.sc D N (Sheet.legs (joOf north S.J)) -> -2000000000 <= x /\ x <= 2000000000):=Lib.hid fun a b x he=>by
  obtain ⟨w',h1,rfl⟩:=Sheet.mem_sc he;obtain ⟨g,g1,g2,g3,g4⟩:=Sheet.mem_leg h1;have:=HWT.out g g1;unfold Sheet.wt at this;rw [g4] at this;exact this
 unfold ApartR;rw [hn];obtain ⟨JO,hJO⟩:∃ JO,joOf north S.J = JO:=⟨_,rfl⟩;rw [hJO] at HWT HEI HJO HJL HEM hneg ⊢;have HNEG:=Lib.hid hneg;obtain ⟨V0,hV0⟩:∃ V0:Nat -> Nat -> Int,V0 = fun a b=>Sheet.ap0 JO D N a b S.J.length:=⟨_,rfl⟩
 have HV0:=Lib.hid hV0;clear hA F0 hW0 hs hS hp hneg hn hnn hJO hV0;go_enter Tryz.func49,Tryz.ntmps49;go_upto_region 1 with fail
 try rw [HS0.out]
 try rw [HW0.out]
 have hsz:s + 1 + 1 <= W0.heap.size:=HF0.out.size;go_upto_block 0 with fail
 refine wp_block ?_;go_loopw [7,8] (fun v i wr=>∃ k:Nat,i = .int .i64 (k:Nat) /\ k <= n /\ Aft W0 wr /\ ∃ vs,OwnLs wr W0.heap.size v vs (rowsZ V0 k n)) (fun _ i _=>n - (intOf i).toNat)
 case atStart=>exact ⟨0,rfl,by omega,Aft.refl _,[],OwnLs.nil⟩
 case round =>
  rename World=>wa
  obtain ⟨k,rfl,hk,hw,vs,hown⟩:=hrel;have HOW:=Lib.hid hown;have HXA:=Lib.hid hw;clear hown hw;have c0:wa.cell? ⟨s,0,none⟩ = some (.int .i64 (n:Int)):=by rw [<- HNN.out];exact ((HF0.out.later HXA.out).nth 0 rfl).cell 0
  have c2:=((HF0.out.later HXA.out).nth 0 rfl).lt;by_cases hkn:k < n
  ·have t1:decide (k < n) = true:=by simpa using hkn
   have hll:(rowsZ V0 k n).length <= 1000000:=by rw [rowsZ_len];omega
   have hws:W0.heap.size <= wa.heap.size:=HXA.out.size;have HTS:=Lib.hid (rowsZ_succ V0 k n);obtain ⟨rows,hrows⟩:∃ r,rowsZ V0 k n = r:=⟨_,rfl⟩;rw [hrows] at HOW hll HTS;clear hrows;go_upto_block 2 with fail
   clear c0 c2 t1;refine wp_block ?_;go_loopw [9,10] (fun v i wr2=>∃ q:Nat,i = .int .i64 (q:Nat) /\ q <= n /\ Aft wa wr2 /\ wr2.ownsRow wa.heap.size 3 1 v q ((List.range q).map fun j=>Value.int .i64 (V0 k j))) (fun _ i _=>n - (intOf i).toNat)
   case atStart=>exact ⟨0,rfl,by omega,Aft.refl _,World.ownsRow_nil _ _ 3 1⟩
   case round =>
    rename World=>wb
    obtain ⟨q,rfl,hq,hw,hrow⟩:=hrel;have HXB:=Lib.hid hw;have HROW:=Lib.hid hrow;clear hw hrow;have c0:wb.cell? ⟨s,0,none⟩ = some (.int .i64 (n:Int)):=by rw [<- HNN.out];exact ((HF0.out.later (HXA.out.trans HXB.out)).nth 0 rfl).cell 0
    have c2:=((HF0.out.later (HXA.out.trans HXB.out)).nth 0 rfl).lt;by_cases hqn:q < n
    ·have t1:decide (q < n) = true:=by simpa using hqn
     obtain ⟨A0,hA0⟩:∃ A0:Nat -> Int,A0 = fun i=>Sheet.ap0 JO D N k q i:=⟨_,rfl⟩
     have HA0:=Lib.hid hA0;have HV1:Hid (V0 k q = A0 S.J.length):=Lib.hid (by rw [HV0.out,hA0]);clear hA0;by_cases hkq:k = q
     ·have tk:((k:Int) == (q:Int)) = true:=by simp;omega
      have HZ:Hid (A0 0 = 0):=Lib.hid (by rw [HA0.out];exact if_pos hkq);clear hkq;go_upto_block 4 with fail
      clear c0 c2 t1 tk;refine wp_block ?_;go_loopw [11,12] (fun x i wr4=>∃ j:Nat,i = .int .i64 (j:Nat) /\ j <= S.J.length /\ x = .int .i64 (A0 j) /\ Aft wb wr4) (fun _ i _=>S.J.length - (intOf i).toNat)
      case atStart=>exact ⟨0,rfl,by omega,congrArg (Value.int .i64) HZ.out.symm,Aft.refl _⟩
      case round =>
       obtain ⟨j,rfl,hj,rfl,hw⟩:=hrel;have HXI:=Lib.hid hw;have HXW:=Lib.hid (HXA.out.trans (HXB.out.trans hw));clear hw HZ;have c1:wr.cell? ⟨s,1,none⟩ = some (.slice A S.J.length c):=((HF0.out.later HXW.out).nth 0 rfl).cell 1;have c2:=((HF0.out.later HXW.out).nth 0 rfl).lt;by_cases hjl:j < S.J.length
       ·have t1:decide (j < S.J.length) = true:=by simpa using hjl
        obtain ⟨b9,o9,rfl,hb9,hc9⟩:=(HA.out.aft HXW.out).at hjl;obtain ⟨x0,x1,x2,x3⟩:=hc9 j hjl;have hends:=HS.out.ends _ (List.getElem_mem hjl);have hjo:=HJO.out j hjl;have hwy:=HWY.out j hjl;have hst:A0 (j + 1) = Sheet.ap1 JO D N k q j (A0 j):=by rw [HA0.out];rfl
        unfold Sheet.ap1 at hst;rw [hjo] at hst;obtain ⟨⟨ja,jb,jx,jy⟩,hjj⟩:∃ y,S.J[j] = y:=⟨_,rfl⟩;rw [hjj] at x0 x1 x2 x3 hends hwy hst;dsimp only at x0 x1 x2 x3 hends hst;clear hc9 hjj hjo;obtain ⟨an,rfl⟩:∃ an:Nat,ja = an:=⟨ja.toNat,by omega⟩;obtain ⟨bn,rfl⟩:∃ bn:Nat,jb = bn:=⟨jb.toNat,by omega⟩;simp only [Int.toNat_natCast] at hst;have hne:an ≠ bn:=fun e=>hends.2.2 (by rw [e])
        obtain ⟨nw,hnw⟩:∃ nw,way1 north ⟨(an:Int),(bn:Int),jx,jy⟩ = nw:=⟨_,rfl⟩;rw [hnw] at hst hwy;have HNW:=Lib.hid hnw
        have hdl:-1000000000 <= nw * D /\ nw * D <= 1000000000:=by
         have h1:nw * D <= 1000000 * D:=Int.mul_le_mul_of_nonneg_right hwy.2 (by omega);have h2:-1000000 * D <= nw * D:=Int.mul_le_mul_of_nonneg_right hwy.1 (by omega);omega
        obtain ⟨nd,hnd⟩:∃ z,nw * D = z:=⟨_,rfl⟩;rw [hnd] at hst hdl;have hwd:IntKind.i64.wrap (nw * D) = nd:=by rw [hnd];exact IntWalk.i64_in _ (by omega)
        have hwf:IntKind.i64.wrap (nd + N) = nd + N:=IntWalk.i64_in _ (by omega);have hwb:IntKind.i64.wrap (N - nd) = N - nd:=IntWalk.i64_in _ (by omega);have HST:=Lib.hid hst;obtain ⟨xx,hxx⟩:∃ z,A0 j = z:=⟨_,rfl⟩;rw [hxx] at HST ⊢;clear hends hnw hwy hst hnd hxx;obtain ⟨zj,hzj⟩:∃ zj,wr.heap.size = zj:=⟨_,rfl⟩;obtain ⟨W5,hW5⟩:∃ W5,wr.alloc (.cells #[.int .i64 (an:Nat),.int .i64 (bn:Nat),.int .i64 jx,.int .i64 jy] 90) = W5:=⟨_,rfl⟩;have ha5:=hW5 ▸ Aft.alloc wr (.cells #[.int .i64 (an:Nat),.int .i64 (bn:Nat),.int .i64 jx,.int .i64 jy] 90);have HB5:Hid (Blk W5.drew zj 90 #[.int .i64 (an:Nat),.int .i64 (bn:Nat),.int .i64 jx,.int .i64 jy]):=Lib.hid (by rw [<- hW5,<- hzj];exact (Blk.new wr 90 _).aft (Aft.drew _));have HX5:=Lib.hid (HXW.out.trans (ha5.trans (Aft.drew _)));have HXI5:=Lib.hid (HXI.out.trans (ha5.trans (Aft.drew _)));go_upto_region 16 with fail
        try rw [hW5]
        try rw [hzj]
        clear hW5 hzj x0 x1 x2 x3 ha5 hb9 t1 c1 c2;refine wp_region_valsG (by kernel_rfl) 157 rfl (by kernel_rfl) (by kernel_rfl) [.agg #[.int .i64 (an:Nat),.int .i64 (bn:Nat),.int .i64 jx,.int .i64 jy],.bool north,.int .i64 nw,.pointer (some ⟨s + 1,1,none⟩),.int .i64 D,.int .i64 nd,.int .i64 nd] rfl (fun W=>Aft W5.drew W) (Aft.refl _) ?st1 ?fi1
        case st1 =>
         intro i o v ho hv
         match i,ho,hv with
         | 0,ho,hv =>
          cases ho;cases hv;refine .inl ⟨rfl,fun a W hk hw K hK=>?_⟩;have e13:=hk.same 13 (by decide);exact op_val (by simp [go_sem,ev' e13,(HB5.out.aft hw).cell 0,(HB5.out.aft hw).cell 1,(HB5.out.aft hw).cell 2,(HB5.out.aft hw).cell 3]) (hK _ hw)
         | 1,ho,hv =>
          cases ho;cases hv;refine .inl ⟨rfl,fun a W hk hw K hK=>?_⟩;have e1:=hk.same 1 (by decide);exact op_val (by simp [go_sem,ev' e1]) (hK _ hw)
         | 2,ho,hv =>
          cases ho;cases hv;refine .inl ⟨rfl,fun a W hk hw K hK=>?_⟩;have e45:=hk.at_ 0 _ 45 _ rfl (by decide) _ rfl rfl rfl;have e46:=hk.at_ 1 _ 46 _ rfl (by decide) _ rfl rfl rfl;refine op_callN rfl rfl rfl _ rfl (vs:=#[.agg #[.int .i64 (an:Nat),.int .i64 (bn:Nat),.int .i64 jx,.int .i64 jy],.bool north]) (by simp [e45,e46]) (refNumber_any ⟨(an:Int),(bn:Int),jx,jy⟩ north W) ?_;rintro e w7 ⟨rfl,hw7⟩;exact ⟨_,congrArg (fun n=>Ending.returned (Value.int .i64 n)) HNW.out,hK _ (hw.trans hw7)⟩
         | 3,ho,hv =>
          cases ho;cases hv;refine .inl ⟨rfl,fun a W hk hw K hK=>?_⟩;have e5:=hk.same 5 (by decide);exact op_val (by simp [go_sem,ev' e5]) (hK _ hw)
         | 4,ho,hv =>
          cases ho;cases hv;refine .inl ⟨rfl,fun a W hk hw K hK=>?_⟩;have e48:=hk.at_ 3 _ 48 _ rfl (by decide) _ rfl rfl rfl;exact op_val (by simp [go_sem,ev' e48,((HF0.out.later (HX5.out.trans hw)).nth 1 rfl).cell 1]) (hK _ hw)
         | 5,ho,hv =>
          cases ho;cases hv;refine .inl ⟨rfl,fun a W hk hw K hK=>?_⟩;have e47:=hk.at_ 2 _ 47 _ rfl (by decide) _ rfl rfl rfl;have e49:=hk.at_ 4 _ 49 _ rfl (by decide) _ rfl rfl rfl;exact op_val (by simp [go_sem,ev' e47,ev' e49,hwd]) (hK _ hw)
         | 6,ho,hv =>
          cases ho;cases hv;refine .inl ⟨rfl,fun a W hk hw K hK=>?_⟩;have e50:=hk.at_ 5 _ 50 _ rfl (by decide) _ rfl rfl rfl;exact op_val (by simp [go_sem,ev' e50]) (hK _ hw)
         | _ + 7,_,hv=>cases hv
        intro W hw;simp only [List.drop_succ_cons,List.drop_zero,List.zip_cons_cons,List.zip_nil_right,putAll];simp only [Act.put,List.setIfInBounds_toArray,List.set];have HX:=Lib.hid (HX5.out.trans hw);have HXI:=Lib.hid (HXI5.out.trans hw);have d0:W.cell? ⟨zj,0,none⟩ = some (.int .i64 (an:Nat)):=(HB5.out.aft hw).cell 0;have d1:W.cell? ⟨zj,1,none⟩ = some (.int .i64 (bn:Nat)):=(HB5.out.aft hw).cell 1;have d2:=(HB5.out.aft hw).lt;have p0:W.cell? ⟨s + 1,0,none⟩ = some (.int .i64 N):=((HF0.out.later HX.out).nth 1 rfl).cell 0;have p1:=((HF0.out.later HX.out).nth 1 rfl).lt;clear hw HX5 HXI5 HB5 hwd;by_cases ea:an = k
        ·have ta:((an:Int) == (k:Int)) = true:=by simp;omega
         have tb2:((bn:Int) == (k:Int)) = false:=by simp;omega
         by_cases eb:bn = q
         ·have tb:((bn:Int) == (q:Int)) = true:=by simp;omega
          obtain ⟨mv,hmv⟩:∃ m,(if nd + N < xx then nd + N else xx) = m:=⟨_,rfl⟩;have HA1:Hid (A0 (j + 1) = mv):=Lib.hid (by rw [HST.out,if_neg (by omega),if_pos ⟨ea,eb⟩];exact hmv);clear HST ea eb;go_wp2_with fail
          exact ⟨⟨j + 1,by go_num,by omega,by rw [HA1.out],HXI.out⟩,by simp [intOf];omega⟩
         ·have tb:((bn:Int) == (q:Int)) = false:=by simp;omega
          have HA1:Hid (A0 (j + 1) = xx):=Lib.hid (by rw [HST.out,if_neg (by omega),if_neg (by omega)]);clear HST ea eb;go_wp2_with fail
          exact ⟨⟨j + 1,by go_num,by omega,by rw [HA1.out],HXI.out⟩,by simp [intOf];omega⟩
        ·have ta:((an:Int) == (k:Int)) = false:=by simp;omega
         by_cases eb:bn = k
         ·have tb2:((bn:Int) == (k:Int)) = true:=by simp;omega
          by_cases ec:an = q
          ·have tc:((an:Int) == (q:Int)) = true:=by simp;omega
           obtain ⟨mv,hmv⟩:∃ m,(if N - nd < xx then N - nd else xx) = m:=⟨_,rfl⟩;have HA1:Hid (A0 (j + 1) = mv):=Lib.hid (by rw [HST.out,if_pos ⟨eb,ec⟩,if_neg (by omega)];exact hmv);clear HST ea eb ec;go_wp2_with fail
           exact ⟨⟨j + 1,by go_num,by omega,by rw [HA1.out],HXI.out⟩,by simp [intOf];omega⟩
          ·have tc:((an:Int) == (q:Int)) = false:=by simp;omega
           have HA1:Hid (A0 (j + 1) = xx):=Lib.hid (by rw [HST.out,if_neg (by omega),if_neg (by omega)]);clear HST ea eb ec;go_wp2_with fail
           exact ⟨⟨j + 1,by go_num,by omega,by rw [HA1.out],HXI.out⟩,by simp [intOf];omega⟩
         ·have tb2:((bn:Int) == (k:Int)) = false:=by simp;omega
          have HA1:Hid (A0 (j + 1) = xx):=Lib.hid (by rw [HST.out,if_neg (by omega),if_neg (by omega)]);clear HST ea eb;go_wp2_with fail
          exact ⟨⟨j + 1,by go_num,by omega,by rw [HA1.out],HXI.out⟩,by simp [intOf];omega⟩
       ·have t1:decide (j < S.J.length) = false:=by simpa using hjl
        have ej:j = S.J.length:=by omega
        have hv1:=HV1.out;rw [<- ej] at hv1;obtain ⟨xx,hxx⟩:∃ z,A0 j = z:=⟨_,rfl⟩;rw [hxx] at hv1 ⊢;have HV1:=Lib.hid hv1;clear hv1 hxx ej;have hax:=(HXB.out.trans HXI.out).trans (Aft.alloc wr (.cells #[.int .i64 xx] 3));have hox:=own_aft (own_aft HROW.out HXI.out) (Aft.alloc wr (.cells #[.int .i64 xx] 3));go_wp2_with (at_builtin;refine wpList_app ty24 rfl _ _ rfl hax rfl hox rfl rfl (by intro h;cases h) (by intro ad h;cases h;exact src_new wr #[.int .i64 xx] 3) (by intro u hu;simp at hu;subst hu;rfl) (by omega) (by decide) ?_;intro v' w7 ho7 hg7 ha7)
        refine ⟨⟨q + 1,by go_num,by omega,ha7,?_⟩,by simp [intOf];omega⟩;rw [List.range_succ,List.map_append];rw [<- HV1.out] at ho7;exact ho7
     ·have tk:((k:Int) == (q:Int)) = false:=by simp;omega
      have HZ:Hid (A0 0 = 1000000000000000000):=Lib.hid (by rw [HA0.out];exact if_neg hkq);clear hkq;go_upto_block 4 with fail
      clear c0 c2 t1 tk;refine wp_block ?_;go_loopw [11,12] (fun x i wr4=>∃ j:Nat,i = .int .i64 (j:Nat) /\ j <= S.J.length /\ x = .int .i64 (A0 j) /\ Aft wb wr4) (fun _ i _=>S.J.length - (intOf i).toNat)
      case atStart=>exact ⟨0,rfl,by omega,congrArg (Value.int .i64) HZ.out.symm,Aft.refl _⟩
      case round =>
       obtain ⟨j,rfl,hj,rfl,hw⟩:=hrel;have HXI:=Lib.hid hw;have HXW:=Lib.hid (HXA.out.trans (HXB.out.trans hw));clear hw HZ;have c1:wr.cell? ⟨s,1,none⟩ = some (.slice A S.J.length c):=((HF0.out.later HXW.out).nth 0 rfl).cell 1;have c2:=((HF0.out.later HXW.out).nth 0 rfl).lt;by_cases hjl:j < S.J.length
       ·have t1:decide (j < S.J.length) = true:=by simpa using hjl
        obtain ⟨b9,o9,rfl,hb9,hc9⟩:=(HA.out.aft HXW.out).at hjl;obtain ⟨x0,x1,x2,x3⟩:=hc9 j hjl;have hends:=HS.out.ends _ (List.getElem_mem hjl);have hjo:=HJO.out j hjl;have hwy:=HWY.out j hjl;have hst:A0 (j + 1) = Sheet.ap1 JO D N k q j (A0 j):=by rw [HA0.out];rfl
        unfold Sheet.ap1 at hst;rw [hjo] at hst;obtain ⟨⟨ja,jb,jx,jy⟩,hjj⟩:∃ y,S.J[j] = y:=⟨_,rfl⟩;rw [hjj] at x0 x1 x2 x3 hends hwy hst;dsimp only at x0 x1 x2 x3 hends hst;clear hc9 hjj hjo;obtain ⟨an,rfl⟩:∃ an:Nat,ja = an:=⟨ja.toNat,by omega⟩;obtain ⟨bn,rfl⟩:∃ bn:Nat,jb = bn:=⟨jb.toNat,by omega⟩;simp only [Int.toNat_natCast] at hst;have hne:an ≠ bn:=fun e=>hends.2.2 (by rw [e])
        obtain ⟨nw,hnw⟩:∃ nw,way1 north ⟨(an:Int),(bn:Int),jx,jy⟩ = nw:=⟨_,rfl⟩;rw [hnw] at hst hwy;have HNW:=Lib.hid hnw
        have hdl:-1000000000 <= nw * D /\ nw * D <= 1000000000:=by
         have h1:nw * D <= 1000000 * D:=Int.mul_le_mul_of_nonneg_right hwy.2 (by omega);have h2:-1000000 * D <= nw * D:=Int.mul_le_mul_of_nonneg_right hwy.1 (by omega);omega
        obtain ⟨nd,hnd⟩:∃ z,nw * D = z:=⟨_,rfl⟩;rw [hnd] at hst hdl;have hwd:IntKind.i64.wrap (nw * D) = nd:=by rw [hnd];exact IntWalk.i64_in _ (by omega)
        have hwf:IntKind.i64.wrap (nd + N) = nd + N:=IntWalk.i64_in _ (by omega);have hwb:IntKind.i64.wrap (N - nd) = N - nd:=IntWalk.i64_in _ (by omega);have HST:=Lib.hid hst;obtain ⟨xx,hxx⟩:∃ z,A0 j = z:=⟨_,rfl⟩;rw [hxx] at HST ⊢;clear hends hnw hwy hst hnd hxx;obtain ⟨zj,hzj⟩:∃ zj,wr.heap.size = zj:=⟨_,rfl⟩;obtain ⟨W5,hW5⟩:∃ W5,wr.alloc (.cells #[.int .i64 (an:Nat),.int .i64 (bn:Nat),.int .i64 jx,.int .i64 jy] 90) = W5:=⟨_,rfl⟩;have ha5:=hW5 ▸ Aft.alloc wr (.cells #[.int .i64 (an:Nat),.int .i64 (bn:Nat),.int .i64 jx,.int .i64 jy] 90);have HB5:Hid (Blk W5.drew zj 90 #[.int .i64 (an:Nat),.int .i64 (bn:Nat),.int .i64 jx,.int .i64 jy]):=Lib.hid (by rw [<- hW5,<- hzj];exact (Blk.new wr 90 _).aft (Aft.drew _));have HX5:=Lib.hid (HXW.out.trans (ha5.trans (Aft.drew _)));have HXI5:=Lib.hid (HXI.out.trans (ha5.trans (Aft.drew _)));go_upto_region 16 with fail
        try rw [hW5]
        try rw [hzj]
        clear hW5 hzj x0 x1 x2 x3 ha5 hb9 t1 c1 c2;refine wp_region_valsG (by kernel_rfl) 157 rfl (by kernel_rfl) (by kernel_rfl) [.agg #[.int .i64 (an:Nat),.int .i64 (bn:Nat),.int .i64 jx,.int .i64 jy],.bool north,.int .i64 nw,.pointer (some ⟨s + 1,1,none⟩),.int .i64 D,.int .i64 nd,.int .i64 nd] rfl (fun W=>Aft W5.drew W) (Aft.refl _) ?st2 ?fi2
        case st2 =>
         intro i o v ho hv
         match i,ho,hv with
         | 0,ho,hv =>
          cases ho;cases hv;refine .inl ⟨rfl,fun a W hk hw K hK=>?_⟩;have e13:=hk.same 13 (by decide);exact op_val (by simp [go_sem,ev' e13,(HB5.out.aft hw).cell 0,(HB5.out.aft hw).cell 1,(HB5.out.aft hw).cell 2,(HB5.out.aft hw).cell 3]) (hK _ hw)
         | 1,ho,hv =>
          cases ho;cases hv;refine .inl ⟨rfl,fun a W hk hw K hK=>?_⟩;have e1:=hk.same 1 (by decide);exact op_val (by simp [go_sem,ev' e1]) (hK _ hw)
         | 2,ho,hv =>
          cases ho;cases hv;refine .inl ⟨rfl,fun a W hk hw K hK=>?_⟩;have e45:=hk.at_ 0 _ 45 _ rfl (by decide) _ rfl rfl rfl;have e46:=hk.at_ 1 _ 46 _ rfl (by decide) _ rfl rfl rfl;refine op_callN rfl rfl rfl _ rfl (vs:=#[.agg #[.int .i64 (an:Nat),.int .i64 (bn:Nat),.int .i64 jx,.int .i64 jy],.bool north]) (by simp [e45,e46]) (refNumber_any ⟨(an:Int),(bn:Int),jx,jy⟩ north W) ?_;rintro e w7 ⟨rfl,hw7⟩;exact ⟨_,congrArg (fun n=>Ending.returned (Value.int .i64 n)) HNW.out,hK _ (hw.trans hw7)⟩
         | 3,ho,hv =>
          cases ho;cases hv;refine .inl ⟨rfl,fun a W hk hw K hK=>?_⟩;have e5:=hk.same 5 (by decide);exact op_val (by simp [go_sem,ev' e5]) (hK _ hw)
         | 4,ho,hv =>
          cases ho;cases hv;refine .inl ⟨rfl,fun a W hk hw K hK=>?_⟩;have e48:=hk.at_ 3 _ 48 _ rfl (by decide) _ rfl rfl rfl;exact op_val (by simp [go_sem,ev' e48,((HF0.out.later (HX5.out.trans hw)).nth 1 rfl).cell 1]) (hK _ hw)
         | 5,ho,hv =>
          cases ho;cases hv;refine .inl ⟨rfl,fun a W hk hw K hK=>?_⟩;have e47:=hk.at_ 2 _ 47 _ rfl (by decide) _ rfl rfl rfl;have e49:=hk.at_ 4 _ 49 _ rfl (by decide) _ rfl rfl rfl;exact op_val (by simp [go_sem,ev' e47,ev' e49,hwd]) (hK _ hw)
         | 6,ho,hv =>
          cases ho;cases hv;refine .inl ⟨rfl,fun a W hk hw K hK=>?_⟩;have e50:=hk.at_ 5 _ 50 _ rfl (by decide) _ rfl rfl rfl;exact op_val (by simp [go_sem,ev' e50]) (hK _ hw)
         | _ + 7,_,hv=>cases hv
        intro W hw;simp only [List.drop_succ_cons,List.drop_zero,List.zip_cons_cons,List.zip_nil_right,putAll];simp only [Act.put,List.setIfInBounds_toArray,List.set];have HX:=Lib.hid (HX5.out.trans hw);have HXI:=Lib.hid (HXI5.out.trans hw);have d0:W.cell? ⟨zj,0,none⟩ = some (.int .i64 (an:Nat)):=(HB5.out.aft hw).cell 0;have d1:W.cell? ⟨zj,1,none⟩ = some (.int .i64 (bn:Nat)):=(HB5.out.aft hw).cell 1;have d2:=(HB5.out.aft hw).lt;have p0:W.cell? ⟨s + 1,0,none⟩ = some (.int .i64 N):=((HF0.out.later HX.out).nth 1 rfl).cell 0;have p1:=((HF0.out.later HX.out).nth 1 rfl).lt;clear hw HX5 HXI5 HB5 hwd;by_cases ea:an = k
        ·have ta:((an:Int) == (k:Int)) = true:=by simp;omega
         have tb2:((bn:Int) == (k:Int)) = false:=by simp;omega
         by_cases eb:bn = q
         ·have tb:((bn:Int) == (q:Int)) = true:=by simp;omega
          obtain ⟨mv,hmv⟩:∃ m,(if nd + N < xx then nd + N else xx) = m:=⟨_,rfl⟩;have HA1:Hid (A0 (j + 1) = mv):=Lib.hid (by rw [HST.out,if_neg (by omega),if_pos ⟨ea,eb⟩];exact hmv);clear HST ea eb;go_wp2_with fail
          exact ⟨⟨j + 1,by go_num,by omega,by rw [HA1.out],HXI.out⟩,by simp [intOf];omega⟩
         ·have tb:((bn:Int) == (q:Int)) = false:=by simp;omega
          have HA1:Hid (A0 (j + 1) = xx):=Lib.hid (by rw [HST.out,if_neg (by omega),if_neg (by omega)]);clear HST ea eb;go_wp2_with fail
          exact ⟨⟨j + 1,by go_num,by omega,by rw [HA1.out],HXI.out⟩,by simp [intOf];omega⟩
        ·have ta:((an:Int) == (k:Int)) = false:=by simp;omega
         by_cases eb:bn = k
         ·have tb2:((bn:Int) == (k:Int)) = true:=by simp;omega
          by_cases ec:an = q
          ·have tc:((an:Int) == (q:Int)) = true:=by simp;omega
           obtain ⟨mv,hmv⟩:∃ m,(if N - nd < xx then N - nd else xx) = m:=⟨_,rfl⟩;have HA1:Hid (A0 (j + 1) = mv):=Lib.hid (by rw [HST.out,if_pos ⟨eb,ec⟩,if_neg (by omega)];exact hmv);clear HST ea eb ec;go_wp2_with fail
           exact ⟨⟨j + 1,by go_num,by omega,by rw [HA1.out],HXI.out⟩,by simp [intOf];omega⟩
          ·have tc:((an:Int) == (q:Int)) = false:=by simp;omega
           have HA1:Hid (A0 (j + 1) = xx):=Lib.hid (by rw [HST.out,if_neg (by omega),if_neg (by omega)]);clear HST ea eb ec;go_wp2_with fail
           exact ⟨⟨j + 1,by go_num,by omega,by rw [HA1.out],HXI.out⟩,by simp [intOf];omega⟩
         ·have tb2:((bn:Int) == (k:Int)) = false:=by simp;omega
          have HA1:Hid (A0 (j + 1) = xx):=Lib.hid (by rw [HST.out,if_neg (by omega),if_neg (by omega)]);clear HST ea eb;go_wp2_with fail
          exact ⟨⟨j + 1,by go_num,by omega,by rw [HA1.out],HXI.out⟩,by simp [intOf];omega⟩
       ·have t1:decide (j < S.J.length) = false:=by simpa using hjl
        have ej:j = S.J.length:=by omega
        have hv1:=HV1.out;rw [<- ej] at hv1;obtain ⟨xx,hxx⟩:∃ z,A0 j = z:=⟨_,rfl⟩;rw [hxx] at hv1 ⊢;have HV1:=Lib.hid hv1;clear hv1 hxx ej;have hax:=(HXB.out.trans HXI.out).trans (Aft.alloc wr (.cells #[.int .i64 xx] 3));have hox:=own_aft (own_aft HROW.out HXI.out) (Aft.alloc wr (.cells #[.int .i64 xx] 3));go_wp2_with (at_builtin;refine wpList_app ty24 rfl _ _ rfl hax rfl hox rfl rfl (by intro h;cases h) (by intro ad h;cases h;exact src_new wr #[.int .i64 xx] 3) (by intro u hu;simp at hu;subst hu;rfl) (by omega) (by decide) ?_;intro v' w7 ho7 hg7 ha7)
        refine ⟨⟨q + 1,by go_num,by omega,ha7,?_⟩,by simp [intOf];omega⟩;rw [List.range_succ,List.map_append];rw [<- HV1.out] at ho7;exact ho7
    ·have t1:decide (q < n) = false:=by simpa using hqn
     have eq:q = n:=by omega
     subst eq;obtain ⟨e9,-,-,-⟩:=own_rz HROW.out hn0;obtain ⟨gr,hgr⟩:∃ g,blkOf u9 = g:=⟨_,rfl⟩;obtain ⟨cr,hcr⟩:∃ g,capOf u9 = g:=⟨_,rfl⟩;rw [hgr,hcr] at e9;clear hgr hcr hq hqn;subst e9;have HRW:Hid (wb.ownsRow wa.heap.size 3 1 (.slice (some ⟨gr,0,none⟩) q cr) ((List.range q).map fun j=>V0 k j).length (((List.range q).map fun j=>V0 k j).map (Value.int .i64))):=Lib.hid (by
      have:=HROW.out;simp only [List.length_map,List.length_range,List.map_map];exact this)
     go_wp2_with (at_builtin;refine wpList_app_list rfl _ _ rfl (W:=wa) HOW.out hws rfl rfl (cell_new1 _ _ _) rfl (HXB.out.then_alloc _) (own_aft HRW.out (Aft.alloc _ _)) hll ?_;intro v' vs' w5 hown5 hg5)
     have hlt:∀ g',u7.ownBlock = some g' -> W0.heap.size <= g':=fun g' hg'=>(HOW.out.own.lt g' hg').1
     refine ⟨⟨k + 1,by go_num,by omega,(((HXA.out.trans HXB.out).then_alloc _).grown hg5 hlt),vs',?_⟩,by simp [intOf];omega⟩;rw [HTS.out];exact hown5
  ·have t1:decide (k < n) = false:=by simpa using hkn
   have ek:n = k:=by omega
   subst ek;obtain ⟨T,cT,G,C,hv,htab⟩:=own_tab HOW.out hn0 (Nat.le_refl _) HXA.out;subst hv
   have HT0:Hid (∃ V,TabZ W0 T n G C V wa /\ Sheet.Fl (Sheet.sc D N (Sheet.legs JO)) n 0 (fun a b=>Sheet.optE (V a b)) /\ ∀ a b,a < n -> b < n -> V a b < 1000000000000000000 -> V a b <= 2000000000 * 2 ^ 0):=Lib.hid ⟨V0,htab,by
    have hv:=HV0.out;have hj:=HJL.out;have hwt:=HWT.out
    have hap:∀ a b,Sheet.ApI JO D N a b (fun g=>g.1 < JO.length) (V0 a b):=fun a b=>by
     rw [hv];rw [<- hj];exact Sheet.ap0_is hwt JO.length (Nat.le_refl _)
    refine ⟨Sheet.Fl.zero hwt fun a b _ _=>hap a b,fun a b _ _ h=>?_⟩;have:=(hap a b).le
    simp
    omega⟩
   clear htab HOW HWT HA HV0 HJO HJL HWY;go_upto_block 6 with fail
   clear c0 c2 t1;refine wp_block ?_;go_loopw [15] (fun i wr=>∃ k:Nat,i = .int .i64 (k:Nat) /\ k <= n /\ Aft W0 wr /\ Hid (∃ V,TabZ W0 T n G C V wr /\ Sheet.Fl (Sheet.sc D N (Sheet.legs JO)) n k (fun a b=>Sheet.optE (V a b)) /\ ∀ a b,a < n -> b < n -> V a b < 1000000000000000000 -> V a b <= 2000000000 * 2 ^ k)) (fun i _=>n - (intOf i).toNat)
   case atStart=>exact ⟨0,rfl,by omega,HXA.out,HT0.out⟩
   case round =>
    rename World=>wk
    clear hk hkn HXA HT0;obtain ⟨k,rfl,hk,hw,HTK⟩:=hrel;have HXK:=Lib.hid hw;clear hw;have c0:wk.cell? ⟨s,0,none⟩ = some (.int .i64 (n:Int)):=by rw [<- HNN.out];exact ((HF0.out.later HXK.out).nth 0 rfl).cell 0
    have c2:=((HF0.out.later HXK.out).nth 0 rfl).lt;by_cases hkn:k < n
    ·have t1:decide (k < n) = true:=by simpa using hkn
     obtain ⟨V,htab,hfl,hbd⟩:=HTK.out;obtain ⟨hB0,hB1,hB2⟩:=pow12 (k:=k) (by omega);obtain ⟨B,hB⟩:∃ B:Int,2000000000 * 2 ^ k = B:=⟨_,rfl⟩;rw [hB] at hB0 hB1 hB2 hbd;have HFL:=Lib.hid hfl;have HBD:=Lib.hid hbd;have HB2:=Lib.hid hB2;have HI0:Hid (∃ V',TabZ W0 T n G C V' wk /\ Sheet.FlI (Sheet.sc D N (Sheet.legs JO)) n k V B V' 0 0):=Lib.hid ⟨V,htab,.start hfl hB0 hbd⟩;clear htab hfl hbd hB hB2 HTK;go_upto_block 8 with fail
     clear c0 c2 t1;refine wp_block ?_;go_loopw [16] (fun i wr=>∃ a:Nat,i = .int .i64 (a:Nat) /\ a <= n /\ Aft W0 wr /\ Hid (∃ V',TabZ W0 T n G C V' wr /\ Sheet.FlI (Sheet.sc D N (Sheet.legs JO)) n k V B V' a 0)) (fun i _=>n - (intOf i).toNat)
     case atStart=>exact ⟨0,rfl,by omega,HXK.out,HI0⟩
     case round =>
      rename World=>wi
      clear HI0 HXK;obtain ⟨a0,rfl,ha,hw,HTA⟩:=hrel;have HXI:=Lib.hid hw;clear hw;have c0:wi.cell? ⟨s,0,none⟩ = some (.int .i64 (n:Int)):=by rw [<- HNN.out];exact ((HF0.out.later HXI.out).nth 0 rfl).cell 0
      have c2:=((HF0.out.later HXI.out).nth 0 rfl).lt;by_cases han:a0 < n
      ·have t1:decide (a0 < n) = true:=by simpa using han
       go_upto_block 10 with fail
       clear c0 c2 t1;refine wp_block ?_;go_loopw [17] (fun i wr=>∃ b:Nat,i = .int .i64 (b:Nat) /\ b <= n /\ Aft W0 wr /\ Hid (∃ V',TabZ W0 T n G C V' wr /\ Sheet.FlI (Sheet.sc D N (Sheet.legs JO)) n k V B V' a0 b)) (fun i _=>n - (intOf i).toNat)
       case atStart=>exact ⟨0,rfl,by omega,HXI.out,HTA⟩
       case round =>
        clear HTA HXI;obtain ⟨b0,rfl,hb,hw,HTB⟩:=hrel;have HXB:=Lib.hid hw;clear hw;have c0:wr.cell? ⟨s,0,none⟩ = some (.int .i64 (n:Int)):=by rw [<- HNN.out];exact ((HF0.out.later HXB.out).nth 0 rfl).cell 0
        have c2:=((HF0.out.later HXB.out).nth 0 rfl).lt;by_cases hbn:b0 < n
        ·have t1:decide (b0 < n) = true:=by simpa using hbn
         obtain ⟨V',htab,hfi⟩:=HTB.out;have HTAB:=Lib.hid htab;have HFI:=Lib.hid hfi;have sx:=fun h=>hfi.sum HEI.out HNEG.out HEM.out (by decide) hkn (a:=a0) (b:=k) han hkn h
         have sy:=fun h=>hfi.sum HEI.out HNEG.out HEM.out (by decide) hkn (a:=k) (b:=b0) hkn hbn h
         have hkeep:=fun h=>hfi.keep han hbn hkn h
         have hput:=fun h1 h2=>hfi.put (by omega) han hbn hkn h1 h2
         have d0:=htab.tcell han;have d1:=htab.tcell hkn;have d2:=htab.lt;have d3:=htab.cell han hkn;have d4:=htab.cell hkn hbn;have d6:=(htab.row a0 han).2.2.lt;have d7:=(htab.row k hkn).2.2.lt;have d8:=fun W (h:TabZ W0 T n G C V' W)=>h.cell han hbn
         have d9:=fun W (h:TabZ W0 T n G C V' W)=>h.cell han hkn
         have d10:=fun W (h:TabZ W0 T n G C V' W)=>h.cell hkn hbn
         obtain ⟨x,hx⟩:∃ x,V' a0 k = x:=⟨_,rfl⟩;obtain ⟨y,hy⟩:∃ y,V' k b0 = y:=⟨_,rfl⟩;obtain ⟨z,hz⟩:∃ z,V' a0 b0 = z:=⟨_,rfl⟩;rw [hx] at sx hkeep hput d3 d9;rw [hy] at sy hkeep hput d4 d10;rw [hz] at hput d8;have HK:=Lib.hid hkeep;have HP:=Lib.hid hput;have HD:=Lib.hid (And.intro d8 (And.intro d9 d10));have ia:(0:Int) <= (a0:Int) /\ (a0:Int) < (n:Int):=by omega
         have ib:(0:Int) <= (b0:Int) /\ (b0:Int) < (n:Int):=by omega
         have ik:(0:Int) <= (k:Int) /\ (k:Int) < (n:Int):=by omega
         clear htab hfi hkeep hput d8 d9 d10 hx hy hz HTB;by_cases hxe:x < 1000000000000000000
         ·have tx:decide (x < 1000000000000000000) = true:=by simpa using hxe
          by_cases hye:y < 1000000000000000000
          ·have ty:decide (y < 1000000000000000000) = true:=by simpa using hye
           have hx2:=sx hxe;have hy2:=sy hye;have HP2:=Lib.hid (HP.out hxe hye);have hwxy:IntKind.i64.wrap (x + y) = x + y:=IntWalk.i64_in _ (by omega);obtain ⟨mv,hmv⟩:∃ m,(if x + y < z then x + y else z) = m:=⟨_,rfl⟩;have hmv2:Sheet.mn z (x + y) = mv:=hmv;rw [hmv2] at HP2;clear sx sy HK HP hx2 hy2 hmv2;go_upto_region 33 with fail
           clear c0 c2 t1 d0 d1 d2 d3 d4 tx ty;have hh0:TabZ W0 T n G C V' wr.drew:=HTAB.out.later (Aft.drew _);refine wp_region_valsT (by kernel_rfl) 28 157 rfl (by kernel_rfl) (by kernel_rfl) (by kernel_rfl) [.slice (some ⟨T,0,none⟩) n cT,.int .i64 (a0:Nat),.pointer (some ⟨T,a0,none⟩),.slice (some ⟨G a0,0,none⟩) n (C a0),.int .i64 (b0:Nat),.slice (some ⟨T,0,none⟩) n cT,.int .i64 (a0:Nat),.pointer (some ⟨T,a0,none⟩),.slice (some ⟨G a0,0,none⟩) n (C a0),.int .i64 (b0:Nat),.pointer (some ⟨G a0,b0,none⟩),.int .i64 z,.slice (some ⟨T,0,none⟩) n cT,.int .i64 (a0:Nat),.pointer (some ⟨T,a0,none⟩),.slice (some ⟨G a0,0,none⟩) n (C a0),.int .i64 (k:Nat),.pointer (some ⟨G a0,k,none⟩),.int .i64 x,.slice (some ⟨T,0,none⟩) n cT,.int .i64 (k:Nat),.pointer (some ⟨T,k,none⟩),.slice (some ⟨G k,0,none⟩) n (C k),.int .i64 (b0:Nat),.pointer (some ⟨G k,b0,none⟩),.int .i64 y,.int .i64 (x + y),.int .i64 mv] rfl (fun _ W=>TabZ W0 T n G C V' W) (hh0) ?st3 ?fi3
           case st3 =>
            intro i o v ho hv
            match i,ho,hv with
            | 0,ho,hv =>
             cases ho;cases hv;refine .inl ⟨rfl,fun done a W hd hp hk hw K hK=>?_⟩;have e7:=hk.same 7 (by decide);exact op_val (by simp [go_sem,ev' e7]) (hK _ hw)
            | 1,ho,hv =>
             cases ho;cases hv;refine .inl ⟨rfl,fun done a W hd hp hk hw K hK=>?_⟩;have e16:=hk.same 16 (by decide);exact op_val (by simp [go_sem,ev' e16]) (hK _ hw)
            | 2,ho,hv =>
             cases ho;cases hv;refine .inl ⟨rfl,fun done a W hd hp hk hw K hK=>?_⟩;have e127:=hk.at_ 0 _ 127 _ rfl (by decide) _ rfl rfl rfl;have e128:=hk.at_ 1 _ 128 _ rfl (by decide) _ rfl rfl rfl;exact op_val (by simp [go_sem,ev' e127,ev' e128,ia]) (hK _ hw)
            | 3,ho,hv =>
             cases ho;cases hv;refine .inl ⟨rfl,fun done a W hd hp hk hw K hK=>?_⟩;have e129:=hk.at_ 2 _ 129 _ rfl (by decide) _ rfl rfl rfl;exact op_val (by simp [go_sem,ev' e129,hw.tcell han]) (hK _ hw)
            | 4,ho,hv =>
             cases ho;cases hv;refine .inl ⟨rfl,fun done a W hd hp hk hw K hK=>?_⟩;have e17:=hk.same 17 (by decide);exact op_val (by simp [go_sem,ev' e17]) (hK _ hw)
            | 5,ho,hv =>
             cases ho;cases hv;refine .inl ⟨rfl,fun done a W hd hp hk hw K hK=>?_⟩;have e7:=hk.same 7 (by decide);exact op_val (by simp [go_sem,ev' e7]) (hK _ hw)
            | 6,ho,hv =>
             cases ho;cases hv;refine .inl ⟨rfl,fun done a W hd hp hk hw K hK=>?_⟩;have e16:=hk.same 16 (by decide);exact op_val (by simp [go_sem,ev' e16]) (hK _ hw)
            | 7,ho,hv =>
             cases ho;cases hv;refine .inl ⟨rfl,fun done a W hd hp hk hw K hK=>?_⟩;have e132:=hk.at_ 5 _ 132 _ rfl (by decide) _ rfl rfl rfl;have e133:=hk.at_ 6 _ 133 _ rfl (by decide) _ rfl rfl rfl;exact op_val (by simp [go_sem,ev' e132,ev' e133,ia]) (hK _ hw)
            | 8,ho,hv =>
             cases ho;cases hv;refine .inl ⟨rfl,fun done a W hd hp hk hw K hK=>?_⟩;have e134:=hk.at_ 7 _ 134 _ rfl (by decide) _ rfl rfl rfl;exact op_val (by simp [go_sem,ev' e134,hw.tcell han]) (hK _ hw)
            | 9,ho,hv =>
             cases ho;cases hv;refine .inl ⟨rfl,fun done a W hd hp hk hw K hK=>?_⟩;have e17:=hk.same 17 (by decide);exact op_val (by simp [go_sem,ev' e17]) (hK _ hw)
            | 10,ho,hv =>
             cases ho;cases hv;refine .inl ⟨rfl,fun done a W hd hp hk hw K hK=>?_⟩;have e135:=hk.at_ 8 _ 135 _ rfl (by decide) _ rfl rfl rfl;have e136:=hk.at_ 9 _ 136 _ rfl (by decide) _ rfl rfl rfl;exact op_val (by simp [go_sem,ev' e135,ev' e136,ib]) (hK _ hw)
            | 11,ho,hv =>
             cases ho;cases hv;refine .inl ⟨rfl,fun done a W hd hp hk hw K hK=>?_⟩;have e137:=hk.at_ 10 _ 137 _ rfl (by decide) _ rfl rfl rfl;exact op_val (by simp [go_sem,ev' e137,HD.out.1 W hw]) (hK _ hw)
            | 12,ho,hv =>
             cases ho;cases hv;refine .inl ⟨rfl,fun done a W hd hp hk hw K hK=>?_⟩;have e7:=hk.same 7 (by decide);exact op_val (by simp [go_sem,ev' e7]) (hK _ hw)
            | 13,ho,hv =>
             cases ho;cases hv;refine .inl ⟨rfl,fun done a W hd hp hk hw K hK=>?_⟩;have e16:=hk.same 16 (by decide);exact op_val (by simp [go_sem,ev' e16]) (hK _ hw)
            | 14,ho,hv =>
             cases ho;cases hv;refine .inl ⟨rfl,fun done a W hd hp hk hw K hK=>?_⟩;have e139:=hk.at_ 12 _ 139 _ rfl (by decide) _ rfl rfl rfl;have e140:=hk.at_ 13 _ 140 _ rfl (by decide) _ rfl rfl rfl;exact op_val (by simp [go_sem,ev' e139,ev' e140,ia]) (hK _ hw)
            | 15,ho,hv =>
             cases ho;cases hv;refine .inl ⟨rfl,fun done a W hd hp hk hw K hK=>?_⟩;have e141:=hk.at_ 14 _ 141 _ rfl (by decide) _ rfl rfl rfl;exact op_val (by simp [go_sem,ev' e141,hw.tcell han]) (hK _ hw)
            | 16,ho,hv =>
             cases ho;cases hv;refine .inl ⟨rfl,fun done a W hd hp hk hw K hK=>?_⟩;have e15:=hk.same 15 (by decide);exact op_val (by simp [go_sem,ev' e15]) (hK _ hw)
            | 17,ho,hv =>
             cases ho;cases hv;refine .inl ⟨rfl,fun done a W hd hp hk hw K hK=>?_⟩;have e142:=hk.at_ 15 _ 142 _ rfl (by decide) _ rfl rfl rfl;have e143:=hk.at_ 16 _ 143 _ rfl (by decide) _ rfl rfl rfl;exact op_val (by simp [go_sem,ev' e142,ev' e143,ik]) (hK _ hw)
            | 18,ho,hv =>
             cases ho;cases hv;refine .inl ⟨rfl,fun done a W hd hp hk hw K hK=>?_⟩;have e144:=hk.at_ 17 _ 144 _ rfl (by decide) _ rfl rfl rfl;exact op_val (by simp [go_sem,ev' e144,HD.out.2.1 W hw]) (hK _ hw)
            | 19,ho,hv =>
             cases ho;cases hv;refine .inl ⟨rfl,fun done a W hd hp hk hw K hK=>?_⟩;have e7:=hk.same 7 (by decide);exact op_val (by simp [go_sem,ev' e7]) (hK _ hw)
            | 20,ho,hv =>
             cases ho;cases hv;refine .inl ⟨rfl,fun done a W hd hp hk hw K hK=>?_⟩;have e15:=hk.same 15 (by decide);exact op_val (by simp [go_sem,ev' e15]) (hK _ hw)
            | 21,ho,hv =>
             cases ho;cases hv;refine .inl ⟨rfl,fun done a W hd hp hk hw K hK=>?_⟩;have e146:=hk.at_ 19 _ 146 _ rfl (by decide) _ rfl rfl rfl;have e147:=hk.at_ 20 _ 147 _ rfl (by decide) _ rfl rfl rfl;exact op_val (by simp [go_sem,ev' e146,ev' e147,ik]) (hK _ hw)
            | 22,ho,hv =>
             cases ho;cases hv;refine .inl ⟨rfl,fun done a W hd hp hk hw K hK=>?_⟩;have e148:=hk.at_ 21 _ 148 _ rfl (by decide) _ rfl rfl rfl;exact op_val (by simp [go_sem,ev' e148,hw.tcell hkn]) (hK _ hw)
            | 23,ho,hv =>
             cases ho;cases hv;refine .inl ⟨rfl,fun done a W hd hp hk hw K hK=>?_⟩;have e17:=hk.same 17 (by decide);exact op_val (by simp [go_sem,ev' e17]) (hK _ hw)
            | 24,ho,hv =>
             cases ho;cases hv;refine .inl ⟨rfl,fun done a W hd hp hk hw K hK=>?_⟩;have e149:=hk.at_ 22 _ 149 _ rfl (by decide) _ rfl rfl rfl;have e150:=hk.at_ 23 _ 150 _ rfl (by decide) _ rfl rfl rfl;exact op_val (by simp [go_sem,ev' e149,ev' e150,ib]) (hK _ hw)
            | 25,ho,hv =>
             cases ho;cases hv;refine .inl ⟨rfl,fun done a W hd hp hk hw K hK=>?_⟩;have e151:=hk.at_ 24 _ 151 _ rfl (by decide) _ rfl rfl rfl;exact op_val (by simp [go_sem,ev' e151,HD.out.2.2 W hw]) (hK _ hw)
            | 26,ho,hv =>
             cases ho;cases hv;refine .inl ⟨rfl,fun done a W hd hp hk hw K hK=>?_⟩;have e145:=hk.at_ 18 _ 145 _ rfl (by decide) _ rfl rfl rfl;have e152:=hk.at_ 25 _ 152 _ rfl (by decide) _ rfl rfl rfl;exact op_val (by simp [go_sem,ev' e145,ev' e152,hwxy]) (hK _ hw)
            | 27,ho,hv =>
             cases ho;cases hv;refine .inl ⟨rfl,fun done a W hd hp hk hw K hK=>?_⟩;have e138:=hk.at_ 11 _ 138 _ rfl (by decide) _ rfl rfl rfl;have e153:=hk.at_ 26 _ 153 _ rfl (by decide) _ rfl rfl rfl;exact op_val (by simp [go_sem,ev' e138,ev' e153,hmv]) (hK _ hw)
            | _ + 28,_,hv=>cases hv
           intro done W hd hw;simp only [List.drop_succ_cons,List.drop_zero,List.zip_cons_cons,List.zip_nil_right,putAll];simp only [Act.put,List.setIfInBounds_toArray,List.set];clear hd;have HW1:=Lib.hid hw;have c0:=HD.out.1 W hw;have c1:=(hw.row a0 han).2.2.frozen b0;have c2:=(hw.row a0 han).2.2.lt;have hgw:W0.heap.size <= G a0:=(hw.row a0 han).1;clear hw;go_wp2_with fail
           exact ⟨⟨b0 + 1,by go_num,by omega,HW1.out.aft.then_setCell (p:=⟨G a0,b0,none⟩) hgw _,Lib.hid ⟨_,HW1.out.put han b0 mv,HP2.out⟩⟩,by simp [intOf];omega⟩
          ·have ty:decide (y < 1000000000000000000) = false:=by simpa using hye
           have HK2:=Lib.hid (HK.out fun h=>hye h.2);clear sx sy HK HP;go_wp2_with fail
           exact ⟨⟨b0 + 1,by go_num,by omega,HXB.out,Lib.hid ⟨_,HTAB.out,HK2.out⟩⟩,by simp [intOf];omega⟩
         ·have tx:decide (x < 1000000000000000000) = false:=by simpa using hxe
          have HK2:=Lib.hid (HK.out fun h=>hxe h.1);clear sx sy HK HP;go_wp2_with fail
          exact ⟨⟨b0 + 1,by go_num,by omega,HXB.out,Lib.hid ⟨_,HTAB.out,HK2.out⟩⟩,by simp [intOf];omega⟩
        ·have t1:decide (b0 < n) = false:=by simpa using hbn
         have eb:b0 = n:=by omega
         subst eb;have HN1:Hid (∃ V',TabZ W0 T b0 G C V' wr /\ Sheet.FlI (Sheet.sc D N (Sheet.legs JO)) b0 k V B V' (a0 + 1) 0):=Lib.hid (let ⟨V',h1,h2⟩:=HTB.out;⟨V',h1,h2.row⟩);go_wp2_with fail
         exact ⟨⟨a0 + 1,by go_num,by omega,HXB.out,HN1⟩,by simp [intOf];omega⟩
      ·have t1:decide (a0 < n) = false:=by simpa using han
       have ea:a0 = n:=by omega
       subst ea;have HN1:Hid (∃ V',TabZ W0 T a0 G C V' wi /\ Sheet.Fl (Sheet.sc D N (Sheet.legs JO)) a0 (k + 1) (fun a b=>Sheet.optE (V' a b)) /\ ∀ a b,a < a0 -> b < a0 -> V' a b < 1000000000000000000 -> V' a b <= 2000000000 * 2 ^ (k + 1)):=Lib.hid (by
        obtain ⟨V',h1,h2⟩:=HTA.out;exact ⟨V',h1,h2.next HFL.out (by omega) HNEG.out hkn HBD.out,fun a b h3 h4 h5=>by rw [HB2.out];exact h2.bnd a b h3 h4 h5⟩)
       go_wp2_with fail
       exact ⟨⟨k + 1,by go_num,by omega,HXI.out,HN1⟩,by simp [intOf];omega⟩
    ·have t1:decide (k < n) = false:=by simpa using hkn
     have ek:k = n:=by omega
     subst ek;obtain ⟨V,htab,hfl,-⟩:=HTK.out;have HR:=Lib.hid (And.intro htab (fun a b ha hb=>hfl.dist HEI.out (a:=a) (b:=b) ha hb));clear htab hfl HTK;go_wp2_with fail
     exact bodyPost_ret (v:=.slice (some ⟨T,0,none⟩) k cT) (by simp [results,Tryz.results49,go_sem]) rfl ⟨T,cT,G,C,V,rfl,HR.out.1.base HF0.out.aft,HR.out.2⟩
end Go.Proofs
end
section
/- Words for the reference's Between. -/
namespace Go.Proofs
open Go.RowKit
theorem prodc {x y:Int} (h1:0 <= x) (h2:x <= 1000000000) (h3:0 <= y) (h4:y <= 1000):-9223372036854775808 <= x * y /\ x * y <= 9223372036854775807:=by
 have a1:=Int.mul_le_mul_of_nonneg_right h2 h3;have a2:=Int.mul_nonneg h1 h3;omega
theorem dist_ends {S:SetL} (hS:SetOk S) {N D:Int} (hk:PlayOk N D) {north:Bool} {a b:Nat} {v:Int} (hd:Sheet.Dist (Sheet.sc D N (Sheet.legs (joOf north S.J))) a b (Sheet.optE v)) (hw:∃ k s,Sheet.Wk (Sheet.legs (joOf north S.J)) a b k s) (hm:Sheet.AtMost (Sheet.legs (joOf north S.J)) N D) :
  (-24000000000 <= v /\ v <= 24000000000) /\ Sheet.Dist (Sheet.sc D N (Sheet.legs (joOf north S.J))) a b (some v):=by
 obtain ⟨k,s,h1⟩:=hw;obtain ⟨m,h2,-⟩:=hd.2 k _ (h1.sc (D:=D) (N:=N));obtain ⟨h3,rfl⟩:=Sheet.optE_some.1 h2;rw [h2] at hd;have hn1:=hS.n1;have hn2:=hS.n2
 have h4:=Sheet.dist_small (M:=2000000000) (hS.ok north).in_sc (by omega) ((Sheet.noNeg_iff (Sheet.legs_sym _)).2 hm) (fun a b w he=>by
  obtain ⟨w',h1,rfl⟩:=Sheet.mem_sc he;obtain ⟨g,g1,g2,g3,g4⟩:=Sheet.mem_leg h1;have:=wt_le (north:=north) hS hk (g:=g) (by simpa [joOf] using g1);unfold Sheet.wt at this;rw [g4] at this;exact this) (by decide) hd
 exact ⟨by omega,hd⟩
theorem TabZ.tabR {w W:World} {T n:Nat} {G C:Nat -> Nat} {V:Nat -> Nat -> Int} (h:TabZ w T n G C V W):TabR T n n G C V W:=⟨h.top,fun i hi=>(h.row i hi).2.2⟩
theorem TabR.far {W:World} {T R n:Nat} {G C:Nat -> Nat} {V:Nat -> Nat -> Int} (h:TabR T R n G C V W) {b:Nat} (hT:b ≠ T) (hG:∀ i,i < R -> b ≠ G i) (i:Nat) (u:Value):TabR T R n G C V (W.setCell ⟨b,i,none⟩ u) :=
 ⟨let ⟨cs,h1,h2⟩:=h.top;⟨cs,h1.far (p:=⟨b,i,none⟩) (Ne.symm hT) u,h2⟩,fun j hj=>(h.row j hj).far (p:=⟨b,i,none⟩) (Ne.symm (hG j hj)) u⟩
def sto4 (W:World) (g i:Nat) (v0 v1 v2 v3:Value):World:=(((W.setCell ⟨g,i,none⟩ v0).setCell ⟨g,i + 1,none⟩ v1).setCell ⟨g,i + 2,none⟩ v2).setCell ⟨g,i + 3,none⟩ v3
theorem Fr.sto4 {w W:World} {B:Nat} {bs bs':List (Nat × TypeId × Array Value)} (h:Fr w B bs W) {g:Nat} {t:TypeId} {cs cs':Array Value} (hx:(g,t,cs) ∈ bs) (i:Nat) (v0 v1 v2 v3:Value)
  (hcs:cs' = (((cs.setIfInBounds i v0).setIfInBounds (i + 1) v1).setIfInBounds (i + 2) v2).setIfInBounds (i + 3) v3) (hs:∀ x ∈ bs',x = (g,t,cs') \/ (x ∈ bs /\ x.1 ≠ g)):Fr w B bs' (Go.Proofs.sto4 W g i v0 v1 v2 v3):=by
 obtain ⟨k1,k2,k3⟩:=h.blks _ hx;unfold Go.Proofs.sto4;refine ⟨(((h.aft.then_setCell (p:=⟨g,i,none⟩) k2 v0).then_setCell (p:=⟨g,i + 1,none⟩) k2 v1).then_setCell (p:=⟨g,i + 2,none⟩) k2 v2).then_setCell (p:=⟨g,i + 3,none⟩) k2 v3,fun x hx'=>?_,by have:=h.size;simpa [World.setCell] using this,h.ge⟩;rcases hs x hx' with rfl | ⟨h1,h2⟩
 ·refine ⟨k1,k2,?_⟩;rw [hcs];exact (((k3.store i v0).store (i + 1) v1).store (i + 2) v2).store (i + 3) v3
 ·obtain ⟨j1,j2,j3⟩:=h.blks _ h1;exact ⟨j1,j2,(((j3.far (p:=⟨g,i,none⟩) h2 v0).far (p:=⟨g,i + 1,none⟩) h2 v1).far (p:=⟨g,i + 2,none⟩) h2 v2).far (p:=⟨g,i + 3,none⟩) h2 v3⟩
theorem TabR.sto4 {W:World} {T R n:Nat} {G C:Nat -> Nat} {V:Nat -> Nat -> Int} (h:TabR T R n G C V W) {b:Nat} (hT:b ≠ T) (hG:∀ i,i < R -> b ≠ G i) (i:Nat) (v0 v1 v2 v3:Value):TabR T R n G C V (Go.Proofs.sto4 W b i v0 v1 v2 v3) :=
 (((h.far hT hG i v0).far hT hG (i + 1) v1).far hT hG (i + 2) v2).far hT hG (i + 3) v3
end Go.Proofs
end
