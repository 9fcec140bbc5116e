/- Own texts, merged: Ra Rb. -/
import Derived.Test.YthegmhnaiabcpaaGreatF14
set_option linter.unusedSimpArgs false
set_option linter.unusedVariables false
set_option linter.unnecessarySimpa false
section
/- Walks: number,lowest,more,wrong of the reference. -/
namespace Go.Proofs
open Go.RowKit
attribute [local go_sem] Oper.semAt_some
set_option maxRecDepth 100000 in
set_option maxHeartbeats 1000000 in
theorem refNumber_any (j:Q4) (north:Bool) (w:World) :
  Calls Tryz.prog 41 #[.agg #[.int .i64 j.a,.int .i64 j.b,.int .i64 j.x,.int .i64 j.y],.bool north] w fun e w'=>e = .returned (.int .i64 (way1 north j)) /\ Aft w w':=by
 have HA:=Lib.hid (Aft.alloc w (.cells #[.int .i64 j.a,.int .i64 j.b,.int .i64 j.x,.int .i64 j.y] 90));have HB:=Lib.hid (Blk.new w 90 #[.int .i64 j.a,.int .i64 j.b,.int .i64 j.x,.int .i64 j.y]);cases north
 ·show Calls Tryz.prog 41 _ w fun e w'=>e = .returned (.int .i64 j.x) /\ Aft w w'
  go_enter Tryz.func41,Tryz.ntmps41;go_wp2_with fail
  go_ret;exact ⟨rfl,HA.out⟩
 ·show Calls Tryz.prog 41 _ w fun e w'=>e = .returned (.int .i64 j.y) /\ Aft w w'
  go_enter Tryz.func41,Tryz.ntmps41;go_wp2_with fail
  go_ret;exact ⟨rfl,HA.out⟩
set_option maxRecDepth 100000 in
set_option maxHeartbeats 2000000 in
theorem lowest_pos (n d:Int) (w:World) (hdd:0 < d) (hd2:d <= 1000000000000000000) (hn:-1000000000000000000 <= n /\ n <= 1000000000000000000) (hs0:0 <= n) :
  Calls Tryz.prog 42 #[.int .i64 n,.int .i64 d] w fun e w'=>e = .returned (.agg #[.int .i64 (Sheet.low n d).1,.int .i64 (Sheet.low n d).2]) /\ Aft w w':=by
 obtain ⟨dn,rfl⟩:∃ dn:Nat,d = dn:=⟨d.toNat,by omega⟩;obtain ⟨N0,hN0⟩:∃ N0,n.natAbs = N0:=⟨_,rfl⟩;have hab:n = (N0:Int):=by omega
 have hN1:N0 <= 1000000000000000000:=by omega
 have HL:=Lib.hid (low_gcd n dn (by omega));rw [hN0] at HL;have HAB:=Lib.hid hab;obtain ⟨q1,hq1⟩:∃ q,(Sheet.low n dn).1 = q:=⟨_,rfl⟩;obtain ⟨q2,hq2⟩:∃ q,(Sheet.low n dn).2 = q:=⟨_,rfl⟩;rw [hq1,hq2] at HL ⊢;have t0:decide (n < 0) = false:=by simp;omega
 clear hab hN0 hq1 hq2 hs0;go_enter Tryz.func42,Tryz.ntmps42;go_upto_block 0 with fail
 have HB0:=Lib.hid (Blk.new w 29 #[.int .i64 0,.int .i64 0]);have HA0:=Lib.hid (Aft.alloc w (.cells #[.int .i64 0,.int .i64 0] 29));generalize w.alloc (.cells #[.int .i64 0,.int .i64 0] 29) = W1 at *;obtain ⟨s,hs⟩:∃ s,w.heap.size = s:=⟨_,rfl⟩;rw [hs] at HB0 ⊢;clear t0;refine wp_block ?_;go_loopw [5,6] (fun x y wr=>∃ a b:Nat,x = .int .i64 (a:Nat) /\ y = .int .i64 (b:Nat) /\ a <= 1000000000000000000 /\ b <= 1000000000000000000 /\ Hid (Nat.gcd a b = Nat.gcd N0 dn) /\ Aft w wr /\ Blk wr s 29 #[.int .i64 0,.int .i64 0]) (fun _ y _=>(intOf y).toNat)
 case atStart=>exact ⟨dn,N0,rfl,congrArg (Value.int .i64) HAB.out,by omega,hN1,Lib.hid (Nat.gcd_comm _ _),HA0.out,HB0.out⟩
 case round =>
  obtain ⟨aa,bb,rfl,rfl,ha,hb,HG,haw,hbw⟩:=hrel;have HAW:=Lib.hid haw;have HBW:=Lib.hid hbw;clear haw hbw HA0 HB0;by_cases hb0:0 < bb
  ·have t1:decide ((0:Int) < (bb:Int)) = true:=by simp;omega
   have hm:(aa:Int) % (bb:Int) = ((aa % bb:Nat):Int):=by simp
   have htm:Int.tmod (aa:Int) (bb:Int) = ((aa % bb:Nat):Int):=by rw [Int.tmod_eq_emod_of_nonneg (by omega)];simp
   have hlt:aa % bb < bb:=Nat.mod_lt _ hb0;have HG2:Hid (Nat.gcd bb (aa % bb) = Nat.gcd N0 dn):=Lib.hid (by rw [<- HG.out,Nat.gcd_comm bb (aa % bb),<- Nat.gcd_rec bb aa,Nat.gcd_comm]);have hb0':((bb:Int) == 0) = false:=by simp;omega
   obtain ⟨r,hr⟩:∃ r,aa % bb = r:=⟨_,rfl⟩;rw [hr] at hm htm hlt HG2;clear hr;go_upto_region 5 with fail
   go_quiet (fail);go_wp2_with fail
   exact ⟨⟨bb,r,rfl,rfl,by omega,by omega,HG2,HAW.out.then_drewN nq,HBW.out.drewN nq⟩,by simp [intOf];omega⟩
  ·have eb:bb = 0:=by omega
   have t1:decide ((0:Int) < (bb:Int)) = false:=by simp;omega
   obtain ⟨hg0,hg1,hg2⟩:=HL.out aa (by have:=HG.out;rw [eb,Nat.gcd_zero_right] at this;rw [this];simp)
   have hab1:-1000000000000000000 <= q1 /\ q1 <= 1000000000000000000:=by
    have h1:=Int.natAbs_tdiv n aa;rw [hg1,Int.natAbs_natCast] at h1;have h2:n.natAbs.div aa <= n.natAbs:=Nat.div_le_self _ _;omega
   have hab2:-1000000000000000000 <= q2 /\ q2 <= 1000000000000000000:=by
    have h1:=Int.natAbs_tdiv (dn:Int) aa;rw [hg2,Int.natAbs_natCast (n:=aa)] at h1;have h2:(dn:Int).natAbs.div aa <= (dn:Int).natAbs:=Nat.div_le_self _ _;omega
   have w1:IntKind.i64.wrap q1 = q1:=IntWalk.i64_in _ (by omega);have w2:IntKind.i64.wrap q2 = q2:=IntWalk.i64_in _ (by omega);have ha0:((aa:Int) == 0) = false:=by simp;omega
   have ha00:¬ ((aa:Int) = 0):=by omega
   have ha000:¬ (aa = 0):=by omega
   clear eb HG;go_upto_region 6 with fail
   refine wp_region_valsT (by kernel_rfl) 7 26 rfl (by kernel_rfl) (by kernel_rfl) (by kernel_rfl) [.int .i64 n,.int .i64 (aa:Nat),.int .i64 q1,.int .i64 (dn:Nat),.int .i64 (aa:Nat),.int .i64 q2,.agg #[.int .i64 q1,.int .i64 q2]] rfl (fun _ W=>Aft wr W) (Aft.drew _) ?st1 ?fi1
   case st1 =>
    intro i o v ho hv
    match i,ho,hv with
    | 0,ho,hv =>
     cases ho;cases hv;refine .inl ⟨rfl,fun done a W hd hp hk hw K hK=>?_⟩;have e0:=hk.same 0 (by decide);exact op_val (by simp [go_sem,ev' e0,e0]) (hK _ hw)
    | 1,ho,hv =>
     cases ho;cases hv;refine .inl ⟨rfl,fun done a W hd hp hk hw K hK=>?_⟩;have e5:=hk.same 5 (by decide);exact op_val (by simp [go_sem,ev' e5,e5]) (hK _ hw)
    | 2,ho,hv =>
     cases ho;cases hv;refine .inl ⟨rfl,fun done a W hd hp hk hw K hK=>?_⟩;have e19:=hk.at_ 0 _ 19 _ rfl (by decide) _ rfl rfl rfl;have e20:=hk.at_ 1 _ 20 _ rfl (by decide) _ rfl rfl rfl;exact op_val (by simp [go_sem,ev' e19,ev' e20,hg1,w1,ha0,ha00,ha000]) (hK _ hw)
    | 3,ho,hv =>
     cases ho;cases hv;refine .inl ⟨rfl,fun done a W hd hp hk hw K hK=>?_⟩;have e1:=hk.same 1 (by decide);exact op_val (by simp [go_sem,ev' e1]) (hK _ hw)
    | 4,ho,hv =>
     cases ho;cases hv;refine .inl ⟨rfl,fun done a W hd hp hk hw K hK=>?_⟩;have e5:=hk.same 5 (by decide);exact op_val (by simp [go_sem,ev' e5]) (hK _ hw)
    | 5,ho,hv =>
     cases ho;cases hv;refine .inl ⟨rfl,fun done a W hd hp hk hw K hK=>?_⟩;have e22:=hk.at_ 3 _ 22 _ rfl (by decide) _ rfl rfl rfl;have e23:=hk.at_ 4 _ 23 _ rfl (by decide) _ rfl rfl rfl;exact op_val (by simp [go_sem,ev' e22,ev' e23,hg2,w2,ha0,ha00,ha000]) (hK _ hw)
    | 6,ho,hv =>
     cases ho;cases hv;refine .inl ⟨rfl,fun done a W hd hp hk hw K hK=>?_⟩;have e21:=hk.at_ 2 _ 21 _ rfl (by decide) _ rfl rfl rfl;have e24:=hk.at_ 5 _ 24 _ rfl (by decide) _ rfl rfl rfl;exact op_val (by simp [go_sem,ev' e21,ev' e24]) (hK _ hw)
    | _ + 7,_,hv=>cases hv
   intro done W hd hw;simp only [List.drop_succ_cons,List.drop_zero,List.zip_cons_cons,List.zip_nil_right,putAll];simp only [Act.put,List.setIfInBounds_toArray,List.set];clear hd;have HW:=Lib.hid hw;have y1:=(HBW.out.aft hw).cell 0;have y2:=(HBW.out.aft hw).cell 1;have y3:=(HBW.out.aft hw).frozen 0;have y4:=(HBW.out.aft hw).frozen 1;have y5:=(HBW.out.aft hw).lt;have HB:=Lib.hid (HBW.out.aft hw);simp only [List.getElem?_toArray,List.getElem?_cons_zero,List.getElem?_cons_succ] at y1 y2;clear hw hg1 hg2 w1 w2 ha0 ha00 ha000;go_wp2_with fail
   have B2:=(HB.out.store 0 (.int .i64 q1)).store 1 (.int .i64 q2);have A2:=((HAW.out.trans HW.out).then_setCell (p:=⟨s,0,none⟩) (by show w.heap.size <= s;omega) (.int .i64 q1)).then_setCell (p:=⟨s,1,none⟩) (by show w.heap.size <= s;omega) (.int .i64 q2);generalize (W.setCell ⟨s,0,none⟩ (.int .i64 q1)).setCell ⟨s,1,none⟩ (.int .i64 q2) = X at *;have z0:X.cell? ⟨s,0,none⟩ = some (.int .i64 q1):=B2.cell 0;have z1:X.cell? ⟨s,1,none⟩ = some (.int .i64 q2):=B2.cell 1;exact bodyPost_ret (v:=.agg #[.int .i64 q1,.int .i64 q2]) (by simp [results,Tryz.results42,go_sem,z0,z1]) rfl ⟨rfl,A2⟩
set_option maxRecDepth 100000 in
set_option maxHeartbeats 2000000 in
theorem lowest_neg (n d:Int) (w:World) (hdd:0 < d) (hd2:d <= 1000000000000000000) (hn:-1000000000000000000 <= n /\ n <= 1000000000000000000) (hs0:n < 0) :
  Calls Tryz.prog 42 #[.int .i64 n,.int .i64 d] w fun e w'=>e = .returned (.agg #[.int .i64 (Sheet.low n d).1,.int .i64 (Sheet.low n d).2]) /\ Aft w w':=by
 obtain ⟨dn,rfl⟩:∃ dn:Nat,d = dn:=⟨d.toNat,by omega⟩;obtain ⟨N0,hN0⟩:∃ N0,n.natAbs = N0:=⟨_,rfl⟩;have hab:-n = (N0:Int):=by omega
 have hN1:N0 <= 1000000000000000000:=by omega
 have HL:=Lib.hid (low_gcd n dn (by omega));rw [hN0] at HL;have HAB:=Lib.hid hab;obtain ⟨q1,hq1⟩:∃ q,(Sheet.low n dn).1 = q:=⟨_,rfl⟩;obtain ⟨q2,hq2⟩:∃ q,(Sheet.low n dn).2 = q:=⟨_,rfl⟩;rw [hq1,hq2] at HL ⊢;have t0:decide (n < 0) = true:=by simp;omega
 clear hab hN0 hq1 hq2 hs0;go_enter Tryz.func42,Tryz.ntmps42;go_upto_block 0 with fail
 try rw [HAB.out]
 have HB0:=Lib.hid (Blk.new w 29 #[.int .i64 0,.int .i64 0]);have HA0:=Lib.hid (Aft.alloc w (.cells #[.int .i64 0,.int .i64 0] 29));generalize w.alloc (.cells #[.int .i64 0,.int .i64 0] 29) = W1 at *;obtain ⟨s,hs⟩:∃ s,w.heap.size = s:=⟨_,rfl⟩;rw [hs] at HB0 ⊢;clear t0;refine wp_block ?_;go_loopw [5,6] (fun x y wr=>∃ a b:Nat,x = .int .i64 (a:Nat) /\ y = .int .i64 (b:Nat) /\ a <= 1000000000000000000 /\ b <= 1000000000000000000 /\ Hid (Nat.gcd a b = Nat.gcd N0 dn) /\ Aft w wr /\ Blk wr s 29 #[.int .i64 0,.int .i64 0]) (fun _ y _=>(intOf y).toNat)
 case atStart=>exact ⟨dn,N0,rfl,rfl,by omega,hN1,Lib.hid (Nat.gcd_comm _ _),HA0.out,HB0.out⟩
 case round =>
  obtain ⟨aa,bb,rfl,rfl,ha,hb,HG,haw,hbw⟩:=hrel;have HAW:=Lib.hid haw;have HBW:=Lib.hid hbw;clear haw hbw HA0 HB0;by_cases hb0:0 < bb
  ·have t1:decide ((0:Int) < (bb:Int)) = true:=by simp;omega
   have hm:(aa:Int) % (bb:Int) = ((aa % bb:Nat):Int):=by simp
   have htm:Int.tmod (aa:Int) (bb:Int) = ((aa % bb:Nat):Int):=by rw [Int.tmod_eq_emod_of_nonneg (by omega)];simp
   have hlt:aa % bb < bb:=Nat.mod_lt _ hb0;have HG2:Hid (Nat.gcd bb (aa % bb) = Nat.gcd N0 dn):=Lib.hid (by rw [<- HG.out,Nat.gcd_comm bb (aa % bb),<- Nat.gcd_rec bb aa,Nat.gcd_comm]);have hb0':((bb:Int) == 0) = false:=by simp;omega
   obtain ⟨r,hr⟩:∃ r,aa % bb = r:=⟨_,rfl⟩;rw [hr] at hm htm hlt HG2;clear hr;go_upto_region 5 with fail
   go_quiet (fail);go_wp2_with fail
   exact ⟨⟨bb,r,rfl,rfl,by omega,by omega,HG2,HAW.out.then_drewN nq,HBW.out.drewN nq⟩,by simp [intOf];omega⟩
  ·have eb:bb = 0:=by omega
   have t1:decide ((0:Int) < (bb:Int)) = false:=by simp;omega
   obtain ⟨hg0,hg1,hg2⟩:=HL.out aa (by have:=HG.out;rw [eb,Nat.gcd_zero_right] at this;rw [this];simp)
   have hab1:-1000000000000000000 <= q1 /\ q1 <= 1000000000000000000:=by
    have h1:=Int.natAbs_tdiv n aa;rw [hg1,Int.natAbs_natCast] at h1;have h2:n.natAbs.div aa <= n.natAbs:=Nat.div_le_self _ _;omega
   have hab2:-1000000000000000000 <= q2 /\ q2 <= 1000000000000000000:=by
    have h1:=Int.natAbs_tdiv (dn:Int) aa;rw [hg2,Int.natAbs_natCast (n:=aa)] at h1;have h2:(dn:Int).natAbs.div aa <= (dn:Int).natAbs:=Nat.div_le_self _ _;omega
   have w1:IntKind.i64.wrap q1 = q1:=IntWalk.i64_in _ (by omega);have w2:IntKind.i64.wrap q2 = q2:=IntWalk.i64_in _ (by omega);have ha0:((aa:Int) == 0) = false:=by simp;omega
   have ha00:¬ ((aa:Int) = 0):=by omega
   have ha000:¬ (aa = 0):=by omega
   clear eb HG;go_upto_region 6 with fail
   refine wp_region_valsT (by kernel_rfl) 7 26 rfl (by kernel_rfl) (by kernel_rfl) (by kernel_rfl) [.int .i64 n,.int .i64 (aa:Nat),.int .i64 q1,.int .i64 (dn:Nat),.int .i64 (aa:Nat),.int .i64 q2,.agg #[.int .i64 q1,.int .i64 q2]] rfl (fun _ W=>Aft wr W) (Aft.drew _) ?st2 ?fi2
   case st2 =>
    intro i o v ho hv
    match i,ho,hv with
    | 0,ho,hv =>
     cases ho;cases hv;refine .inl ⟨rfl,fun done a W hd hp hk hw K hK=>?_⟩;have e0:=hk.same 0 (by decide);exact op_val (by simp [go_sem,ev' e0,e0]) (hK _ hw)
    | 1,ho,hv =>
     cases ho;cases hv;refine .inl ⟨rfl,fun done a W hd hp hk hw K hK=>?_⟩;have e5:=hk.same 5 (by decide);exact op_val (by simp [go_sem,ev' e5,e5]) (hK _ hw)
    | 2,ho,hv =>
     cases ho;cases hv;refine .inl ⟨rfl,fun done a W hd hp hk hw K hK=>?_⟩;have e19:=hk.at_ 0 _ 19 _ rfl (by decide) _ rfl rfl rfl;have e20:=hk.at_ 1 _ 20 _ rfl (by decide) _ rfl rfl rfl;exact op_val (by simp [go_sem,ev' e19,ev' e20,hg1,w1,ha0,ha00,ha000]) (hK _ hw)
    | 3,ho,hv =>
     cases ho;cases hv;refine .inl ⟨rfl,fun done a W hd hp hk hw K hK=>?_⟩;have e1:=hk.same 1 (by decide);exact op_val (by simp [go_sem,ev' e1]) (hK _ hw)
    | 4,ho,hv =>
     cases ho;cases hv;refine .inl ⟨rfl,fun done a W hd hp hk hw K hK=>?_⟩;have e5:=hk.same 5 (by decide);exact op_val (by simp [go_sem,ev' e5]) (hK _ hw)
    | 5,ho,hv =>
     cases ho;cases hv;refine .inl ⟨rfl,fun done a W hd hp hk hw K hK=>?_⟩;have e22:=hk.at_ 3 _ 22 _ rfl (by decide) _ rfl rfl rfl;have e23:=hk.at_ 4 _ 23 _ rfl (by decide) _ rfl rfl rfl;exact op_val (by simp [go_sem,ev' e22,ev' e23,hg2,w2,ha0,ha00,ha000]) (hK _ hw)
    | 6,ho,hv =>
     cases ho;cases hv;refine .inl ⟨rfl,fun done a W hd hp hk hw K hK=>?_⟩;have e21:=hk.at_ 2 _ 21 _ rfl (by decide) _ rfl rfl rfl;have e24:=hk.at_ 5 _ 24 _ rfl (by decide) _ rfl rfl rfl;exact op_val (by simp [go_sem,ev' e21,ev' e24]) (hK _ hw)
    | _ + 7,_,hv=>cases hv
   intro done W hd hw;simp only [List.drop_succ_cons,List.drop_zero,List.zip_cons_cons,List.zip_nil_right,putAll];simp only [Act.put,List.setIfInBounds_toArray,List.set];clear hd;have HW:=Lib.hid hw;have y1:=(HBW.out.aft hw).cell 0;have y2:=(HBW.out.aft hw).cell 1;have y3:=(HBW.out.aft hw).frozen 0;have y4:=(HBW.out.aft hw).frozen 1;have y5:=(HBW.out.aft hw).lt;have HB:=Lib.hid (HBW.out.aft hw);simp only [List.getElem?_toArray,List.getElem?_cons_zero,List.getElem?_cons_succ] at y1 y2;clear hw hg1 hg2 w1 w2 ha0 ha00 ha000;go_wp2_with fail
   have B2:=(HB.out.store 0 (.int .i64 q1)).store 1 (.int .i64 q2);have A2:=((HAW.out.trans HW.out).then_setCell (p:=⟨s,0,none⟩) (by show w.heap.size <= s;omega) (.int .i64 q1)).then_setCell (p:=⟨s,1,none⟩) (by show w.heap.size <= s;omega) (.int .i64 q2);generalize (W.setCell ⟨s,0,none⟩ (.int .i64 q1)).setCell ⟨s,1,none⟩ (.int .i64 q2) = X at *;have z0:X.cell? ⟨s,0,none⟩ = some (.int .i64 q1):=B2.cell 0;have z1:X.cell? ⟨s,1,none⟩ = some (.int .i64 q2):=B2.cell 1;exact bodyPost_ret (v:=.agg #[.int .i64 q1,.int .i64 q2]) (by simp [results,Tryz.results42,go_sem,z0,z1]) rfl ⟨rfl,A2⟩
theorem lowest_any (n d:Int) (w:World) (hd:0 < d) (hd2:d <= 1000000000000000000) (hn:-1000000000000000000 <= n /\ n <= 1000000000000000000) :
  Calls Tryz.prog 42 #[.int .i64 n,.int .i64 d] w fun e w'=>e = .returned (.agg #[.int .i64 (Sheet.low n d).1,.int .i64 (Sheet.low n d).2]) /\ Aft w w':=by
 by_cases h:n < 0
 ·exact lowest_neg n d w hd hd2 hn h
 ·exact lowest_pos n d w hd hd2 hn (by omega)
set_option maxRecDepth 100000 in
set_option maxHeartbeats 2000000 in
theorem more_any (a b c d:Int) (w:World) (h1:-9223372036854775808 <= a * d /\ a * d <= 9223372036854775807) (h2:-9223372036854775808 <= c * b /\ c * b <= 9223372036854775807) :
  Calls Tryz.prog 47 #[.agg #[.int .i64 a,.int .i64 b],.agg #[.int .i64 c,.int .i64 d]] w fun e w'=>e = .returned (.bool (decide (c * b < a * d))) /\ Aft w w':=by
 have HA:=Lib.hid ((Aft.alloc w (.cells #[.int .i64 a,.int .i64 b] 29)).then_alloc (.cells #[.int .i64 c,.int .i64 d] 29));obtain ⟨x,hx⟩:∃ x,a * d = x:=⟨_,rfl⟩;obtain ⟨y,hy⟩:∃ y,c * b = y:=⟨_,rfl⟩;rw [hx] at h1 ⊢;rw [hy] at h2 ⊢;have e1:IntKind.i64.wrap (a * d) = x:=by rw [hx];exact IntWalk.i64_in _ (by omega)
 have e2:IntKind.i64.wrap (c * b) = y:=by rw [hy];exact IntWalk.i64_in _ (by omega)
 clear hx hy;go_enter Tryz.func47,Tryz.ntmps47;go_wp2_with fail
 go_ret;exact ⟨rfl,HA.out⟩
set_option maxRecDepth 100000 in
set_option maxHeartbeats 2000000 in
theorem wrong_any (N D least:Int) (w:World) :
  Calls Tryz.prog 46 #[.agg #[.int .i64 N,.int .i64 D],.int .i64 least] w fun e w'=>e = .returned (.bool (!(fromB D 1 1000 && fromB N least 1000000000))) /\ Aft w w':=by
 have HA:=Lib.hid (Aft.alloc w (.cells #[.int .i64 N,.int .i64 D] 29));cases e1:fromB D 1 1000
 ·have F1:=Lib.hid e1;clear e1;go_enter Tryz.func46,Tryz.ntmps46;go_wp2_with (go_at_call 40;refine (outside_any _ _ _ _).mono ?_;rintro e w' ⟨rfl,rfl⟩;rw [F1.out])
  go_ret;exact ⟨rfl,HA.out⟩
 ·have F1:=Lib.hid e1;clear e1;obtain ⟨b2,e2⟩:∃ b,fromB N least 1000000000 = b:=⟨_,rfl⟩;have F2:=Lib.hid e2;rw [e2];clear e2;go_enter Tryz.func46,Tryz.ntmps46;go_wp2_with (go_at_call 40;refine (outside_any _ _ _ _).mono ?_;rintro e w' ⟨rfl,rfl⟩;first | rw [F1.out] | rw [F2.out])
  go_ret;exact ⟨rfl,HA.out⟩
end Go.Proofs
end
section
/- Walks: the reference's Check 39. -/
namespace Go.Proofs
open Go.RowKit
attribute [local go_sem] Oper.semAt_some
theorem okJ_bad (n a b x y:Int) (h:fromB a 0 (n - 1) = false \/ fromB b 0 (n - 1) = false \/ (a == b) = true):okJ n ⟨a,b,x,y⟩ = false:=by
 unfold okJ;rcases h with h | h | h
 ·rw [h];rfl
 ·rw [h,Bool.and_false];rfl
 ·have:(a != b) = false:=by rw [bne,h];rfl
  rw [this,Bool.and_false]
theorem okJ_fine (n a b x y:Int) (h1:fromB a 0 (n - 1) = true) (h2:fromB b 0 (n - 1) = true) (h3:(a == b) = false):okJ n ⟨a,b,x,y⟩ = true:=by
 unfold okJ;rw [h1,h2,bne,h3];rfl
theorem all_false {α:Type} {l:List α} {p:α -> Bool} {k:Nat} (hk:k < l.length) (h:p l[k] = false):l.all p = false:=by
 cases e:l.all p
 ·rfl
 ·rw [List.all_eq_true.1 e _ (List.getElem_mem hk)] at h;cases h
theorem all_take {α:Type} {l:List α} {p:α -> Bool} {k:Nat} (hk:k < l.length) (h:(l.take k).all p = true) (h2:p l[k] = true):(l.take (k + 1)).all p = true:=by
 rw [List.take_succ_eq_append_getElem hk,List.all_append,h];simp [h2]
set_option maxRecDepth 100000 in
set_option maxHeartbeats 4000000 in
theorem refCheck_any (S:SetL) (A:Option Addr) (c:Nat) (w:World) (hA:Quads w A S.J) :
  Calls Tryz.prog 39 #[.agg #[.int .i64 S.n,.slice A S.J.length c]] w fun e w'=>e = .returned (.int .i64 (setE S)) /\ Aft w w':=by
 obtain ⟨n,J⟩:=S;dsimp only at hA ⊢;obtain ⟨s,hs⟩:∃ s,w.heap.size = s:=⟨_,rfl⟩;obtain ⟨W1,hW1⟩:∃ W1,w.alloc (.cells #[.int .i64 n,.slice A J.length c] 37) = W1:=⟨_,rfl⟩;have HAF:=Lib.hid (hW1 ▸ Aft.alloc w (.cells #[.int .i64 n,.slice A J.length c] 37));have HB1:Hid (Blk W1 s 37 #[.int .i64 n,.slice A J.length c]):=Lib.hid (by rw [<- hW1,<- hs];exact Blk.new w 37 _);have HA:=Lib.hid (hA.aft HAF.out);have HW1:=Lib.hid hW1;have HS1:=Lib.hid hs;have h0:fromB n 1 12 = false \/ 40 < J.length -> setE ⟨n,J⟩ = 3:=setE_count (S:=⟨n,J⟩);have h2:fromB n 1 12 = true -> ¬ 40 < J.length -> J.all (okJ n) = false -> setE ⟨n,J⟩ = 2:=setE_arg (S:=⟨n,J⟩);have h4:fromB n 1 12 = true -> ¬ 40 < J.length -> J.all (okJ n) = true -> J.all numJ = false -> setE ⟨n,J⟩ = 4:=setE_value (S:=⟨n,J⟩);have h5:fromB n 1 12 = true -> ¬ 40 < J.length -> J.all (okJ n) = true -> J.all numJ = true -> setE ⟨n,J⟩ = 0:=setE_fine (S:=⟨n,J⟩);obtain ⟨E,hE⟩:∃ E,setE ⟨n,J⟩ = E:=⟨_,rfl⟩;rw [hE] at h0 h2 h4 h5 ⊢;have H0:=Lib.hid h0;have H2:=Lib.hid h2;have H4:=Lib.hid h4;have H5:=Lib.hid h5;clear h0 h2 h4 h5 hE hA hW1 hs;cases e1:fromB n 1 12
 ·have F1:=Lib.hid e1;have HR:=Lib.hid (H0.out (.inl e1));clear e1;go_enter Tryz.func39,Tryz.ntmps39;go_upto_region 1 with fail
  try rw [HS1.out]
  try rw [HW1.out]
  have c0:W1.cell? ⟨s,0,none⟩ = some (.int .i64 n):=HB1.out.cell 0;have c2:=HB1.out.lt;go_wp2_with (go_at_call 40;refine (outside_any _ _ _ _).mono ?_;rintro e w9 ⟨rfl,rfl⟩;rw [F1.out])
  obtain rfl:=HR.out;go_ret;exact ⟨rfl,HAF.out⟩
 have F1:=Lib.hid e1;by_cases hl:40 < J.length
 ·have t1:decide (40 < J.length) = true:=by simpa using hl
  have t1i:decide ((40:Int) < (J.length:Int)) = true:=by simp;omega
  have HR:=Lib.hid (H0.out (.inr hl));clear e1 hl;go_enter Tryz.func39,Tryz.ntmps39;go_upto_region 1 with fail
  try rw [HS1.out]
  try rw [HW1.out]
  have c0:W1.cell? ⟨s,0,none⟩ = some (.int .i64 n):=HB1.out.cell 0;have c1:W1.cell? ⟨s,1,none⟩ = some (.slice A J.length c):=HB1.out.cell 1;have c2:=HB1.out.lt;go_wp2_with (go_at_call 40;refine (outside_any _ _ _ _).mono ?_;rintro e w9 ⟨rfl,rfl⟩;rw [F1.out])
  obtain rfl:=HR.out;go_ret;exact ⟨rfl,HAF.out⟩
 have t1:decide (40 < J.length) = false:=by simpa using hl
 have t1i:decide ((40:Int) < (J.length:Int)) = false:=by simp;omega
 have hfew:J.length <= 40:=by omega
 have hn12:=fromB_iff.1 e1;have H2:=Lib.hid (H2.out e1 hl);have H4:=Lib.hid (H4.out e1 hl);have H5:=Lib.hid (H5.out e1 hl);clear e1 hl H0;go_enter Tryz.func39,Tryz.ntmps39;go_upto_region 1 with fail
 try rw [HS1.out]
 try rw [HW1.out]
 have c0:W1.cell? ⟨s,0,none⟩ = some (.int .i64 n):=HB1.out.cell 0;have c1:W1.cell? ⟨s,1,none⟩ = some (.slice A J.length c):=HB1.out.cell 1;have c2:=HB1.out.lt;go_upto_block 0 with (go_at_call 40;refine (outside_any _ _ _ _).mono ?_;rintro e w9 ⟨rfl,rfl⟩;rw [F1.out])
 clear t1 t1i c0 c1 c2;refine wp_block ?_;go_loopw [3] (fun i wr=>∃ k:Nat,i = .int .i64 (k:Nat) /\ k <= J.length /\ Hid ((J.take k).all (okJ n) = true) /\ Aft W1 wr) (fun i _=>J.length - (intOf i).toNat)
 case atStart=>exact ⟨0,rfl,by omega,Lib.hid (by simp),Aft.refl _⟩
 case round =>
  obtain ⟨k,rfl,hk,HT,hw1⟩:=hrel;have HX:=Lib.hid hw1;clear hw1;have c0:wr.cell? ⟨s,0,none⟩ = some (.int .i64 n):=(HB1.out.aft HX.out).cell 0;have c1:wr.cell? ⟨s,1,none⟩ = some (.slice A J.length c):=(HB1.out.aft HX.out).cell 1;have c2:=(HB1.out.aft HX.out).lt;by_cases hkl:k < J.length
  ·have t1:decide (k < J.length) = true:=by simpa using hkl
   obtain ⟨bl,ol,rfl,hbl,hcl⟩:=(HA.out.aft HX.out).at hkl;obtain ⟨x0,x1,x2,x3⟩:=hcl k hkl;have HBAD:Hid (okJ n J[k] = false -> E = 2):=Lib.hid fun h=>H2.out (all_false hkl h)
   have HN:Hid (okJ n J[k] = true -> (J.take (k + 1)).all (okJ n) = true):=Lib.hid fun h=>all_take hkl HT.out h
   obtain ⟨⟨ja,jb,jx,jy⟩,hj⟩:∃ j,J[k] = j:=⟨_,rfl⟩;rw [hj] at x0 x1 x2 x3 HBAD HN;dsimp only at x0 x1 x2 x3;clear hcl hj;obtain ⟨W2,hW2⟩:∃ W2,wr.alloc (.cells #[.int .i64 ja,.int .i64 jb,.int .i64 jx,.int .i64 jy] 90) = W2:=⟨_,rfl⟩;have ha2:=hW2 ▸ Aft.alloc wr (.cells #[.int .i64 ja,.int .i64 jb,.int .i64 jx,.int .i64 jy] 90);obtain ⟨z,hz⟩:∃ z,wr.heap.size = z:=⟨_,rfl⟩;have HB2:Hid (Blk W2 z 90 #[.int .i64 ja,.int .i64 jb,.int .i64 jx,.int .i64 jy]):=Lib.hid (by rw [<- hW2,<- hz];exact Blk.new wr _ _);have HX2:=Lib.hid (HX.out.trans ha2);go_upto_region 7 with fail
   try rw [hW2]
   try rw [hz]
   clear hW2 hz ha2 x0 x1 x2 x3 t1 c0 c1 c2;have c0:W2.cell? ⟨s,0,none⟩ = some (.int .i64 n):=(HB1.out.aft HX2.out).cell 0;have c2:=(HB1.out.aft HX2.out).lt;have d0:W2.cell? ⟨z,0,none⟩ = some (.int .i64 ja):=HB2.out.cell 0;have d1:W2.cell? ⟨z,1,none⟩ = some (.int .i64 jb):=HB2.out.cell 1;have d2:=HB2.out.lt;cases e1:fromB ja 0 (n - 1)
   ·have F2:=Lib.hid e1;have HR:=Lib.hid (HBAD.out (okJ_bad n ja jb jx jy (.inl e1)));clear e1 HBAD;go_wp2_with (go_at_call 40;refine (outside_any _ _ _ _).mono ?_;rintro e w9 ⟨rfl,rfl⟩;rw [F2.out])
    obtain rfl:=HR.out;go_ret;exact ⟨rfl,HAF.out.trans HX2.out⟩
   have F2:=Lib.hid e1;clear e1;cases e2:fromB jb 0 (n - 1)
   ·have F3:=Lib.hid e2;have HR:=Lib.hid (HBAD.out (okJ_bad n ja jb jx jy (.inr (.inl e2))));clear e2 HBAD;go_wp2_with (go_at_call 40;refine (outside_any _ _ _ _).mono ?_;rintro e w9 ⟨rfl,rfl⟩;first | rw [F2.out] | rw [F3.out])
    obtain rfl:=HR.out;go_ret;exact ⟨rfl,HAF.out.trans HX2.out⟩
   have F3:=Lib.hid e2;clear e2;cases e3:(ja == jb)
   ·have HN2:=Lib.hid (HN.out (okJ_fine n ja jb jx jy F2.out F3.out e3));clear HBAD;go_wp2_with (go_at_call 40;refine (outside_any _ _ _ _).mono ?_;rintro e w9 ⟨rfl,rfl⟩;first | rw [F2.out] | rw [F3.out])
    exact ⟨⟨k + 1,by go_num,by omega,HN2,HX2.out⟩,by simp [intOf];omega⟩
   ·have HR:=Lib.hid (HBAD.out (okJ_bad n ja jb jx jy (.inr (.inr e3))));clear HBAD;go_wp2_with (go_at_call 40;refine (outside_any _ _ _ _).mono ?_;rintro e w9 ⟨rfl,rfl⟩;first | rw [F2.out] | rw [F3.out])
    obtain rfl:=HR.out;go_ret;exact ⟨rfl,HAF.out.trans HX2.out⟩
  ·have t1:decide (k < J.length) = false:=by simpa using hkl
   have et:J.take k = J:=List.take_of_length_le (by omega);have ht:=HT.out;rw [et] at ht;have H4:=Lib.hid (H4.out ht);have H5:=Lib.hid (H5.out ht);clear et ht HT;go_upto_block 2 with fail
   clear c0 c1 c2 t1;refine wp_block ?_;go_loopw [5] (fun i wr3=>∃ k:Nat,i = .int .i64 (k:Nat) /\ k <= J.length /\ Hid ((J.take k).all numJ = true) /\ Aft W1 wr3) (fun i _=>J.length - (intOf i).toNat)
   case atStart=>exact ⟨0,rfl,by omega,Lib.hid (by simp),HX.out⟩
   case round =>
    clear hkl hk HX;obtain ⟨k,rfl,hk,HT,hw1⟩:=hrel;have HX:=Lib.hid hw1;clear hw1;have c1:wr.cell? ⟨s,1,none⟩ = some (.slice A J.length c):=(HB1.out.aft HX.out).cell 1;have c2:=(HB1.out.aft HX.out).lt;by_cases hkl:k < J.length
    ·have t1:decide (k < J.length) = true:=by simpa using hkl
     obtain ⟨bl,ol,rfl,hbl,hcl⟩:=(HA.out.aft HX.out).at hkl;obtain ⟨-,-,x2,x3⟩:=hcl k hkl;have HBAD:Hid (numJ J[k] = false -> E = 4):=Lib.hid fun h=>H4.out (all_false hkl h)
     have HN:Hid (numJ J[k] = true -> (J.take (k + 1)).all numJ = true):=Lib.hid fun h=>all_take hkl HT.out h
     obtain ⟨⟨ja,jb,jx,jy⟩,hj⟩:∃ j,J[k] = j:=⟨_,rfl⟩;rw [hj] at x2 x3 HBAD HN;dsimp only at x2 x3;clear hcl hj;have HIN:Hid (numJ ⟨ja,jb,jx,jy⟩ = (fromB jx (-1000000) 1000000 && fromB jy (-1000000) 1000000)):=Lib.hid rfl;cases e1:fromB jx (-1000000) 1000000
     ·have F2:=Lib.hid e1;rw [e1] at HIN;have HR:=Lib.hid (HBAD.out HIN.out);clear e1 HBAD;go_wp2_with (go_at_call 40;refine (outside_any _ _ _ _).mono ?_;rintro e w9 ⟨rfl,rfl⟩;rw [F2.out])
      obtain rfl:=HR.out;go_ret;exact ⟨rfl,HAF.out.trans HX.out⟩
     have F2:=Lib.hid e1;rw [e1] at HIN;clear e1;cases e2:fromB jy (-1000000) 1000000
     ·have F3:=Lib.hid e2;rw [e2] at HIN;have HR:=Lib.hid (HBAD.out HIN.out);clear e2 HBAD;go_wp2_with (go_at_call 40;refine (outside_any _ _ _ _).mono ?_;rintro e w9 ⟨rfl,rfl⟩;first | rw [F2.out] | rw [F3.out])
      obtain rfl:=HR.out;go_ret;exact ⟨rfl,HAF.out.trans HX.out⟩
     have F3:=Lib.hid e2;rw [e2] at HIN;have HN2:=Lib.hid (HN.out HIN.out);clear e2 HBAD;go_wp2_with (go_at_call 40;refine (outside_any _ _ _ _).mono ?_;rintro e w9 ⟨rfl,rfl⟩;first | rw [F2.out] | rw [F3.out])
     exact ⟨⟨k + 1,by go_num,by omega,HN2,HX.out⟩,by simp [intOf];omega⟩
    ·have t1:decide (k < J.length) = false:=by simpa using hkl
     have et:J.take k = J:=List.take_of_length_le (by omega);have ht:=HT.out;rw [et] at ht;have HR:=Lib.hid (H5.out ht);go_wp2_with fail
     obtain rfl:=HR.out;go_ret;exact ⟨rfl,HAF.out.trans HX.out⟩
end Go.Proofs
end
