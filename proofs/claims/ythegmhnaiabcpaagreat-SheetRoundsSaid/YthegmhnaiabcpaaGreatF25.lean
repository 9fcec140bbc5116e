/- Own texts, merged: Tn1 Tn2 Tn Vb. -/
import Derived.Test.YthegmhnaiabcpaaGreatF21
import Derived.Test.YthegmhnaiabcpaaGreatF24
set_option linter.unusedSimpArgs false
set_option linter.unusedVariables false
set_option linter.unnecessarySimpa false
section
/- Walks: what Bars does in its ranges. -/
namespace Go.Proofs
open Go.RowKit
attribute [local go_sem] Oper.semAt_some
def BrI (w2:World) (x z yc:Nat) (play:Int) (la lb:List (Int × Int)) (lv:List (List Int)) (r:Nat) (W:World):Prop :=
 ∃ mx,Fr w2 (yc + 3) [(z,157,#[.pointer (some ⟨x,0,none⟩)]),(yc,3,#[.int .i64 (mx:Nat)]),(yc + 1,3,#[.int .i64 (la.length:Nat)]),(yc + 2,3,#[.int .i64 (lb.length:Nat)])] W /\ Sheet.BarTo (sameB play la lb) la.length lb.length (vN lv) r /\ Sheet.MaxTo la.length lb.length (vN lv) r mx /\ mx <= 30
def BrX (w:World) (s:Nat) (play:Int) (la lb:List (Int × Int)) (lv:List (List Int)) (c:Code) (W:World):Prop :=
 c = .ret /\ ¬ Sheet.Bar (sameB play la lb) la.length lb.length (fun a b=>vN lv (a,b)) /\ Aft w W /\ Blk W (s + 1 + 1) 3 #[.int .i64 0] /\ Blk W (s + 1 + 1 + 1) 39 #[.int .i64 9]
structure BrC (w w1 w2:World) (s x:Nat) (play:Int) (la lb:List (Int × Int)) (lv:List (List Int)) (A B Al:Option Addr) (ca cb cl:Nat):Prop where
 fr:Fr w (s + 1 + 1 + 1 + 1) [(s,63,#[.slice B lb.length cb]),(s + 1,69,#[.slice Al la.length cl]),(s + 1 + 1,3,#[.int .i64 0]),(s + 1 + 1 + 1,39,#[.int .i64 0])] w1
 ls:Lists w1 Al lv
 ok:LvlOk lv la.length lb.length
 ed:EdgesAt w1 w2 x la lb play A B ca cb
 hs:w.heap.size = s
 same:∀ W,EdgesAt w1 W x la lb play A B ca cb -> ∀ (i k:Nat),i < la.length -> k < lb.length -> Calls Tryz.prog 87 #[.pointer (some ⟨x,0,none⟩),.agg #[.int .i64 (i:Nat),.int .i64 (k:Nat)]] W fun e w'=>e = .returned (.bool (sameB play la lb i k)) /\ Aft W w'
 la30:la.length <= 30
 lb30:lb.length <= 30
set_option maxRecDepth 100000 in
set_option maxHeartbeats 4000000 in
theorem br_body2 (play:Int) (la lb:List (Int × Int)) (lv:List (List Int)) (A B Al:Option Addr) (ca cb cl x s z z9 zn z8 yc B2 l:Nat) (w X0 X4 X:World) (a0 b0 i0 k0 x0:Nat) (ha:a0 < la.length) (hb:b0 < lb.length) (hi:i0 < a0) (hk:k0 < b0) (hla:la.length <= 30) (hlb:lb.length <= 30)
  (hok:LvlOk lv la.length lb.length) (hL:Lists X Al lv) (hT7:Blk X (s + 1) 69 #[.slice Al la.length cl]) (hR3:Blk X (s + 1 + 1) 3 #[.int .i64 0]) (hR4:Blk X (s + 1 + 1 + 1) 39 #[.int .i64 0]) (hZN:Blk X zn 3 #[.int .i64 (x0:Nat)]) (hx0:vN lv (a0,b0) = x0) (hwX:Aft w X) (hws:w.heap.size = s) (hsy:s + 1 + 1 + 1 < yc) (hyB:yc + 5 <= B2) (h4X:Aft X4 X)
  (hkp:Kept2 (yc + 3) X0 X) (hN:Sheet.InTo a0 b0 (vN lv) x0 (i0 * b0 + k0)) (hB:Blk X z8 67 #[.int .i64 (i0:Nat),.int .i64 (k0:Nat)]) (hz8:B2 + 1 <= z8) (u26 u48 u49 u50 u51 u52 u53 u54 u55 u56 u57 u58 u59 u60 u61 u62 u63 u64 u65 u66 u67 u68 u70 u71 u72 u73 u74 u75 u76 u77 u78 u79 u80 u81 u82 u83 u84 u85 u86 u87 u88:Value) :
  ((rfBody ((rfBody (Tryz.f30.body.getD .skip)).getD .skip)).getD .skip).wpIn (Fence.wide.inRound l) (6 - 1 - 1 - 1 - 1) Tryz.prog (post1 B2 (fun r W=>Aft X4 W /\ Sheet.InTo a0 b0 (vN lv) x0 r) (fun c W=>BrX w s play la lb lv c W /\ Kept2 (yc + 3) X0 W) (i0 * b0 + k0 + 1) X) { tmps:=#[.slice A la.length ca,.slice B lb.length cb,.int .i64 play,.slice Al la.length cl,undef,.pointer (some ⟨s,0,none⟩),undef,.pointer (some ⟨s + 1,0,none⟩),.pointer (some ⟨s + 1 + 1,0,none⟩),.pointer (some ⟨s + 1 + 1 + 1,0,none⟩),.pointer (some ⟨z,0,none⟩),.int .i64 0,.pointer (some ⟨yc,0,none⟩),.pointer (some ⟨z9,0,none⟩),.pointer (some ⟨zn,0,none⟩),.pointer (some ⟨z8,0,none⟩),.tuple #[.pointer (some ⟨x,0,none⟩),.int .i64 0],.slice A la.length ca,.slice B lb.length cb,.int .i64 play,.tuple #[.pointer (some ⟨x,0,none⟩),.int .i64 0],.pointer (some ⟨x,0,none⟩),.int .i64 0,.bool false,.int .i64 0,.bool false,u26,.bool false,.slice Al la.length cl,.int .i64 (la.length:Nat),.slice A la.length ca,.int .i64 (la.length:Nat),.bool false,.bool false,.slice Al la.length cl,.func (.func 89) #[] #[.pointer (some ⟨s,0,none⟩)],.bool true,.bool false,.bool false,.bool false,.slice Al la.length cl,.bool true,.bool false,.slice A la.length ca,.int .i64 (la.length:Nat),.slice B lb.length cb,.int .i64 (lb.length:Nat),.func (.func 111) #[] #[.pointer (some ⟨yc + 1,0,none⟩),.pointer (some ⟨yc + 2,0,none⟩)],u48,u49,u50,u51,u52,u53,u54,u55,u56,u57,u58,u59,u60,u61,u62,u63,u64,u65,u66,u67,u68,.agg #[.int .i64 (i0:Nat),.int .i64 (k0:Nat)],u70,u71,u72,u73,u74,u75,u76,u77,u78,u79,u80,u81,u82,u83,u84,u85,u86,u87,u88],defers:=[] } X:=by
 have HB:=Lib.hid hB;have HT7:=Lib.hid hT7;have HR3:=Lib.hid hR3;have HR4:=Lib.hid hR4;have HZN:=Lib.hid hZN;have HN:=Lib.hid hN;have HX0:=Lib.hid hx0;have HWX:=Lib.hid hwX;have H4X:=Lib.hid h4X;have HKP:=Lib.hid hkp;have hlt:=hB.lt;obtain ⟨bl,ol,b',o',c',hAl,hbl,hb',hc1,hc2,h30⟩:=hok.cells hL (i:=i0) (k:=k0) (by omega) (by omega);subst hAl;have HC1:=Lib.hid hc1;have HC2:=Lib.hid hc2;have HBL:=Lib.hid hbl;have HBB:=Lib.hid hb';obtain ⟨y0,hy0⟩:∃ y0,vN lv (i0,k0) = y0:=⟨_,rfl⟩;rw [hy0] at HC2 h30;have HY0:=Lib.hid hy0;have ii:(0:Int) <= (i0:Int) /\ (i0:Int) < (la.length:Int):=by omega
 have ik:(0:Int) <= (k0:Int) /\ (k0:Int) < (lb.length:Int):=by omega
 clear hB hT7 hR3 hR4 hZN hN hx0 hwX hL hok hc1 hc2 hbl hb' hy0 h4X hkp;dsimp only [Tryz.f30,rfBody,Option.getD];refine wpIn_block ?_;refine wpIn_seq_k fun K1 H1=>?_
 by_cases hxp:0 < x0
 ·have t1:decide (0 < x0) = true:=by simpa using hxp
  have t1b:decide ((0:Int) < (x0:Int)) = true:=by simpa using hxp
  obtain ⟨eb,heb⟩:∃ eb,((y0:Int) == (x0:Int)) = eb:=⟨_,rfl⟩;have HEB:=Lib.hid heb;refine wpIn_region_valsT (by kernel_rfl) (by kernel_rfl) 14 89 rfl (by kernel_rfl) (by kernel_rfl) (by kernel_rfl) [.int .i64 (x0:Nat),.bool true,.bool true,.slice (some ⟨bl,ol,none⟩) la.length cl,.pointer (some ⟨z8,0,none⟩),.int .i64 (i0:Nat),.pointer (some ⟨bl,ol + i0,none⟩),.slice (some ⟨b',o',none⟩) lb.length c',.pointer (some ⟨z8,1,none⟩),.int .i64 (k0:Nat),.pointer (some ⟨b',o' + k0,none⟩),.int .i64 (y0:Nat),.int .i64 (x0:Nat),.bool eb] rfl (fun _ W=>Aft X W) (Aft.drew _) ?st1 ?fi1
  case st1 =>
   intro i o v ho hv
   match i,ho,hv with
   | 0,ho,hv =>
    cases ho;cases hv;refine .inl ⟨rfl,fun done a W hd hp hk hw K hK=>?_⟩;have e14:=hk.same 14 (by decide);exact op_val (by simp [go_sem,ev' e14,(HZN.out.aft hw).cell 0]) (hK _ hw)
   | 1,ho,hv =>
    cases ho;cases hv;refine .inl ⟨rfl,fun done a W hd hp hk hw K hK=>?_⟩;have e70:=hk.at_ 0 _ 70 _ rfl (by decide) _ rfl rfl rfl;exact op_val (by simp [go_sem,ev' e70,t1,t1b]) (hK _ hw)
   | 2,ho,hv =>
    cases ho;cases hv;refine .inl ⟨rfl,fun done a W hd hp hk hw K hK=>?_⟩;have e71:=hk.at_ 1 _ 71 _ rfl (by decide) _ rfl rfl rfl;exact op_val (by simp [go_sem,ev' e71]) (hK _ hw)
   | 3,ho,hv =>
    cases ho;cases hv;refine .inl ⟨rfl,fun done a W hd hp hk hw K hK=>?_⟩;have e7:=hk.same 7 (by decide);exact op_val (by simp [go_sem,ev' e7,(HT7.out.aft hw).cell 0]) (hK _ hw)
   | 4,ho,hv =>
    cases ho;cases hv;refine .inl ⟨rfl,fun done a W hd hp hk hw K hK=>?_⟩;have e15:=hk.same 15 (by decide);exact op_val (by simp [go_sem,ev' e15]) (hK _ hw)
   | 5,ho,hv =>
    cases ho;cases hv;refine .inl ⟨rfl,fun done a W hd hp hk hw K hK=>?_⟩;have e74:=hk.at_ 4 _ 74 _ rfl (by decide) _ rfl rfl rfl;exact op_val (by simp [go_sem,ev' e74,(HB.out.aft hw).cell 0]) (hK _ hw)
   | 6,ho,hv =>
    cases ho;cases hv;refine .inl ⟨rfl,fun done a W hd hp hk hw K hK=>?_⟩;have e73:=hk.at_ 3 _ 73 _ rfl (by decide) _ rfl rfl rfl;have e75:=hk.at_ 5 _ 75 _ rfl (by decide) _ rfl rfl rfl;exact op_val (by simp [go_sem,ev' e73,ev' e75,ii]) (hK _ hw)
   | 7,ho,hv =>
    cases ho;cases hv;refine .inl ⟨rfl,fun done a W hd hp hk hw K hK=>?_⟩;have e76:=hk.at_ 6 _ 76 _ rfl (by decide) _ rfl rfl rfl;exact op_val (by simp [go_sem,ev' e76,cellA HC1.out HBL.out hw]) (hK _ hw)
   | 8,ho,hv =>
    cases ho;cases hv;refine .inl ⟨rfl,fun done a W hd hp hk hw K hK=>?_⟩;have e15:=hk.same 15 (by decide);exact op_val (by simp [go_sem,ev' e15]) (hK _ hw)
   | 9,ho,hv =>
    cases ho;cases hv;refine .inl ⟨rfl,fun done a W hd hp hk hw K hK=>?_⟩;have e78:=hk.at_ 8 _ 78 _ rfl (by decide) _ rfl rfl rfl;exact op_val (by simp [go_sem,ev' e78,(HB.out.aft hw).cell 1]) (hK _ hw)
   | 10,ho,hv =>
    cases ho;cases hv;refine .inl ⟨rfl,fun done a W hd hp hk hw K hK=>?_⟩;have e77:=hk.at_ 7 _ 77 _ rfl (by decide) _ rfl rfl rfl;have e79:=hk.at_ 9 _ 79 _ rfl (by decide) _ rfl rfl rfl;exact op_val (by simp [go_sem,ev' e77,ev' e79,ik]) (hK _ hw)
   | 11,ho,hv =>
    cases ho;cases hv;refine .inl ⟨rfl,fun done a W hd hp hk hw K hK=>?_⟩;have e80:=hk.at_ 10 _ 80 _ rfl (by decide) _ rfl rfl rfl;exact op_val (by simp [go_sem,ev' e80,cellA HC2.out HBB.out hw]) (hK _ hw)
   | 12,ho,hv =>
    cases ho;cases hv;refine .inl ⟨rfl,fun done a W hd hp hk hw K hK=>?_⟩;have e14:=hk.same 14 (by decide);exact op_val (by simp [go_sem,ev' e14,(HZN.out.aft hw).cell 0]) (hK _ hw)
   | 13,ho,hv =>
    cases ho;cases hv;refine .inl ⟨rfl,fun done a W hd hp hk hw K hK=>?_⟩;have e81:=hk.at_ 11 _ 81 _ rfl (by decide) _ rfl rfl rfl;have e82:=hk.at_ 12 _ 82 _ rfl (by decide) _ rfl rfl rfl;exact op_val (by simp [go_sem,ev' e81,ev' e82,heb]) (hK _ hw)
   | _ + 14,_,hv=>cases hv
  intro done W hd hw;simp only [List.drop_succ_cons,List.drop_zero,List.zip_cons_cons,List.zip_nil_right,putAll];simp only [Act.put,List.setIfInBounds_toArray,List.set];clear hd;have HW:=Lib.hid hw;have hsz:=hw.size;clear hw heb;cases eb
  ·go_wp2_with fail
   change K1 _ _;refine H1 _ _ ?_;clear H1;refine wpIn_cond_false (by simp [Act.eval]) ?_;refine wpIn_skip ?_
   exact ⟨⟨HW.out.below.block _ (by omega),HW.out.size⟩,H4X.out.trans HW.out,HN.out.round hk fun _ e=>by
    have h1:=HEB.out;rw [HY0.out] at e;simp at h1;omega⟩
  ·go_wp2_with fail
   change K1 _ _;refine H1 _ _ ?_;clear H1;refine wpIn_cond_true (by simp [Act.eval]) ?_;refine wpIn_seq_k fun K2 H2=>?_
   refine wpIn_region_of_list (by kernel_rfl) ?_;have y1:W.cell? ⟨s + 1 + 1,0,none⟩ = some (.int .i64 0):=(HR3.out.aft HW.out).cell 0;have y2:=(HR3.out.aft HW.out).lt;have y3:=(HR3.out.aft HW.out).frozen 0;have y4:W.cell? ⟨s + 1 + 1 + 1,0,none⟩ = some (.int .i64 0):=(HR4.out.aft HW.out).cell 0;have y5:=(HR4.out.aft HW.out).lt;have y6:=(HR4.out.aft HW.out).frozen 0;go_wp2_with fail
   change K2 _ _;refine H2 _ _ ?_;clear H2;gi_wp2_with fail
   have hg5:W.grownBy (W.setCell ⟨s + 1 + 1,0,none⟩ (.int .i64 0)) (some (s + 1 + 1)):=only_setCell (only_refl _ _) (p:=⟨s + 1 + 1,0,none⟩) (.inl rfl) _;have B5:=(HR3.out.aft HW.out).store 0 (.int .i64 0);have B6:=(HR4.out.aft HW.out).far (p:=⟨s + 1 + 1,0,none⟩) (by show s + 1 + 1 + 1 ≠ s + 1 + 1;omega) (.int .i64 0);have A5:=(HWX.out.trans HW.out).then_setCell (p:=⟨s + 1 + 1,0,none⟩) (by show w.heap.size <= s + 1 + 1;omega) (.int .i64 0);generalize W.setCell ⟨s + 1 + 1,0,none⟩ (.int .i64 0) = X5 at *;have hg6:X5.grownBy (X5.setCell ⟨s + 1 + 1 + 1,0,none⟩ (.int .i64 9)) (some (s + 1 + 1 + 1)):=only_setCell (only_refl _ _) (p:=⟨s + 1 + 1 + 1,0,none⟩) (.inl rfl) _;have B7:=B5.far (p:=⟨s + 1 + 1 + 1,0,none⟩) (by show s + 1 + 1 ≠ s + 1 + 1 + 1;omega) (.int .i64 9);have B8:=B6.store 0 (.int .i64 9);have A6:=A5.then_setCell (p:=⟨s + 1 + 1 + 1,0,none⟩) (by show w.heap.size <= s + 1 + 1 + 1;omega) (.int .i64 9);generalize X5.setCell ⟨s + 1 + 1 + 1,0,none⟩ (.int .i64 9) = X6 at *;have hg56:∀ j,s + 1 + 1 + 1 < j -> j < W.heap.size -> X6.heap[j]? = W.heap[j]?:=fun j h1 h2=>(hg6.block j (Nat.lt_of_lt_of_le h2 hg5.size) (fun e=>by have e:j = s + 1 + 1 + 1:=Option.some.inj e;omega)).trans (hg5.block j h2 (fun e=>by have e:j = s + 1 + 1:=Option.some.inj e;omega))
   have hs56:W.heap.size <= X6.heap.size:=Nat.le_trans hg5.size hg6.size;have hxy:y0 = x0:=by have h1:=HEB.out;simp at h1;omega
   refine ⟨⟨(hg56 _ (by omega) (by omega)).trans (HW.out.below.block _ (by omega)),Nat.le_trans HW.out.size hs56⟩,⟨rfl,fun h=>h.ne a0 b0 i0 k0 ha hb hi hk (by rw [HX0.out];exact hxp) (by rw [HX0.out,HY0.out];exact hxy),A6,B7,B8⟩,HKP.out.trans ((Kept2.of_aft HW.out (by omega)).trans ⟨fun j h1 h2=>hg56 j (by omega) (by omega),hs56⟩)⟩
 ·have t1:decide (0 < x0) = false:=by simpa using hxp
  have t1b:decide ((0:Int) < (x0:Int)) = false:=by simpa using hxp
  refine wpIn_region_valsT (by kernel_rfl) (by kernel_rfl) 14 89 rfl (by kernel_rfl) (by kernel_rfl) (by kernel_rfl) [.int .i64 (x0:Nat),.bool false,.bool false,undef,undef,undef,undef,undef,undef,undef,undef,undef,undef,undef] rfl (fun _ W=>Aft X W) (Aft.drew _) ?st2 ?fi2
  case st2 =>
   intro i o v ho hv
   match i,ho,hv with
   | 0,ho,hv =>
    cases ho;cases hv;refine .inl ⟨rfl,fun done a W hd hp hk hw K hK=>?_⟩;have e14:=hk.same 14 (by decide);exact op_val (by simp [go_sem,ev' e14,(HZN.out.aft hw).cell 0]) (hK _ hw)
   | 1,ho,hv =>
    cases ho;cases hv;refine .inl ⟨rfl,fun done a W hd hp hk hw K hK=>?_⟩;have e70:=hk.at_ 0 _ 70 _ rfl (by decide) _ rfl rfl rfl;exact op_val (by simp [go_sem,ev' e70,t1,t1b]) (hK _ hw)
   | 2,ho,hv =>
    cases ho;cases hv;refine .inl ⟨rfl,fun done a W hd hp hk hw K hK=>?_⟩;have e71:=hk.at_ 1 _ 71 _ rfl (by decide) _ rfl rfl rfl;exact op_val (by simp [go_sem,ev' e71]) (hK _ hw)
   | 3,ho,hv=>cases ho;cases hv;exact .inr ⟨rfl,rfl,fun _ _ h=>h⟩
   | 4,ho,hv=>cases ho;cases hv;exact .inr ⟨rfl,rfl,fun _ _ h=>h⟩
   | 5,ho,hv=>cases ho;cases hv;exact .inr ⟨rfl,rfl,fun _ _ h=>h⟩
   | 6,ho,hv=>cases ho;cases hv;exact .inr ⟨rfl,rfl,fun _ _ h=>h⟩
   | 7,ho,hv=>cases ho;cases hv;exact .inr ⟨rfl,rfl,fun _ _ h=>h⟩
   | 8,ho,hv=>cases ho;cases hv;exact .inr ⟨rfl,rfl,fun _ _ h=>h⟩
   | 9,ho,hv=>cases ho;cases hv;exact .inr ⟨rfl,rfl,fun _ _ h=>h⟩
   | 10,ho,hv=>cases ho;cases hv;exact .inr ⟨rfl,rfl,fun _ _ h=>h⟩
   | 11,ho,hv=>cases ho;cases hv;exact .inr ⟨rfl,rfl,fun _ _ h=>h⟩
   | 12,ho,hv=>cases ho;cases hv;exact .inr ⟨rfl,rfl,fun _ _ h=>h⟩
   | 13,ho,hv=>cases ho;cases hv;exact .inr ⟨rfl,rfl,fun _ _ h=>h⟩
   | _ + 14,_,hv=>cases hv
  intro done W hd hw;simp only [List.drop_succ_cons,List.drop_zero,List.zip_cons_cons,List.zip_nil_right,putAll];simp only [Act.put,List.setIfInBounds_toArray,List.set];clear hd;have HW:=Lib.hid hw;have hsz:=hw.size;clear hw;go_wp2_with fail
  change K1 _ _;refine H1 _ _ ?_;clear H1;refine wpIn_cond_false (by simp [Act.eval]) ?_;refine wpIn_skip ?_;exact ⟨⟨HW.out.below.block _ (by omega),HW.out.size⟩,H4X.out.trans HW.out,HN.out.round hk fun h=>absurd h hxp⟩
end Go.Proofs
end
section
/- Walks: what Bars does in its ranges. -/
namespace Go.Proofs
open Go.RowKit
attribute [local go_sem] Oper.semAt_some
set_option maxRecDepth 100000 in
set_option maxHeartbeats 4000000 in
theorem br_body (play:Int) (la lb:List (Int × Int)) (lv:List (List Int)) (A B Al:Option Addr) (ca cb cl x s z z9 yc l:Nat) (w w1 w2 X:World) (r₀:Loop) (hC:BrC w w1 w2 s x play la lb lv A B Al ca cb cl) (a0 b0:Nat) (ha:a0 < la.length) (hb:b0 < lb.length)
  (hI:BrI w2 x z yc play la lb lv (a0 * lb.length + b0) X) (hz9:yc + 3 + 2 <= z9) (hB:Blk X z9 67 #[.int .i64 (a0:Nat),.int .i64 (b0:Nat)]) (hl:l = yc + 3 + 1) (hr:X.heap[l]? = some (.loop r₀)) (hzw:w2.heap.size = z) (hzy:z + 1 <= yc) (u14 u15 u26 u49 u50 u51 u52 u53 u54 u55 u56 u57 u58 u59 u60 u61 u62 u63 u64 u65 u66 u67 u68 u69 u70 u71 u72 u73 u74 u75 u76 u77 u78 u79 u80 u81 u82 u83 u84 u85 u86 u87 u88:Value) :
  ((rfBody (Tryz.f30.body.getD .skip)).getD .skip).wpIn (Fence.wide.inRound l) (6 - 1 - 1) Tryz.prog (post2 (yc + 3) (BrI w2 x z yc play la lb lv) (BrX w s play la lb lv) (a0 * lb.length + b0 + 1) X) { tmps:=#[.slice A la.length ca,.slice B lb.length cb,.int .i64 play,.slice Al la.length cl,undef,.pointer (some ⟨s,0,none⟩),undef,.pointer (some ⟨s + 1,0,none⟩),.pointer (some ⟨s + 1 + 1,0,none⟩),.pointer (some ⟨s + 1 + 1 + 1,0,none⟩),.pointer (some ⟨z,0,none⟩),.int .i64 0,.pointer (some ⟨yc,0,none⟩),.pointer (some ⟨z9,0,none⟩),u14,u15,.tuple #[.pointer (some ⟨x,0,none⟩),.int .i64 0],.slice A la.length ca,.slice B lb.length cb,.int .i64 play,.tuple #[.pointer (some ⟨x,0,none⟩),.int .i64 0],.pointer (some ⟨x,0,none⟩),.int .i64 0,.bool false,.int .i64 0,.bool false,u26,.bool false,.slice Al la.length cl,.int .i64 (la.length:Nat),.slice A la.length ca,.int .i64 (la.length:Nat),.bool false,.bool false,.slice Al la.length cl,.func (.func 89) #[] #[.pointer (some ⟨s,0,none⟩)],.bool true,.bool false,.bool false,.bool false,.slice Al la.length cl,.bool true,.bool false,.slice A la.length ca,.int .i64 (la.length:Nat),.slice B lb.length cb,.int .i64 (lb.length:Nat),.func (.func 111) #[] #[.pointer (some ⟨yc + 1,0,none⟩),.pointer (some ⟨yc + 2,0,none⟩)],.agg #[.int .i64 (a0:Nat),.int .i64 (b0:Nat)],u49,u50,u51,u52,u53,u54,u55,u56,u57,u58,u59,u60,u61,u62,u63,u64,u65,u66,u67,u68,u69,u70,u71,u72,u73,u74,u75,u76,u77,u78,u79,u80,u81,u82,u83,u84,u85,u86,u87,u88],defers:=[] } X:=by
 obtain ⟨mx,hF,hBT,hX,hx30⟩:=hI;have HF:=Lib.hid hF;have HC:=Lib.hid hC;have HB:=Lib.hid hB;have HBT:=Lib.hid hBT;have HX:=Lib.hid hX;have h1X:Aft w1 X:=hC.ed.2.2.1.trans hF.aft;have hla:=hC.la30;have hlb:=hC.lb30;have hsz1:s + 4 <= w1.heap.size:=hC.fr.size;have h12:=hC.ed.2.2.1.size;obtain ⟨bl,ol,b',o',c',hAl,hbl,hb',hc1,hc2,h30⟩:=hC.ok.cells hC.ls ha hb;subst hAl;have HC1:=Lib.hid (cellA hc1 hbl h1X);have HC2:=Lib.hid (cellA hc2 hb' h1X);have HBL:=Lib.hid (Nat.lt_of_lt_of_le hbl h1X.size);have HBB:=Lib.hid (Nat.lt_of_lt_of_le hb' h1X.size);have HT7:=Lib.hid ((hC.fr.nth 1 rfl).aft h1X);have H1X:=Lib.hid h1X;obtain ⟨x0,hx0⟩:∃ x0,vN lv (a0,b0) = x0:=⟨_,rfl⟩;rw [hx0] at HC2 h30;have HX0:=Lib.hid hx0;have HRL:=Lib.hid hr;have ia:(0:Int) <= (a0:Int) /\ (a0:Int) < (la.length:Int):=by omega
 have ib:(0:Int) <= (b0:Int) /\ (b0:Int) < (lb.length:Int):=by omega
 clear hF hBT hX hB hC hc1 hc2 hbl hb' hx0 h1X hr;dsimp only [Tryz.f30,rfBody,Option.getD];refine wpIn_block ?_;refine wpIn_seq_k fun K1 H1=>?_
 refine wpIn_region_valsT (by kernel_rfl) (by kernel_rfl) 10 89 rfl (by kernel_rfl) (by kernel_rfl) (by kernel_rfl) [.slice (some ⟨bl,ol,none⟩) la.length cl,.pointer (some ⟨z9,0,none⟩),.int .i64 (a0:Nat),.pointer (some ⟨bl,ol + a0,none⟩),.slice (some ⟨b',o',none⟩) lb.length c',.pointer (some ⟨z9,1,none⟩),.int .i64 (b0:Nat),.pointer (some ⟨b',o' + b0,none⟩),.int .i64 (x0:Nat),.pointer (some ⟨X.heap.size,0,none⟩)] rfl (fun done W=>Aft X W /\ (if done 9 = true then W = X.drew.alloc (.cells #[.int .i64 0] 3) else W = X.drew)) (⟨Aft.drew _,by simp⟩) ?st1 ?fi1
 case st1 =>
  intro i o v ho hv
  match i,ho,hv with
  | 0,ho,hv =>
   cases ho;cases hv;refine .inl ⟨rfl,fun done a W hd hp hk hw K hK=>?_⟩;have e7:=hk.same 7 (by decide);exact op_val (by simp [go_sem,ev' e7,(HT7.out.aft hw.1).cell 0]) (hK _ (⟨hw.1,by rw [upd_ne' (by decide)];exact hw.2⟩))
  | 1,ho,hv =>
   cases ho;cases hv;refine .inl ⟨rfl,fun done a W hd hp hk hw K hK=>?_⟩;have e13:=hk.same 13 (by decide);exact op_val (by simp [go_sem,ev' e13]) (hK _ (⟨hw.1,by rw [upd_ne' (by decide)];exact hw.2⟩))
  | 2,ho,hv =>
   cases ho;cases hv;refine .inl ⟨rfl,fun done a W hd hp hk hw K hK=>?_⟩;have e50:=hk.at_ 1 _ 50 _ rfl (by decide) _ rfl rfl rfl;exact op_val (by simp [go_sem,ev' e50,(HB.out.aft hw.1).cell 0]) (hK _ (⟨hw.1,by rw [upd_ne' (by decide)];exact hw.2⟩))
  | 3,ho,hv =>
   cases ho;cases hv;refine .inl ⟨rfl,fun done a W hd hp hk hw K hK=>?_⟩;have e49:=hk.at_ 0 _ 49 _ rfl (by decide) _ rfl rfl rfl;have e51:=hk.at_ 2 _ 51 _ rfl (by decide) _ rfl rfl rfl;exact op_val (by simp [go_sem,ev' e49,ev' e51,ia]) (hK _ (⟨hw.1,by rw [upd_ne' (by decide)];exact hw.2⟩))
  | 4,ho,hv =>
   cases ho;cases hv;refine .inl ⟨rfl,fun done a W hd hp hk hw K hK=>?_⟩;have e52:=hk.at_ 3 _ 52 _ rfl (by decide) _ rfl rfl rfl;exact op_val (by simp [go_sem,ev' e52,cellA HC1.out HBL.out hw.1]) (hK _ (⟨hw.1,by rw [upd_ne' (by decide)];exact hw.2⟩))
  | 5,ho,hv =>
   cases ho;cases hv;refine .inl ⟨rfl,fun done a W hd hp hk hw K hK=>?_⟩;have e13:=hk.same 13 (by decide);exact op_val (by simp [go_sem,ev' e13]) (hK _ (⟨hw.1,by rw [upd_ne' (by decide)];exact hw.2⟩))
  | 6,ho,hv =>
   cases ho;cases hv;refine .inl ⟨rfl,fun done a W hd hp hk hw K hK=>?_⟩;have e54:=hk.at_ 5 _ 54 _ rfl (by decide) _ rfl rfl rfl;exact op_val (by simp [go_sem,ev' e54,(HB.out.aft hw.1).cell 1]) (hK _ (⟨hw.1,by rw [upd_ne' (by decide)];exact hw.2⟩))
  | 7,ho,hv =>
   cases ho;cases hv;refine .inl ⟨rfl,fun done a W hd hp hk hw K hK=>?_⟩;have e53:=hk.at_ 4 _ 53 _ rfl (by decide) _ rfl rfl rfl;have e55:=hk.at_ 6 _ 55 _ rfl (by decide) _ rfl rfl rfl;exact op_val (by simp [go_sem,ev' e53,ev' e55,ib]) (hK _ (⟨hw.1,by rw [upd_ne' (by decide)];exact hw.2⟩))
  | 8,ho,hv =>
   cases ho;cases hv;refine .inl ⟨rfl,fun done a W hd hp hk hw K hK=>?_⟩;have e56:=hk.at_ 7 _ 56 _ rfl (by decide) _ rfl rfl rfl;exact op_val (by simp [go_sem,ev' e56,cellA HC2.out HBB.out hw.1]) (hK _ (⟨hw.1,by rw [upd_ne' (by decide)];exact hw.2⟩))
  | 9,ho,hv =>
   cases ho;cases hv;refine .inl ⟨rfl,fun done a W hd hp hk hw K hK=>?_⟩;have h2:=hw.2;rw [hd] at h2;simp only [Bool.false_eq_true,if_false] at h2;subst h2;exact op_valW (v:=.pointer (some ⟨X.heap.size,0,none⟩)) (w':=X.drew.alloc (.cells #[.int .i64 0] 3)) (by simp [go_sem]) (hK _ ⟨(Aft.drew X).then_alloc _,by rw [upd_same',if_pos rfl]⟩)
  | _ + 10,_,hv=>cases hv
 intro done W hd hw;simp only [List.drop_succ_cons,List.drop_zero,List.zip_cons_cons,List.zip_nil_right,putAll];simp only [Act.put,List.setIfInBounds_toArray,List.set];have hw2:=hw.2;rw [if_pos (hd 9 (by decide))] at hw2;clear hw hd;subst hw2
 obtain ⟨zn,hzn⟩:∃ zn,X.heap.size = zn:=⟨_,rfl⟩;have hz9n:z9 < zn:=by rw [<- hzn];exact HB.out.lt
 obtain ⟨X1,hX1⟩:∃ X1,X.drew.alloc (.cells #[.int .i64 0] 3) = X1:=⟨_,rfl⟩;have hA1:Aft X X1:=hX1 ▸ (Aft.drew X).then_alloc _;have hB1:Blk X1 zn 3 #[.int .i64 0]:=by rw [<- hX1,<- hzn];exact Blk.new X.drew 3 _
 have c1:X1.cell? ⟨zn,0,none⟩ = some (.int .i64 0):=hB1.cell 0;have c2:=hB1.lt;have c3:=hB1.frozen 0;rw [hX1,hzn];go_wp2_with fail
 change K1 _ _;refine H1 _ _ ?_;clear H1;have hA2:=hA1.then_setCell (p:=⟨zn,0,none⟩) (by show X.heap.size <= zn;omega) (.int .i64 (x0:Nat));have hB2:Blk (X1.setCell ⟨zn,0,none⟩ (.int .i64 (x0:Nat))) zn 3 #[.int .i64 (x0:Nat)]:=hB1.store 0 (.int .i64 (x0:Nat));generalize X1.setCell ⟨zn,0,none⟩ (.int .i64 (x0:Nat)) = X2 at *;have HA2:=Lib.hid hA2;have HB2:=Lib.hid hB2;clear c1 c2 c3 hX1 hA1 hB1 hA2 hB2 hzn;obtain ⟨bs,hbs⟩:∃ bs,sameB play la lb a0 b0 = bs:=⟨_,rfl⟩
 have HSM:Hid (∀ W,Aft X2 W -> Calls Tryz.prog 87 #[.pointer (some ⟨x,0,none⟩),.agg #[.int .i64 (a0:Nat),.int .i64 (b0:Nat)]] W fun e w'=>e = .returned (.bool bs) /\ Aft W w'):=Lib.hid fun W h=>by
  have:=HC.out.same W (HC.out.ed.later (HF.out.aft.trans (HA2.out.trans h))) a0 b0 ha hb;rw [hbs] at this;exact this
 have HBS:=Lib.hid hbs;clear hbs;obtain ⟨nz,hnz⟩:∃ nz,decide (0 < x0) = nz:=⟨_,rfl⟩;have HNZ:=Lib.hid hnz;have hnz2:decide ((0:Int) < (x0:Int)) = nz:=by rw [<- hnz];by_cases h:0 < x0 <;> simp [h]
 refine wpIn_seq_k fun K2 H2=>?_
 refine wpIn_seq_k fun K3 H3=>?_
 refine wpIn_region_valsT (by kernel_rfl) (by kernel_rfl) 5 89 rfl (by kernel_rfl) (by kernel_rfl) (by kernel_rfl) [.pointer (some ⟨x,0,none⟩),.agg #[.int .i64 (a0:Nat),.int .i64 (b0:Nat)],.bool bs,.int .i64 (x0:Nat),.bool nz] rfl (fun _ W=>Aft X2 W) (Aft.drew _) ?st2 ?fi2
 case st2 =>
  intro i o v ho hv
  match i,ho,hv with
  | 0,ho,hv =>
   cases ho;cases hv;refine .inl ⟨rfl,fun done a W hd hp hk hw K hK=>?_⟩;have e10:=hk.same 10 (by decide);exact op_val (by simp [go_sem,ev' e10,((HF.out.later (HA2.out.trans hw)).nth 0 rfl).cell 0]) (hK _ hw)
  | 1,ho,hv =>
   cases ho;cases hv;refine .inl ⟨rfl,fun done a W hd hp hk hw K hK=>?_⟩;have e13:=hk.same 13 (by decide);exact op_val (by simp [go_sem,ev' e13,(HB.out.aft (HA2.out.trans hw)).cell 0,(HB.out.aft (HA2.out.trans hw)).cell 1]) (hK _ hw)
  | 2,ho,hv =>
   cases ho;cases hv;refine .inl ⟨rfl,fun done a W hd hp hk hw K hK=>?_⟩;have e58:=hk.at_ 0 _ 58 _ rfl (by decide) _ rfl rfl rfl;have e59:=hk.at_ 1 _ 59 _ rfl (by decide) _ rfl rfl rfl;refine op_callN rfl rfl rfl _ rfl (vs:=#[.pointer (some ⟨x,0,none⟩),.agg #[.int .i64 (a0:Nat),.int .i64 (b0:Nat)]]) (by simp [e58,e59]) (HSM.out W hw) ?_;rintro e w7 ⟨rfl,hw7⟩;exact ⟨_,rfl,hK _ (hw.trans hw7)⟩
  | 3,ho,hv =>
   cases ho;cases hv;refine .inl ⟨rfl,fun done a W hd hp hk hw K hK=>?_⟩;have e14:=hk.same 14 (by decide);exact op_val (by simp [go_sem,ev' e14,(HB2.out.aft hw).cell 0]) (hK _ hw)
  | 4,ho,hv =>
   cases ho;cases hv;refine .inl ⟨rfl,fun done a W hd hp hk hw K hK=>?_⟩;have e61:=hk.at_ 3 _ 61 _ rfl (by decide) _ rfl rfl rfl;exact op_val (by simp [go_sem,ev' e61,hnz,hnz2]) (hK _ hw)
  | _ + 5,_,hv=>cases hv
 intro done W hd hw;simp only [List.drop_succ_cons,List.drop_zero,List.zip_cons_cons,List.zip_nil_right,putAll];simp only [Act.put,List.setIfInBounds_toArray,List.set];clear hd;clear hnz hnz2;have HA3:=Lib.hid (HA2.out.trans hw);have HB3:=Lib.hid (HB2.out.aft hw);have hs3:=(HA2.out.trans hw).size;clear hw HA2 HB2 HSM;by_cases hbn:bs = nz
 ·have t1:(bs != nz) = false:=by rw [hbn];simp
  have HOK:Hid (0 < x0 ↔ sameB play la lb a0 b0 = true):=Lib.hid (by rw [HBS.out,hbn,<- HNZ.out];simp);have HBN:=Lib.hid hbn;clear hbn;go_wp2_with fail
  change K3 _ _;refine H3 _ _ ?_;clear H3 t1;refine wpIn_cond_false (by simp [Act.eval];exact HBN.out) ?_;refine wpIn_skip ?_;change K2 _ _;refine H2 _ _ ?_;clear H2;refine wpIn_seq_k fun K5 H5=>?_
  refine wpIn_seq_k fun K4 H4=>?_
  refine wpIn_region_of_list (by kernel_rfl) ?_;have HB9:=Lib.hid (HB.out.aft HA3.out);have c0:W.cell? ⟨z9,0,none⟩ = some (.int .i64 (a0:Nat)):=HB9.out.cell 0;have c1:W.cell? ⟨z9,1,none⟩ = some (.int .i64 (b0:Nat)):=HB9.out.cell 1;have c2:=HB9.out.lt;obtain ⟨zb,hzb⟩:∃ zb,W.heap.size = zb:=⟨_,rfl⟩;obtain ⟨X4,hX4⟩:∃ X4,(W.alloc (.cells #[.int .i64 (a0:Nat)] 3)).alloc (.cells #[.int .i64 (b0:Nat)] 3) = X4:=⟨_,rfl⟩;have HA4:Hid (Aft W X4):=Lib.hid (hX4 ▸ (Aft.alloc W _).then_alloc _);have hs4:X4.heap.size = zb + 2:=by rw [<- hX4];simp [hzb]
  have HQ1:Hid (Blk X4 zb 3 #[.int .i64 (a0:Nat)]):=Lib.hid (by rw [<- hX4,<- hzb];exact (Blk.new W 3 _).alloc _);have HQ2:Hid (Blk X4 (zb + 1) 3 #[.int .i64 (b0:Nat)]):=Lib.hid (by
   rw [<- hX4,<- hzb];have:=Blk.new (W.alloc (.cells #[.int .i64 (a0:Nat)] 3)) 3 #[.int .i64 (b0:Nat)];rw [World.size_alloc] at this;exact this)
  go_wp2_with (go_at_call 82;refine (pairs_any a0 b0 _).mono ?_;rintro e w' ⟨rfl,rfl⟩)
  change K4 _ _;refine H4 _ _ ?_;clear H4
  try rw [hX4]
  try rw [hzb]
  clear hX4 c0 c1 c2;refine wpIn_block ?_;have HA5:=Lib.hid (HA3.out.trans HA4.out);have hzb9:z9 < zb:=by rw [<- hzb];exact Nat.lt_of_lt_of_le HB.out.lt HA3.out.size
  have HRL4:Hid (X4.heap[l]? = some (.loop r₀)):=Lib.hid ((HA5.out.below.block l (Array.getElem?_eq_some_iff.1 HRL.out).1).trans HRL.out);have hsyc:s + 1 + 1 + 1 < yc:=by have:=HF.out.ge;have:=hzw;have:=h12;have:=(HF.out.blks (yc,3,#[.int .i64 (mx:Nat)]) (by simp)).2.1;have h9:w2.heap.size <= yc:=this;omega
  clear hzb;refine wpIn_pairs2 (l₀:=l) (r₀:=r₀) (b1:=zb) (b2:=zb + 1) (N:=a0) (M:=b0) HRL4.out (by omega) (by omega) rfl (fun r W=>Aft X4 W /\ Sheet.InTo a0 b0 (vN lv) x0 r) (fun c W=>BrX w s play la lb lv c W /\ Kept2 (yc + 3) X W)
   (fun r W W' ⟨h1,h2⟩ hg=>⟨h1.grown hg (fun k e=>by have e:X4.heap.size = k:=Option.some.inj e;omega),h2⟩)
   (by
    rintro c _ W W' ⟨⟨rfl,h1,h2,h3,h4⟩,h5⟩ hg;rw [hs4] at hg;refine ⟨⟨rfl,h1,h2.grown hg (fun k e=>by have e:zb + 2 = k:=Option.some.inj e;have:=HC.out.hs;omega),h3.grown hg (fun e=>by have e:s + 1 + 1 = zb + 2:=Option.some.inj e;omega),h4.grown hg (fun e=>by have e:s + 1 + 1 + 1 = zb + 2:=Option.some.inj e;omega)⟩,h5.trans (Kept2.of_grown hg (by have:=h5.size;have:=HB.out.lt;omega) (fun k e=>by have e:zb + 2 = k:=Option.some.inj e;omega))⟩)
   (fun r W W' ⟨h1,h2⟩ ha'=>⟨h1.trans ha',h2⟩)
   (fun r W ⟨h1,h2⟩=>⟨(HQ1.out.aft h1).cell 0,(HQ2.out.aft h1).cell 0,(HQ1.out.aft h1).lt,(HQ2.out.aft h1).lt⟩) ⟨Aft.refl _,fun i k _ _ h=>absurd h (Nat.not_lt_zero _)⟩
   (fun z8 i0 k0=>{ tmps:=#[.slice A la.length ca,.slice B lb.length cb,.int .i64 play,.slice (some ⟨bl,ol,none⟩) la.length cl,undef,.pointer (some ⟨s,0,none⟩),undef,.pointer (some ⟨s + 1,0,none⟩),.pointer (some ⟨s + 1 + 1,0,none⟩),.pointer (some ⟨s + 1 + 1 + 1,0,none⟩),.pointer (some ⟨z,0,none⟩),.int .i64 0,.pointer (some ⟨yc,0,none⟩),.pointer (some ⟨z9,0,none⟩),.pointer (some ⟨zn,0,none⟩),.pointer (some ⟨z8,0,none⟩),.tuple #[.pointer (some ⟨x,0,none⟩),.int .i64 0],.slice A la.length ca,.slice B lb.length cb,.int .i64 play,.tuple #[.pointer (some ⟨x,0,none⟩),.int .i64 0],.pointer (some ⟨x,0,none⟩),.int .i64 0,.bool false,.int .i64 0,.bool false,u26,.bool false,.slice (some ⟨bl,ol,none⟩) la.length cl,.int .i64 (la.length:Nat),.slice A la.length ca,.int .i64 (la.length:Nat),.bool false,.bool false,.slice (some ⟨bl,ol,none⟩) la.length cl,.func (.func 89) #[] #[.pointer (some ⟨s,0,none⟩)],.bool true,.bool false,.bool false,.bool false,.slice (some ⟨bl,ol,none⟩) la.length cl,.bool true,.bool false,.slice A la.length ca,.int .i64 (la.length:Nat),.slice B lb.length cb,.int .i64 (lb.length:Nat),.func (.func 111) #[] #[.pointer (some ⟨yc + 1,0,none⟩),.pointer (some ⟨yc + 2,0,none⟩)],.agg #[.int .i64 (a0:Nat),.int .i64 (b0:Nat)],.slice (some ⟨bl,ol,none⟩) la.length cl,.pointer (some ⟨z9,0,none⟩),.int .i64 (a0:Nat),.pointer (some ⟨bl,ol + a0,none⟩),.slice (some ⟨b',o',none⟩) lb.length c',.pointer (some ⟨z9,1,none⟩),.int .i64 (b0:Nat),.pointer (some ⟨b',o' + b0,none⟩),.int .i64 (x0:Nat),.pointer (some ⟨x,0,none⟩),.agg #[.int .i64 (a0:Nat),.int .i64 (b0:Nat)],.bool bs,.int .i64 (x0:Nat),.bool nz,.bool (bs != nz),.pointer (some ⟨z9,0,none⟩),.int .i64 (a0:Nat),.pointer (some ⟨z9,1,none⟩),.int .i64 (b0:Nat),.func (.func 111) #[] #[.pointer (some ⟨zb,0,none⟩),.pointer (some ⟨zb + 1,0,none⟩)],.agg #[.int .i64 (i0:Nat),.int .i64 (k0:Nat)],u70,u71,u72,u73,u74,u75,u76,u77,u78,u79,u80,u81,u82,u83,u84,u85,u86,u87,u88],defers:=[] }) ?assign ?body ?done ?stop
  case assign =>
   intro l i j X K9 hK9;gi_wp2_with fail
   exact hK9
  case body =>
   intro l i0 k0 z8 W8 hi hk hI hz8 _ hB8;obtain ⟨h4W,hN⟩:=hI;have h5W:=HA5.out.trans h4W;have h15:=H1X.out.trans h5W;rw [hs4] at hz8 ⊢;exact br_body2 play la lb lv A B (some ⟨bl,ol,none⟩) ca cb cl x s z z9 zn z8 yc (zb + 2) l w X X4 W8 a0 b0 i0 k0 x0 ha hb hi hk hla hlb HC.out.ok (HC.out.ls.aft h15) (HT7.out.aft h5W) ((HC.out.fr.nth 2 rfl).aft h15) ((HC.out.fr.nth 3 rfl).aft h15) (HB3.out.aft (HA4.out.trans h4W)) HX0.out (HC.out.fr.aft.trans h15) HC.out.hs hsyc (by omega) h4W (Kept2.of_aft h5W (by have:=HB.out.lt;omega)) hN hB8 hz8 _ _ _ _ _ _ _ _ _ _ _ _ _ _ _ _ _ _ _ _ _ _ _ _ _ _ _ _ _ _ _ _ _ _ _ _ _ _ _ _ _
  case stop =>
   intro c W8 hX8;obtain ⟨⟨rfl,h1,h2,h3,h4⟩,h5⟩:=hX8;gi_wp2_with fail
   exact ⟨h5,rfl,h1,h2,h3,h4⟩
  case done =>
   intro W8 hI;obtain ⟨h4W,hN⟩:=hI;have h5W:=HA5.out.trans h4W;have HF8:=Lib.hid (HF.out.later h5W);have HB8:=Lib.hid (HB3.out.aft (HA4.out.trans h4W));have hkp:=Kept2.of_aft (B:=yc + 3) h5W (by have:=HB.out.lt;omega);obtain ⟨my,hmy⟩:∃ my,max mx x0 = my:=⟨_,rfl⟩;have hmm:(if mx < x0 then (x0:Int) else (mx:Int)) = (my:Int):=by split <;> omega
   have HMT:Hid (Sheet.MaxTo la.length lb.length (vN lv) (a0 * lb.length + b0 + 1) my):=Lib.hid (HX.out.round ha hb (by rw [HX0.out];exact hmy));have HBT2:Hid (Sheet.BarTo (sameB play la lb) la.length lb.length (vN lv) (a0 * lb.length + b0 + 1)):=Lib.hid (HBT.out.round hb (by rw [HX0.out];exact HOK.out) (by rw [HX0.out];exact hN));have hmys:my <= 30:=by omega
   change K5 _ _;refine H5 _ _ ?_;clear H5 hN hmy;refine wpIn_region_of_list (by kernel_rfl) ?_;have y1:W8.cell? ⟨yc,0,none⟩ = some (.int .i64 (mx:Nat)):=(HF8.out.nth 1 rfl).cell 0;have y2:=(HF8.out.nth 1 rfl).lt;have y3:=(HF8.out.nth 1 rfl).frozen 0;have y4:W8.cell? ⟨zn,0,none⟩ = some (.int .i64 (x0:Nat)):=HB8.out.cell 0;have y5:=HB8.out.lt;go_wp2_with fail
   try rw [hmm]
   have hg8:W8.grownBy (W8.setCell ⟨yc,0,none⟩ (.int .i64 (my:Nat))) (some yc):=only_setCell (only_refl _ _) (p:=⟨yc,0,none⟩) (.inl rfl) _;exact ⟨hkp.trans (Kept2.of_grown hg8 (by have:=hkp.size;have:=HB.out.lt;omega) (fun k e=>by have e:yc = k:=Option.some.inj e;left;omega)),my,HF8.out.store (g:=yc) (t:=3) (cs:=#[.int .i64 (mx:Nat)]) (by simp) 0 (.int .i64 (my:Nat)) (by simp <;> omega),HBT2.out,HMT.out,hmys⟩
 ·have t1:(bs != nz) = true:=by cases bs <;> cases nz <;> simp at hbn ⊢
  have HNO:Hid (¬ Sheet.Bar (sameB play la lb) la.length lb.length fun a b=>vN lv (a,b)):=Lib.hid fun h=>hbn (by
   have h1:=h.iff a0 b0 ha hb;rw [HX0.out,HBS.out] at h1;rw [<- HNZ.out];cases bs <;> by_cases h2:0 < x0 <;> simp [h2] at h1 ⊢)
  have HBN:=Lib.hid hbn;clear hbn;go_wp2_with fail
  change K3 _ _;refine H3 _ _ ?_;clear H3 t1;refine wpIn_cond_true (by simp [Act.eval];exact HBN.out) ?_;refine wpIn_seq_k fun K4 H4=>?_
  refine wpIn_region_of_list (by kernel_rfl) ?_;have HR3:=Lib.hid ((HC.out.fr.nth 2 rfl).aft (H1X.out.trans HA3.out));have HR4:=Lib.hid ((HC.out.fr.nth 3 rfl).aft (H1X.out.trans HA3.out));have HWX:=Lib.hid (HC.out.fr.aft.trans (H1X.out.trans HA3.out));have hsw:=HC.out.hs;have hwn:=HA3.out.size;have hsyc:s + 1 + 1 + 1 < yc:=by have:=HF.out.ge;have:=hzw;have:=h12;have:=(HF.out.blks (yc,3,#[.int .i64 (mx:Nat)]) (by simp)).2.1;have h9:w2.heap.size <= yc:=this;omega
  have hb9:=HB.out.lt;have y1:W.cell? ⟨s + 1 + 1,0,none⟩ = some (.int .i64 0):=(HR3.out).cell 0;have y2:=(HR3.out).lt;have y3:=(HR3.out).frozen 0;have y4:W.cell? ⟨s + 1 + 1 + 1,0,none⟩ = some (.int .i64 0):=(HR4.out).cell 0;have y5:=(HR4.out).lt;have y6:=(HR4.out).frozen 0;go_wp2_with fail
  change K4 _ _;refine H4 _ _ ?_;clear H4;gi_wp2_with fail
  have hg5:W.grownBy (W.setCell ⟨s + 1 + 1,0,none⟩ (.int .i64 0)) (some (s + 1 + 1)):=only_setCell (only_refl _ _) (p:=⟨s + 1 + 1,0,none⟩) (.inl rfl) _;have B5:=(HR3.out).store 0 (.int .i64 0);have B6:=(HR4.out).far (p:=⟨s + 1 + 1,0,none⟩) (by show s + 1 + 1 + 1 ≠ s + 1 + 1;omega) (.int .i64 0);have A5:=(HWX.out).then_setCell (p:=⟨s + 1 + 1,0,none⟩) (by show w.heap.size <= s + 1 + 1;omega) (.int .i64 0);generalize W.setCell ⟨s + 1 + 1,0,none⟩ (.int .i64 0) = X5 at *;have hg6:X5.grownBy (X5.setCell ⟨s + 1 + 1 + 1,0,none⟩ (.int .i64 9)) (some (s + 1 + 1 + 1)):=only_setCell (only_refl _ _) (p:=⟨s + 1 + 1 + 1,0,none⟩) (.inl rfl) _;have B7:=B5.far (p:=⟨s + 1 + 1 + 1,0,none⟩) (by show s + 1 + 1 ≠ s + 1 + 1 + 1;omega) (.int .i64 9);have B8:=B6.store 0 (.int .i64 9);have A6:=A5.then_setCell (p:=⟨s + 1 + 1 + 1,0,none⟩) (by show w.heap.size <= s + 1 + 1 + 1;omega) (.int .i64 9);generalize X5.setCell ⟨s + 1 + 1 + 1,0,none⟩ (.int .i64 9) = X6 at *;have hg56:∀ j,s + 1 + 1 + 1 < j -> j < W.heap.size -> X6.heap[j]? = W.heap[j]?:=fun j h1 h2=>(hg6.block j (Nat.lt_of_lt_of_le h2 hg5.size) (fun e=>by have e:j = s + 1 + 1 + 1:=Option.some.inj e;omega)).trans (hg5.block j h2 (fun e=>by have e:j = s + 1 + 1:=Option.some.inj e;omega))
  have hs56:W.heap.size <= X6.heap.size:=Nat.le_trans hg5.size hg6.size;exact ⟨(Kept2.of_aft HA3.out (by omega)).trans ⟨fun j h1 h2=>hg56 j (by omega) (by omega),hs56⟩,rfl,HNO.out,A6,B7,B8⟩
end Go.Proofs
end
section
/- Walks: Bars. -/
namespace Go.Proofs
open Go.RowKit
attribute [local go_sem] Oper.semAt_some
set_option maxRecDepth 100000 in
set_option maxHeartbeats 4000000 in
theorem bars_good (la lb:List (Int × Int)) (play:Int) (lv:List (List Int)) (A B Al:Option Addr) (ca cb cl:Nat) (w:World) (hA:Prs w A la) (hB:Prs w B lb) (hL:Lists w Al lv) (he:edgesE la lb play = 0) (ho:LvlOk lv la.length lb.length) :
  Calls Tryz.prog 30 #[.slice A la.length ca,.slice B lb.length cb,.int .i64 play,.slice Al lv.length cl] w (BarsR play la lb lv w):=by
 obtain ⟨hla,hlb,hma,hmb,-,-,-⟩:=edgesE_ok he;obtain ⟨s,hs⟩:∃ s,w.heap.size = s:=⟨_,rfl⟩;rw [ho.n];have F0:=((((Fr.start w).alloc rfl 63 #[.slice B lb.length cb]).alloc (by simp) 69 #[.slice Al la.length cl]).alloc (by simp) 3 #[.int .i64 0]).alloc (by simp) 39 #[.int .i64 0];simp only [List.nil_append,List.cons_append] at F0;rw [hs] at F0;have HF0:=Lib.hid F0;have HE:=Lib.hid he;have HO:=Lib.hid ho;have HL0:=Lib.hid hL;have HQ:=Lib.hid (asked_any la lb play A B ca cb _ (hA.aft F0.aft) (hB.aft F0.aft))
 have HSM:Hid (∀ x w0 W,EdgesAt w0 W x la lb play A B ca cb -> ∀ (i k:Nat),i < la.length -> k < lb.length -> Calls Tryz.prog 87 #[.pointer (some ⟨x,0,none⟩),.agg #[.int .i64 (i:Nat),.int .i64 (k:Nat)]] W fun e w'=>e = .returned (.bool (sameB play la lb i k)) /\ Aft W w'):=Lib.hid fun x w0 W h i k hi hk=>by
  have:=same_any la lb play A B ca cb x w0 W h i k hi hk (List.all_eq_true.1 hma _ (List.getElem_mem hi)) (List.all_eq_true.1 hmb _ (List.getElem_mem hk))
  have e:sameB play la lb i k = sameM play la[i] lb[k]:=by
   unfold sameB;rw [List.getD_eq_getElem?_getD,List.getD_eq_getElem?_getD,List.getElem?_eq_getElem hi,List.getElem?_eq_getElem hk];rfl
  rw [e];exact this
 have HN1:Hid (lv.length = la.length):=Lib.hid ho.n;have HR1:Hid ((lv.all fun r=>decide (r.length = lb.length)) = true):=Lib.hid (List.all_eq_true.2 fun r hr=>decide_eq_true (ho.m r hr));have HR2:Hid ((lv.all fun r=>r.all lvlB) = true):=Lib.hid (List.all_eq_true.2 fun r hr=>List.all_eq_true.2 fun x hx=>by unfold lvlB;rw [fromB_iff];exact ho.v r hr x hx);clear hA hB hL he ho hma hmb F0;refine (callsIn_wide (n:=6)).1 ?_;refine callsIn_of_wp_marks Tryz.func30 rfl trivial ?_ rfl;simp only [Tryz.ntmps30,List.size_toArray,List.length_cons,List.length_nil,Nat.reduceAdd,Nat.reduceSub,Array.replicate_succ,Array.replicate_zero,List.push_toArray,List.append_toArray,List.nil_append,List.cons_append];refine wpIn_wide.2 ?_;go_upto_region 1 with fail
 try rw [hs]
 generalize (((w.alloc (.cells #[.slice B lb.length cb] 63)).alloc (.cells #[.slice Al la.length cl] 69)).alloc (.cells #[.int .i64 0] 3)).alloc (.cells #[.int .i64 0] 39) = W1 at *;have HL1:=Lib.hid (HL0.out.aft HF0.out.aft);have y0:W1.cell? ⟨s,0,none⟩ = some (.slice B lb.length cb):=(HF0.out.nth 0 rfl).cell 0;have y1:=(HF0.out.nth 0 rfl).lt;go_upto_region 2 with (go_at_call 80;refine HQ.out.mono ?_;rintro e w2 (⟨h0,-⟩ | ⟨-,x,rfl,h2⟩);exact absurd HE.out h0)
 obtain ⟨z,hz⟩:∃ z,w2.heap.size = z:=⟨_,rfl⟩;obtain ⟨W3,hW3⟩:∃ W3,w2.alloc (.cells #[.pointer (some ⟨x,0,none⟩)] 157) = W3:=⟨_,rfl⟩;have FZ:=(Fr.start w2).alloc rfl 157 #[.pointer (some ⟨x,0,none⟩)];simp only [List.nil_append] at FZ;rw [hz,hW3] at FZ;have HFZ:=Lib.hid FZ;have HX:=Lib.hid h2;have HA12:=Lib.hid h2.2.2.1
 have HEL:Hid (∀ W,Aft W1 W -> Calls Tryz.prog 88 #[.slice Al la.length cl,.func (.func 89) #[] #[.pointer (some ⟨s,0,none⟩)]] W fun e w'=>e = .returned (.bool true) /\ Aft W w'):=Lib.hid fun W h=>by
  have:=every_len lv Al cl lb.length s B cb W (HL1.out.aft h) ((HF0.out.nth 0 rfl).aft h);rw [HR1.out,HN1.out] at this;exact this
 have HEV:Hid (∀ W,Aft W1 W -> Calls Tryz.prog 88 #[.slice Al la.length cl,.func (.func 90) #[] #[]] W fun e w'=>e = .returned (.bool true) /\ Aft W w'):=Lib.hid fun W h=>by
  have:=every_rows lv Al cl W (HL1.out.aft h);rw [HR2.out,HN1.out] at this;exact this
 have ha3:Aft W1 W3:=HA12.out.trans (hW3 ▸ Aft.alloc w2 _);clear FZ h2 HQ y0 y1
 try rw [hz]
 try rw [hW3]
 clear hW3;have c1:W3.cell? ⟨s + 1,0,none⟩ = some (.slice Al la.length cl):=((HF0.out.nth 1 rfl).aft ha3).cell 0;have c2:=((HF0.out.nth 1 rfl).aft ha3).lt;have HE3:=Lib.hid (HEL.out _ ha3);have H3:=Lib.hid ha3;clear ha3 HEL;go_upto_region 6 with (go_at_call 88;refine HE3.out.mono ?_;rintro e w4 ⟨rfl,u,rfl⟩)
 have ha4:Aft W3 (W3.lat u):=Aft.lat _ u;have HFZ4:=Lib.hid (HFZ.out.later ha4);have ha14:=H3.out.trans ha4;clear HE3 c1 c2 ha4 HFZ H3;generalize W3.lat u = W4 at *;have c1:W4.cell? ⟨s + 1,0,none⟩ = some (.slice Al la.length cl):=((HF0.out.nth 1 rfl).aft ha14).cell 0;have c2:=((HF0.out.nth 1 rfl).aft ha14).lt;have HE4:=Lib.hid (HEV.out _ ha14);have H4:=Lib.hid ha14;clear ha14 HEV;go_upto_region 8 with (go_at_call 88;refine HE4.out.mono ?_;rintro e w5 ⟨rfl,u5,rfl⟩)
 have ha5:Aft W4 (W4.lat u5):=Aft.lat _ u5;have HFZ5:=Lib.hid (HFZ4.out.later ha5);have ha15:=H4.out.trans ha5;clear HE4 c1 c2 ha5 HFZ4 H4;generalize W4.lat u5 = W5 at *;go_upto_region 9 with fail
 obtain ⟨yc,hyc⟩:∃ yc,W5.heap.size = yc:=⟨_,rfl⟩;have hzy:z + 1 <= yc:=by have:=HFZ5.out.size;omega
 have F9:=((((HFZ5.out.up (B':=yc) (by omega) (by omega)).alloc hyc 3 #[.int .i64 0]).alloc (by simp [hyc]) 3 #[.int .i64 (la.length:Nat)]).alloc (by simp [hyc]) 3 #[.int .i64 (lb.length:Nat)]);simp only [List.nil_append,List.cons_append] at F9;obtain ⟨W6,hW6⟩:∃ W6,W5.alloc (.cells #[.int .i64 0] 3) = W6:=⟨_,rfl⟩;obtain ⟨W8,hW8⟩:∃ W8,(W6.alloc (.cells #[.int .i64 (la.length:Nat)] 3)).alloc (.cells #[.int .i64 (lb.length:Nat)] 3) = W8:=⟨_,rfl⟩;rw [hW6,hW8] at F9;have hs6:W6.heap.size = yc + 1:=by rw [<- hW6,World.size_alloc,hyc]
 have ha16:Aft W1 W6:=ha15.trans (hW6 ▸ Aft.alloc W5 _);have H8:Hid (Aft W1 W8):=Lib.hid (ha16.trans (hW8 ▸ (Aft.alloc W6 _).then_alloc _));have hs8:W8.heap.size = yc + 3:=by rw [<- hW8];simp [hs6]
 have HF9:=Lib.hid F9;have c1:W6.cell? ⟨s,0,none⟩ = some (.slice B lb.length cb):=((HF0.out.nth 0 rfl).aft ha16).cell 0;have c2:=((HF0.out.nth 0 rfl).aft ha16).lt;clear F9 HFZ5 ha15 ha16
 try rw [hyc]
 rw [hW6];go_upto_block 1 with (go_at_call 82;refine (pairs_any la.length lb.length _).mono ?_;rintro e w' ⟨rfl,rfl⟩)
 try rw [hs6]
 try rw [hW8]
 clear c1 c2 hW6 hW8 hyc;have HC:Hid (BrC w W1 w2 s x play la lb lv A B Al ca cb cl):=Lib.hid ⟨HF0.out,HL1.out,HO.out,HX.out,hs,fun W h i k hi hk=>HSM.out x W1 W h i k hi hk,hla,hlb⟩
 try rw [show yc + 1 + 1 = yc + 2 from rfl]
 have HF9':Hid (Fr w2 (yc + 3) [(z,157,#[.pointer (some ⟨x,0,none⟩)]),(yc,3,#[.int .i64 ((0:Nat):Int)]),(yc + 1,3,#[.int .i64 (la.length:Nat)]),(yc + 2,3,#[.int .i64 (lb.length:Nat)])] W8):=HF9;have HI0:Hid (BrI w2 x z yc play la lb lv 0 W8):=Lib.hid ⟨0,HF9'.out,Sheet.BarTo.start,Sheet.MaxTo.start,Nat.zero_le _⟩;have hsyc:s + 1 + 1 + 1 < yc:=by have:=HF0.out.size;have:=HA12.out.size;omega
 clear HF9 HF9' H8 HSM HR1 HR2;refine wp_block ?_;refine (wpIn_wide (n:=6)).1 ?_;refine wpIn_pairs (b1:=yc + 1) (b2:=yc + 2) (N:=la.length) (M:=lb.length) (by omega) (by omega) rfl (BrI w2 x z yc play la lb lv) (BrX w s play la lb lv)
  (by
   rintro r X X' b ⟨mx,h1,h2,h3⟩ hg hb1 _;rw [hs8] at hb1;exact ⟨mx,h1.grown hg (fun k e=>by have e:b = k:=Option.some.inj e;omega),h2,h3⟩)
  (by
   rintro c _ X X' b ⟨rfl,h1,h2,h3,h4⟩ hg hb1 _;rw [hs8] at hb1;exact ⟨rfl,h1,h2.grown hg (fun k e=>by have e:b = k:=Option.some.inj e;omega),h3.grown hg (fun e=>by have e:s + 1 + 1 = b:=Option.some.inj e;omega),h4.grown hg (fun e=>by have e:s + 1 + 1 + 1 = b:=Option.some.inj e;omega)⟩)
  (fun r X X' ⟨mx,h1,h2,h3⟩ ha'=>⟨mx,h1.later ha',h2,h3⟩)
  (fun r X ⟨mx,h1,h2,h3⟩=>⟨(h1.nth 2 rfl).cell 0,(h1.nth 3 rfl).cell 0,(h1.nth 2 rfl).lt,(h1.nth 3 rfl).lt⟩) HI0.out
  (fun z9 a0 b0=>{ tmps:=#[.slice A la.length ca,.slice B lb.length cb,.int .i64 play,.slice Al la.length cl,undef,.pointer (some ⟨s,0,none⟩),undef,.pointer (some ⟨s + 1,0,none⟩),.pointer (some ⟨s + 1 + 1,0,none⟩),.pointer (some ⟨s + 1 + 1 + 1,0,none⟩),.pointer (some ⟨z,0,none⟩),.int .i64 0,.pointer (some ⟨yc,0,none⟩),.pointer (some ⟨z9,0,none⟩),undef,undef,.tuple #[.pointer (some ⟨x,0,none⟩),.int .i64 0],.slice A la.length ca,.slice B lb.length cb,.int .i64 play,.tuple #[.pointer (some ⟨x,0,none⟩),.int .i64 0],.pointer (some ⟨x,0,none⟩),.int .i64 0,.bool false,.int .i64 0,.bool false,undef,.bool false,.slice Al la.length cl,.int .i64 (la.length:Nat),.slice A la.length ca,.int .i64 (la.length:Nat),.bool false,.bool false,.slice Al la.length cl,.func (.func 89) #[] #[.pointer (some ⟨s,0,none⟩)],.bool true,.bool false,.bool false,.bool false,.slice Al la.length cl,.bool true,.bool false,.slice A la.length ca,.int .i64 (la.length:Nat),.slice B lb.length cb,.int .i64 (lb.length:Nat),.func (.func 111) #[] #[.pointer (some ⟨yc + 1,0,none⟩),.pointer (some ⟨yc + 2,0,none⟩)],.agg #[.int .i64 (a0:Nat),.int .i64 (b0:Nat)],undef,undef,undef,undef,undef,undef,undef,undef,undef,undef,undef,undef,undef,undef,undef,undef,undef,undef,undef,undef,undef,undef,undef,undef,undef,undef,undef,undef,undef,undef,undef,undef,undef,undef,undef,undef,undef,undef,undef,undef],defers:=[] }) ?assign ?body ?done ?stop
 case assign =>
  intro l i j X K9 hK9;gi_wp2_with fail
  exact hK9
 case body =>
  intro l a0 b0 z9 X ha hb hI hz9 _ hB hl hr;obtain ⟨r₀,hr⟩:=hr;rw [hs8] at hz9 hl ⊢;exact br_body play la lb lv A B Al ca cb cl x s z z9 yc l w W1 w2 X r₀ HC.out a0 b0 ha hb hI hz9 hB hl hr hz hzy undef undef undef undef undef undef undef undef undef undef undef undef undef undef undef undef undef undef undef undef undef undef undef undef undef undef undef undef undef undef undef undef undef undef undef undef undef undef undef undef undef undef undef
 case done =>
  intro D9 X hDD hI hd;obtain ⟨mx,hF,hBT,hX,h30⟩:=hI;rw [hs8] at hDD;have h1X:Aft W1 X:=HA12.out.trans hF.aft;have HBAR:=Lib.hid hBT.bar;have HMT:=Lib.hid hX;have HWX:=Lib.hid (HF0.out.aft.trans h1X);have hD9:=Lib.hid hd;have h3:=(HF0.out.nth 2 rfl).aft h1X;have h4:=(HF0.out.nth 3 rfl).aft h1X;have y1:X.cell? ⟨s + 1 + 1,0,none⟩ = some (.int .i64 0):=h3.cell 0;have y2:=h3.lt;have y3:=h3.frozen 0;have y4:X.cell? ⟨s + 1 + 1 + 1,0,none⟩ = some (.int .i64 0):=h4.cell 0;have y5:=h4.lt;have y6:=h4.frozen 0;have y7:X.cell? ⟨yc,0,none⟩ = some (.int .i64 (mx:Nat)):=(hF.nth 1 rfl).cell 0;have y8:=(hF.nth 1 rfl).lt;have HH3:=Lib.hid h3;have HH4:=Lib.hid h4;clear hF hBT hX hd h1X h3 h4 HI0;go_wp2_with fail
  have B5:=HH3.out.store 0 (.int .i64 (mx:Nat));have B6:=HH4.out.far (p:=⟨s + 1 + 1,0,none⟩) (by show s + 1 + 1 + 1 ≠ s + 1 + 1;omega) (.int .i64 (mx:Nat));have A5:=HWX.out.then_setCell (p:=⟨s + 1 + 1,0,none⟩) (by show w.heap.size <= s + 1 + 1;omega) (.int .i64 (mx:Nat));have D5:(X.setCell ⟨s + 1 + 1,0,none⟩ (.int .i64 (mx:Nat))).heap[D9]? = some (.deferred (some [])):=(Below.heap_setCell X ⟨s + 1 + 1,0,none⟩ _ D9 (by show D9 ≠ s + 1 + 1;omega)).trans hD9.out;generalize X.setCell ⟨s + 1 + 1,0,none⟩ (.int .i64 (mx:Nat)) = X5 at *;have B7:=B5.far (p:=⟨s + 1 + 1 + 1,0,none⟩) (by show s + 1 + 1 ≠ s + 1 + 1 + 1;omega) (.int .i64 0);have B8:=B6.store 0 (.int .i64 0);have A6:=A5.then_setCell (p:=⟨s + 1 + 1 + 1,0,none⟩) (by show w.heap.size <= s + 1 + 1 + 1;omega) (.int .i64 0);have D6:(X5.setCell ⟨s + 1 + 1 + 1,0,none⟩ (.int .i64 0)).heap[D9]? = some (.deferred (some [])):=(Below.heap_setCell X5 ⟨s + 1 + 1 + 1,0,none⟩ _ D9 (by show D9 ≠ s + 1 + 1 + 1;omega)).trans D5;generalize X5.setCell ⟨s + 1 + 1 + 1,0,none⟩ (.int .i64 0) = X6 at *;refine leaves_marks w [D9] X6 A6 (fun D hD=>by rw [List.mem_singleton] at hD;subst hD;exact ⟨by omega,D6⟩) (List.nodup_cons.2 ⟨by simp,List.nodup_nil⟩) fun w' ha hs' hk=>?_
  have qz0:Blk w' (s + 1 + 1) 3 #[.int .i64 (mx:Nat)]:=(hk _ (by simp;omega)).trans B7;have z0:w'.cell? ⟨s + 1 + 1,0,none⟩ = some (.int .i64 (mx:Nat)):=qz0.cell 0;have qz1:Blk w' (s + 1 + 1 + 1) 39 #[.int .i64 0]:=(hk _ (by simp;omega)).trans B8;have z1:w'.cell? ⟨s + 1 + 1 + 1,0,none⟩ = some (.int .i64 0):=qz1.cell 0;exact ⟨.tuple #[.int .i64 (mx:Nat),.int .i64 0],by simp [results,Tryz.results30,go_sem,z0,z1],ha,.inl ⟨mx,rfl,HBAR.out,HMT.out⟩⟩
 case stop =>
  intro D9 c X hDD hI hd;obtain ⟨rfl,h1,A6,B7,B8⟩:=hI;rw [hs8] at hDD;have HNO:=Lib.hid h1;have HA6:=Lib.hid A6;have HB7:=Lib.hid B7;have HB8:=Lib.hid B8;have HD6:=Lib.hid hd;clear h1 A6 B7 B8 hd;refine (wpIn_wide (n:=6)).2 ?_;go_wp2_with fail
  refine leaves_marks w [D9] X HA6.out (fun D hD=>by rw [List.mem_singleton] at hD;subst hD;exact ⟨by omega,HD6.out⟩) (List.nodup_cons.2 ⟨by simp,List.nodup_nil⟩) fun w' ha hs' hk=>?_
  have qz0:Blk w' (s + 1 + 1) 3 #[.int .i64 0]:=(hk _ (by simp;omega)).trans HB7.out;have z0:w'.cell? ⟨s + 1 + 1,0,none⟩ = some (.int .i64 0):=qz0.cell 0;have qz1:Blk w' (s + 1 + 1 + 1) 39 #[.int .i64 9]:=(hk _ (by simp;omega)).trans HB8.out;have z1:w'.cell? ⟨s + 1 + 1 + 1,0,none⟩ = some (.int .i64 9):=qz1.cell 0;exact ⟨.tuple #[.int .i64 0,.int .i64 9],by simp [results,Tryz.results30,go_sem,z0,z1],ha,.inr ⟨rfl,HNO.out⟩⟩
end Go.Proofs
end
section
/- Walks: what the law's examples come to. -/
namespace Go.Proofs
open Go.RowKit
def threeS:SetL:=⟨3,threeJ⟩
def ringS:SetL:=⟨4,ringJ⟩
theorem three_play:PlayOf threeS (2,1) :=
 .inr (.inr ⟨rfl,(2,1),(0,1),⟨Sheet.three_least,by decide,by decide,by decide⟩,⟨Sheet.three_leastY,by decide,by decide,by decide⟩,by decide⟩)
theorem ring_play:PlayOf ringS (1,1) :=
 .inr (.inr ⟨rfl,(1,1),(0,1),⟨Sheet.ring_least,by decide,by decide,by decide⟩,⟨Sheet.ring_leastY,by decide,by decide,by decide⟩,by decide⟩)
theorem aw12a {w:World} {b:Nat} (h:Quads w (some ⟨b,0,none⟩) threeJ):Calls Tryz.prog 25 #[.agg #[.int .i64 3,.slice (some ⟨b,0,none⟩) 3 3]] w fun e w'=>e = .returned (.tuple #[.agg #[.int .i64 2,.int .i64 1],.int .i64 0]) /\ Aft w w':=by
 refine Calls.mono (play_good threeS (some ⟨b,0,none⟩) 3 w h (by decide)) ?_;rintro e w' ⟨p,rfl,hp,ha⟩;have:=hp.same three_play;subst this;exact ⟨rfl,ha⟩
theorem aw12b {w:World} {b:Nat} (h:Quads w (some ⟨b,0,none⟩) ringJ):Calls Tryz.prog 25 #[.agg #[.int .i64 4,.slice (some ⟨b,0,none⟩) 4 4]] w fun e w'=>e = .returned (.tuple #[.agg #[.int .i64 1,.int .i64 1],.int .i64 0]) /\ Aft w w':=by
 refine Calls.mono (play_good ringS (some ⟨b,0,none⟩) 4 w h (by decide)) ?_;rintro e w' ⟨p,rfl,hp,ha⟩;have:=hp.same ring_play;subst this;exact ⟨rfl,ha⟩
def legL:List (Int × Bool):=[(0,false),(1,false),(2,true)]
theorem aw51 {w:World} {b g:Nat} (h:Quads w (some ⟨b,0,none⟩) threeJ) (hb:Blk w g 34 #[.int .i64 0,.bool false,.int .i64 1,.bool false,.int .i64 2,.bool true]):Calls Tryz.prog 9 #[.agg #[.int .i64 3,.slice (some ⟨b,0,none⟩) 3 3],.agg #[.bool false,.slice (some ⟨g,0,none⟩) 3 3]] w fun e w'=>e = .returned (.tuple #[.agg #[.int .i64 2,.int .i64 1],.int .i64 0]) /\ Aft w w':=by
 have h1:provesE threeS legL = 0:=by decide
 have h2:provesP threeS false legL = (2,1):=by decide
 have:=proves_any threeS (some ⟨b,0,none⟩) 3 false legL (some ⟨g,0,none⟩) 3 w h (rows_of_blk (enc:=encG) (fun _=>rfl) hb rfl (by decide));rw [h1,h2] at this;exact this
theorem aw37a {w:World} {b:Nat} {A:Option Addr} {c:Nat} (h:Quads w (some ⟨b,0,none⟩) threeJ) (hL:Quads w A ([0,12,34].map shI)):Calls Tryz.prog 26 #[.agg #[.int .i64 3,.slice (some ⟨b,0,none⟩) 3 3],.slice A 3 c] w fun e w'=>e = .returned (.tuple #[.agg #[.int .i64 2,.int .i64 1],.int .i64 0]) /\ Aft w w':=by
 have h2:needsP threeS ([0,12,34].map shI) = (2,1):=by decide
 have:=needs_good threeS (some ⟨b,0,none⟩) 3 ([0,12,34].map shI) A c w h hL (by decide);rw [h2] at this;exact this
theorem aw37b {w:World} {b:Nat} {A:Option Addr} {c:Nat} (h:Quads w (some ⟨b,0,none⟩) ringJ) (hL:Quads w A ([0,0,0,0].map shI)):Calls Tryz.prog 26 #[.agg #[.int .i64 4,.slice (some ⟨b,0,none⟩) 4 4],.slice A 4 c] w fun e w'=>e = .returned (.tuple #[.agg #[.int .i64 1,.int .i64 1],.int .i64 0]) /\ Aft w w':=by
 have h2:needsP ringS ([0,0,0,0].map shI) = (1,1):=by decide
 have:=needs_good ringS (some ⟨b,0,none⟩) 4 ([0,0,0,0].map shI) A c w h hL (by decide);rw [h2] at this;exact this
theorem three_most (N:Int) (hN:2 <= N):∀ north,Sheet.AtMost (Sheet.legs (joOf north threeS.J)) N 1:=fun north=>by
 have:=three_play.most north;exact this.more (by decide) (by decide) (by omega)
theorem aw14a {w:World} {b:Nat} (h:Quads w (some ⟨b,0,none⟩) threeJ):Calls Tryz.prog 12 #[.agg #[.int .i64 3,.slice (some ⟨b,0,none⟩) 3 3],.int .i64 0,.int .i64 1,.agg #[.int .i64 3,.int .i64 1]] w fun e w'=>e = .returned (.tuple #[.agg #[.int .i64 10,.int .i64 1,.int .i64 13,.int .i64 1],.agg #[.int .i64 (-3),.int .i64 1,.int .i64 3,.int .i64 1],.int .i64 0]) /\ Aft w w':=by
 refine Calls.mono (between_good threeS (some ⟨b,0,none⟩) 3 0 1 3 1 w h (by decide) (by decide) (by decide) ⟨by decide,by decide,by decide,by decide⟩) ?_;intro e w' hr;obtain ⟨t0,t1,ha,c0,c1,hr⟩:=hr.most (three_most 3 (by decide));obtain ⟨e1,e2⟩:=Sheet.three_x3 c0;obtain ⟨e3,e4⟩:=Sheet.three_y3 c1;rcases hr with ⟨h1,-⟩ | ⟨-,rfl⟩
 ·rw [e1] at h1;exact absurd h1 (by decide)
 ·refine ⟨?_,ha⟩;unfold bt4;rw [e1,e2,e3,e4];rfl
theorem aw14b {w:World} {b:Nat} (h:Quads w (some ⟨b,0,none⟩) threeJ):Calls Tryz.prog 12 #[.agg #[.int .i64 3,.slice (some ⟨b,0,none⟩) 3 3],.int .i64 0,.int .i64 1,.agg #[.int .i64 2,.int .i64 1]] w fun e w'=>(∃ q1 q2 q3 q4,e = .returned (.tuple #[.agg #[.int .i64 12,.int .i64 1,.int .i64 12,.int .i64 1],.agg #[.int .i64 q1,.int .i64 q2,.int .i64 q3,.int .i64 q4],.int .i64 0])) /\ Aft w w':=by
 refine Calls.mono (between_good threeS (some ⟨b,0,none⟩) 3 0 1 2 1 w h (by decide) (by decide) (by decide) ⟨by decide,by decide,by decide,by decide⟩) ?_;intro e w' hr;obtain ⟨t0,t1,ha,c0,c1,hr⟩:=hr.most (three_most 2 (by decide));obtain ⟨e1,e2⟩:=Sheet.three_x2 c0;rcases hr with ⟨h1,-⟩ | ⟨-,rfl⟩
 ·rw [e1] at h1;exact absurd h1 (by decide)
 ·refine ⟨⟨(bt4 1 t1 0 1).a,(bt4 1 t1 0 1).b,(bt4 1 t1 0 1).x,(bt4 1 t1 0 1).y,?_⟩,ha⟩
  have e5:bt4 1 t0 0 1 = ⟨12,1,12,1⟩:=by
   unfold bt4;rw [e1,e2];rfl
  rw [e5];rfl
def tabV (p:Nat × Nat):Nat:=vN [[0,1,0],[1,0,2],[0,2,0]] p
theorem ex_bar:Sheet.Bar (sameB 11 edgeA edgeB) 3 3 fun a b=>tabV (a,b):=by
 refine ⟨fun i k hi hk=>?_,fun i k i' k' hi hk hi' hk'=>?_⟩
 ·have h:∀ i,i < 3 -> ∀ k,k < 3 -> (0 < tabV (i,k) ↔ sameB 11 edgeA edgeB i k = true):=by decide
  exact h i hi k hk
 ·have h:∀ i,i < 3 -> ∀ k,k < 3 -> ∀ i',i' < i -> ∀ k',k' < k -> 0 < tabV (i,k) -> tabV (i',k') ≠ tabV (i,k):=by decide
  exact h i hi k hk i' hi' k' hk'
theorem tab_two:∀ i k,i < 3 -> k < 3 -> tabV (i,k) <= 2:=fun i k hi hk=>by
 have h:∀ i,i < 3 -> ∀ k,k < 3 -> tabV (i,k) <= 2:=by decide
 exact h i hi k hk
theorem ex_long:Sheet.Long (sameB 11 edgeA edgeB) 3 3 0 0 2 :=
 ⟨⟨[(1,0),(2,1)],⟨by decide,by decide,by decide,by decide⟩,rfl⟩,fun l hl=>ex_bar.le tab_two hl⟩
theorem aw25 {w:World} {b1 b2:Nat} (h1:Prs w (some ⟨b1,0,none⟩) edgeA) (h2:Prs w (some ⟨b2,0,none⟩) edgeB):Calls Tryz.prog 28 #[.slice (some ⟨b1,0,none⟩) 3 3,.slice (some ⟨b2,0,none⟩) 3 3,.int .i64 11] w fun e w'=>(∃ A c,e = .returned (.tuple #[.slice A 2 c,.int .i64 0])) /\ Aft w w':=by
 refine Calls.mono (match_good edgeA edgeB 11 (some ⟨b1,0,none⟩) (some ⟨b2,0,none⟩) 3 3 w h1 h2 (by decide)) ?_;rintro e w' ⟨v,l,rfl,ho,-,hl,ha⟩;have hl2:l.length = 2:=hl.same ex_long;obtain ⟨A,q,c,rfl,rfl⟩:=own_form ho;exact ⟨⟨A,c,by rw [hl2]⟩,ha⟩
def pairL:List (Int × Int):=[(1,0),(2,1)]
theorem aw20 {w:World} {b1 b2 g:Nat} (h1:Prs w (some ⟨b1,0,none⟩) edgeA) (h2:Prs w (some ⟨b2,0,none⟩) edgeB) (hb:Blk w g 67 #[.int .i64 1,.int .i64 0,.int .i64 2,.int .i64 1]):Calls Tryz.prog 29 #[.slice (some ⟨b1,0,none⟩) 3 3,.slice (some ⟨b2,0,none⟩) 3 3,.int .i64 11,.slice (some ⟨g,0,none⟩) 2 2] w fun e w'=>e = .returned (.tuple #[.bool true,.int .i64 0]) /\ Aft w w':=by
 have e1:matchV edgeA edgeB 11 pairL = true:=by decide
 have e2:matchE edgeA edgeB 11 pairL = 0:=by decide
 have:=matches_any edgeA edgeB 11 pairL (some ⟨b1,0,none⟩) (some ⟨b2,0,none⟩) (some ⟨g,0,none⟩) 3 3 2 w h1 h2 (rows_of_blk (enc:=enc2) (fun _=>rfl) hb rfl (by decide));rw [e1,e2] at this;exact this
def tabL:List (List Int):=[[0,1,0],[1,0,2],[0,2,0]]
theorem tab_ok:LvlOk tabL 3 3:=⟨rfl,by decide,by decide⟩
theorem max_two {mx:Nat} (h:Sheet.MaxTo 3 3 (vN tabL) (3 * 3) mx):mx = 2:=by
 have h1:=h.le 1 2 (by decide) (by decide) (by decide);have e1:vN tabL (1,2) = 2:=rfl;rcases h.has with e | ⟨i,k,hi,hk,e⟩
 ·omega
 ·have:=tab_two i k hi hk;have e2:tabV (i,k) = vN tabL (i,k):=rfl;omega
theorem ints_of_blk {w:World} {g:Nat} {l:List Int} {cs:Array Value} (h:Blk w g 3 cs) (hc:cs = (l.map (Value.int .i64)).toArray) (hl:l.length <= 1000):Ints w (some ⟨g,0,none⟩) l:=by
 subst hc;refine ⟨by omega,.inr ⟨g,0,rfl,h.lt,fun i hi=>⟨[.int .i64 l[i]],rfl,rfl,fun j hj=>?_⟩⟩⟩;have:j = 0:=by simp at hj;omega
 subst this;have:=h.cell i;simpa [hi] using this
theorem one_cell {w:World} {g i:Nat} {v:Value} (h:w.cell? ⟨g,i,none⟩ = some v):∀ j,(hj:j < [v].length) -> w.cell? ⟨g,0 + i * 1 + j,none⟩ = some [v][j]:=fun j hj=>by
 have:j = 0:=by simp at hj;omega
 subst this;simpa using h
theorem aw23 {w:World} {b1 b2 g1 g2 g3 g:Nat} (h1:Prs w (some ⟨b1,0,none⟩) edgeA) (h2:Prs w (some ⟨b2,0,none⟩) edgeB) (k1:Blk w g1 3 #[.int .i64 0,.int .i64 1,.int .i64 0]) (k2:Blk w g2 3 #[.int .i64 1,.int .i64 0,.int .i64 2]) (k3:Blk w g3 3 #[.int .i64 0,.int .i64 2,.int .i64 0])
  (hb:Blk w g 58 #[.slice (some ⟨g1,0,none⟩) 3 3,.slice (some ⟨g2,0,none⟩) 3 3,.slice (some ⟨g3,0,none⟩) 3 3]):Calls Tryz.prog 30 #[.slice (some ⟨b1,0,none⟩) 3 3,.slice (some ⟨b2,0,none⟩) 3 3,.int .i64 11,.slice (some ⟨g,0,none⟩) 3 3] w fun e w'=>e = .returned (.tuple #[.int .i64 2,.int .i64 0]) /\ Aft w w':=by
 have hL:Lists w (some ⟨g,0,none⟩) tabL:=by
  refine ⟨by decide,.inr ⟨g,0,rfl,hb.lt,fun i hi=>?_⟩⟩;have hi':i < 3:=hi
  match i,hi' with
  | 0,_=>exact ⟨[.slice (some ⟨g1,0,none⟩) 3 3],rfl,⟨_,3,rfl,ints_of_blk k1 rfl (Nat.le_of_ble_eq_true rfl)⟩,one_cell (hb.cell 0)⟩
  | 1,_=>exact ⟨[.slice (some ⟨g2,0,none⟩) 3 3],rfl,⟨_,3,rfl,ints_of_blk k2 rfl (Nat.le_of_ble_eq_true rfl)⟩,one_cell (hb.cell 1)⟩
  | 2,_=>exact ⟨[.slice (some ⟨g3,0,none⟩) 3 3],rfl,⟨_,3,rfl,ints_of_blk k3 rfl (Nat.le_of_ble_eq_true rfl)⟩,one_cell (hb.cell 2)⟩
 refine Calls.mono (bars_good edgeA edgeB 11 tabL (some ⟨b1,0,none⟩) (some ⟨b2,0,none⟩) (some ⟨g,0,none⟩) 3 3 3 w h1 h2 hL (by decide) tab_ok) ?_;rintro e w' ⟨ha,⟨mx,rfl,-,hm⟩ | ⟨-,hn⟩⟩
 ·have:=max_two hm;subst this;exact ⟨rfl,ha⟩
 ·exact absurd ex_bar hn
end Go.Proofs
end
