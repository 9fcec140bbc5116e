/- Own texts, merged: Rfm0. -/
import Derived.Test.YtobpdobneocckaaGreatDoorP10
import Derived.BigGuard
section
/- Walks: the reference's means and ends. -/
namespace Go.Proofs
open Go.RowKit
attribute [local go_sem] Oper.semAt_some
theorem cells_aft {X W:World} (h:Aft X W) {b i:Nat} {v:Value} (hc:X.cell? ⟨b,i,none⟩ = some v):W.cell? ⟨b,i,none⟩ = some v:=by
 refine cell_aftX h ?_ hc;refine Nat.lt_of_not_le fun hle=>?_
 have:X.heap[b]? = none:=Array.getElem?_eq_none hle;unfold World.cell? at hc;simp [this] at hc
theorem has_common (k1 k2:List Int) (x:Int):hasB (commonL k1 [k2]) x = (hasB k1 x && hasB k2 x):=by
 rw [Bool.eq_iff_iff,Bool.and_eq_true,hasB_iff,hasB_iff,hasB_iff];simp [commonL,hasB_iff]
set_option maxRecDepth 100000 in
set_option maxHeartbeats 2000000 in
theorem meansA (w:World) (p:Int) (a1 a3:Option Addr) (n1 n2 n3 n4 c1 c2 c3 c4 b2 o2 b4 o4 bR oR nR cR bm om l1 cm r1 n i:Nat) (k1:List Int) (Ak:Option Addr) (ck:Nat) (x:Int) (o:Int)
  (hi:i < n4) (hn:n < n2) (hnR:n < nR) (hr1:r1 < l1) (cL0:w.cell? ⟨b4,o4 + i * 2,none⟩ = some (.int .i64 n)) (cL1:w.cell? ⟨b4,o4 + i * 2 + 1,none⟩ = some (.int .i64 o))
  (cW:w.cell? ⟨b2,o2 + n,none⟩ = some (.slice (some ⟨bm,om,none⟩) l1 cm)) (cR1:w.cell? ⟨bR,oR + n,none⟩ = some (.int .i64 r1)) (cK:w.cell? ⟨bm,om + r1 * 2,none⟩ = some (.slice Ak k1.length ck)) (hk1:Ints w Ak k1) (h1:hasB k1 x = false)
  (hbl:b4 < w.heap.size) :
  Calls Tryz.prog 163 #[.agg #[.int .i64 p,.slice a1 n1 c1,.slice (some ⟨b2,o2,none⟩) n2 c2,.slice a3 n3 c3,.slice (some ⟨b4,o4,none⟩) n4 c4],.slice (some ⟨bR,oR,none⟩) nR cR,.int .i64 i,.int .i64 x] w
   fun e w'=>e = .returned (.bool false) /\ Aft w w':=by
 have H1:=Lib.hid h1;have HK1:=Lib.hid hk1;have i1:(0:Int) <= (n:Int) /\ (n:Int) < (n2:Int):=by omega
 have i2:(0:Int) <= (n:Int) /\ (n:Int) < (nR:Int):=by omega
 have i3:(0:Int) <= (r1:Int) /\ (r1:Int) < (l1:Int):=by omega
 have i4:(0:Int) <= (i:Int) /\ (i:Int) < (n4:Int):=by omega
 have CW0:=Lib.hid cW;have CR0:=Lib.hid cR1;have CK0:=Lib.hid cK;clear cW cR1 cK h1 hk1;go_enter Tryz.func163,Tryz.ntmps163;(repeat (first | go_big_skip | go_big_want | go_big_move | go_big_op | go_step | go_upon | go_back));go_upto_region 2 with fail
 have hX0:Aft w ((w.alloc (.cells #[.int .i64 p,.slice a1 n1 c1,.slice (some ⟨b2,o2,none⟩) n2 c2,.slice a3 n3 c3,.slice (some ⟨b4,o4,none⟩) n4 c4] 35)).alloc (.cells #[.int .i64 n,.int .i64 o] 89)):=(Aft.alloc _ _).then_alloc _;have hB0:Blk ((w.alloc (.cells #[.int .i64 p,.slice a1 n1 c1,.slice (some ⟨b2,o2,none⟩) n2 c2,.slice a3 n3 c3,.slice (some ⟨b4,o4,none⟩) n4 c4] 35)).alloc (.cells #[.int .i64 n,.int .i64 o] 89)) w.heap.size 35 _:=(Blk.new w 35 _).alloc _;have hB1:=Blk.new (w.alloc (.cells #[.int .i64 p,.slice a1 n1 c1,.slice (some ⟨b2,o2,none⟩) n2 c2,.slice a3 n3 c3,.slice (some ⟨b4,o4,none⟩) n4 c4] 35)) 89 #[.int .i64 n,.int .i64 o];rw [World.size_alloc] at hB1;generalize ((w.alloc (.cells #[.int .i64 p,.slice a1 n1 c1,.slice (some ⟨b2,o2,none⟩) n2 c2,.slice a3 n3 c3,.slice (some ⟨b4,o4,none⟩) n4 c4] 35)).alloc (.cells #[.int .i64 n,.int .i64 o] 89)) = X0 at *;have HX0:=Lib.hid hX0;have C2:Hid (X0.cell? ⟨w.heap.size,2,none⟩ = some (.slice (some ⟨b2,o2,none⟩) n2 c2)):=Lib.hid (hB0.cell 2);have C90:Hid (X0.cell? ⟨w.heap.size + 1,0,none⟩ = some (.int .i64 n)):=Lib.hid (hB1.cell 0);have C91:Hid (X0.cell? ⟨w.heap.size + 1,1,none⟩ = some (.int .i64 o)):=Lib.hid (hB1.cell 1);have CW:=Lib.hid (cells_aft hX0 CW0.out);have CR:=Lib.hid (cells_aft hX0 CR0.out);have CK:=Lib.hid (cells_aft hX0 CK0.out);clear hX0 hB0 hB1 CW0 CR0 CK0;generalize w.heap.size = S at *;have hmx:Tryz.prog.follows .mixedOrders = true:=by kernel_rfl
 refine wp_region_valsG hmx 54 rfl (by kernel_rfl) (by kernel_rfl) [.pointer (some ⟨S,2,none⟩),.slice (some ⟨b2,o2,none⟩) n2 c2,.pointer (some ⟨S + 1,0,none⟩),.int .i64 n,.pointer (some ⟨b2,o2 + n,none⟩),.slice (some ⟨bm,om,none⟩) l1 cm,.slice (some ⟨bR,oR,none⟩) nR cR,.pointer (some ⟨S + 1,0,none⟩),.int .i64 n,.pointer (some ⟨bR,oR + n,none⟩),.int .i64 r1,.pointer (some ⟨bm,om + r1 * 2,none⟩),.pointer (some ⟨bm,om + r1 * 2,none⟩),.slice Ak k1.length ck,.int .i64 x,.bool false,.bool false,undef,undef,undef,undef,undef,undef,undef,undef,undef,undef,undef,undef,undef,undef,undef,undef,undef,undef,undef,undef,undef,.bool false,.bool false] rfl (fun X=>Aft X0 X) (Aft.drew _) ?step ?fin
 case step =>
  intro i' o' v ho hv
  match i',ho,hv with
  | 0,ho,hv =>
   cases ho;cases hv;refine .inl ⟨rfl,fun a X hk hX K hK=>?_⟩;have e_4:a.eval (.tmp 4) = .pointer (some ⟨S,0,none⟩):=(hk.same 4 (by decide)).trans rfl;exact op_val (by simp [go_sem,ev' e_4]) (hK _ hX)
  | 1,ho,hv =>
   cases ho;cases hv;refine .inl ⟨rfl,fun a X hk hX K hK=>?_⟩;have e_15:a.eval (.tmp 15) = .pointer (some ⟨S,2,none⟩):=hk.at_ 0 _ 15 _ rfl (by decide) _ rfl rfl rfl;have hc:=cells_aft hX C2.out;exact op_val (by simp [go_sem,ev' e_15,hc]) (hK _ hX)
  | 2,ho,hv =>
   cases ho;cases hv;refine .inl ⟨rfl,fun a X hk hX K hK=>?_⟩;have e_9:a.eval (.tmp 9) = .pointer (some ⟨S + 1,0,none⟩):=(hk.same 9 (by decide)).trans rfl;exact op_val (by simp [go_sem,ev' e_9]) (hK _ hX)
  | 3,ho,hv =>
   cases ho;cases hv;refine .inl ⟨rfl,fun a X hk hX K hK=>?_⟩;have e_17:a.eval (.tmp 17) = .pointer (some ⟨S + 1,0,none⟩):=hk.at_ 2 _ 17 _ rfl (by decide) _ rfl rfl rfl;have hc:=cells_aft hX C90.out;exact op_val (by simp [go_sem,ev' e_17,hc]) (hK _ hX)
  | 4,ho,hv =>
   cases ho;cases hv;refine .inl ⟨rfl,fun a X hk hX K hK=>?_⟩;have e_16:a.eval (.tmp 16) = .slice (some ⟨b2,o2,none⟩) n2 c2:=hk.at_ 1 _ 16 _ rfl (by decide) _ rfl rfl rfl;have e_18:a.eval (.tmp 18) = .int .i64 n:=hk.at_ 3 _ 18 _ rfl (by decide) _ rfl rfl rfl;exact op_val (by simp [go_sem,ev' e_16,ev' e_18,i1]) (hK _ hX)
  | 5,ho,hv =>
   cases ho;cases hv;refine .inl ⟨rfl,fun a X hk hX K hK=>?_⟩;have e_19:a.eval (.tmp 19) = .pointer (some ⟨b2,o2 + n,none⟩):=hk.at_ 4 _ 19 _ rfl (by decide) _ rfl rfl rfl;have hc:=cells_aft hX CW.out;exact op_val (by simp [go_sem,ev' e_19,hc]) (hK _ hX)
  | 6,ho,hv =>
   cases ho;cases hv;refine .inl ⟨rfl,fun a X hk hX K hK=>?_⟩;have e_1:a.eval (.tmp 1) = .slice (some ⟨bR,oR,none⟩) nR cR:=(hk.same 1 (by decide)).trans rfl;exact op_val (by simp [go_sem,ev' e_1]) (hK _ hX)
  | 7,ho,hv =>
   cases ho;cases hv;refine .inl ⟨rfl,fun a X hk hX K hK=>?_⟩;have e_9:a.eval (.tmp 9) = .pointer (some ⟨S + 1,0,none⟩):=(hk.same 9 (by decide)).trans rfl;exact op_val (by simp [go_sem,ev' e_9]) (hK _ hX)
  | 8,ho,hv =>
   cases ho;cases hv;refine .inl ⟨rfl,fun a X hk hX K hK=>?_⟩;have e_22:a.eval (.tmp 22) = .pointer (some ⟨S + 1,0,none⟩):=hk.at_ 7 _ 22 _ rfl (by decide) _ rfl rfl rfl;have hc:=cells_aft hX C90.out;exact op_val (by simp [go_sem,ev' e_22,hc]) (hK _ hX)
  | 9,ho,hv =>
   cases ho;cases hv;refine .inl ⟨rfl,fun a X hk hX K hK=>?_⟩;have e_21:a.eval (.tmp 21) = .slice (some ⟨bR,oR,none⟩) nR cR:=hk.at_ 6 _ 21 _ rfl (by decide) _ rfl rfl rfl;have e_23:a.eval (.tmp 23) = .int .i64 n:=hk.at_ 8 _ 23 _ rfl (by decide) _ rfl rfl rfl;exact op_val (by simp [go_sem,ev' e_21,ev' e_23,i2]) (hK _ hX)
  | 10,ho,hv =>
   cases ho;cases hv;refine .inl ⟨rfl,fun a X hk hX K hK=>?_⟩;have e_24:a.eval (.tmp 24) = .pointer (some ⟨bR,oR + n,none⟩):=hk.at_ 9 _ 24 _ rfl (by decide) _ rfl rfl rfl;have hc:=cells_aft hX CR.out;exact op_val (by simp [go_sem,ev' e_24,hc]) (hK _ hX)
  | 11,ho,hv =>
   cases ho;cases hv;refine .inl ⟨rfl,fun a X hk hX K hK=>?_⟩;have e_20:a.eval (.tmp 20) = .slice (some ⟨bm,om,none⟩) l1 cm:=hk.at_ 5 _ 20 _ rfl (by decide) _ rfl rfl rfl;have e_25:a.eval (.tmp 25) = .int .i64 r1:=hk.at_ 10 _ 25 _ rfl (by decide) _ rfl rfl rfl;exact op_val (by simp [go_sem,ev' e_20,ev' e_25,i3]) (hK _ hX)
  | 12,ho,hv =>
   cases ho;cases hv;refine .inl ⟨rfl,fun a X hk hX K hK=>?_⟩;have e_26:a.eval (.tmp 26) = .pointer (some ⟨bm,om + r1 * 2,none⟩):=hk.at_ 11 _ 26 _ rfl (by decide) _ rfl rfl rfl;exact op_val (by simp [go_sem,ev' e_26]) (hK _ hX)
  | 13,ho,hv =>
   cases ho;cases hv;refine .inl ⟨rfl,fun a X hk hX K hK=>?_⟩;have e_27:a.eval (.tmp 27) = .pointer (some ⟨bm,om + r1 * 2,none⟩):=hk.at_ 12 _ 27 _ rfl (by decide) _ rfl rfl rfl;have hc:=cells_aft hX CK.out;exact op_val (by simp [go_sem,ev' e_27,hc]) (hK _ hX)
  | 14,ho,hv =>
   cases ho;cases hv;refine .inl ⟨rfl,fun a X hk hX K hK=>?_⟩;have e_3:a.eval (.tmp 3) = .int .i64 x:=(hk.same 3 (by decide)).trans rfl;exact op_val (by simp [go_sem,ev' e_3]) (hK _ hX)
  | 15,ho,hv =>
   cases ho;cases hv;refine .inl ⟨rfl,fun a X hk hX K hK=>?_⟩;have e_28:a.eval (.tmp 28) = .slice Ak k1.length ck:=hk.at_ 13 _ 28 _ rfl (by decide) _ rfl rfl rfl;have e_29:a.eval (.tmp 29) = .int .i64 x:=hk.at_ 14 _ 29 _ rfl (by decide) _ rfl rfl rfl;refine op_call2 Tryz.func125 (by kernel_rfl) (by kernel_rfl) _ _ rfl e_28 e_29 (has_any Ak k1 ck x X (HK1.out.aft (HX0.out.trans hX))) ?_;rintro e w' ⟨rfl,rfl⟩;rw [H1.out];exact ⟨_,rfl,hK _ hX⟩
  | 16,ho,hv =>
   cases ho;cases hv;refine .inl ⟨rfl,fun a X hk hX K hK=>?_⟩;have e_30:a.eval (.tmp 30) = .bool false:=hk.at_ 15 _ 30 _ rfl (by decide) _ rfl rfl rfl;exact op_val (by simp [go_sem,ev' e_30]) (hK _ hX)
  | 17,ho,hv | 18,ho,hv | 19,ho,hv | 20,ho,hv | 21,ho,hv | 22,ho,hv | 23,ho,hv | 24,ho,hv | 25,ho,hv | 26,ho,hv | 27,ho,hv | 28,ho,hv | 29,ho,hv | 30,ho,hv | 31,ho,hv | 32,ho,hv | 33,ho,hv | 34,ho,hv | 35,ho,hv | 36,ho,hv | 37,ho,hv =>
   cases ho;cases hv;exact .inr ⟨rfl,rfl⟩
  | 38,ho,hv =>
   cases ho;cases hv;refine .inl ⟨rfl,fun a X hk hX K hK=>?_⟩;have e_31:a.eval (.tmp 31) = .bool false:=hk.at_ 16 _ 31 _ rfl (by decide) _ rfl rfl rfl;have e_52:a.eval (.tmp 52) = undef:=hk.at_ 37 _ 52 _ rfl (by decide) _ rfl rfl rfl;exact op_val (by simp [go_sem,ev' e_31,ev' e_52]) (hK _ hX)
  | 39,ho,hv =>
   cases ho;cases hv;refine .inl ⟨rfl,fun a X hk hX K hK=>?_⟩;have e_53:a.eval (.tmp 53) = .bool false:=hk.at_ 38 _ 53 _ rfl (by decide) _ rfl rfl rfl;exact op_val (by simp [go_sem,ev' e_53]) (hK _ hX)
  | _ + 40,ho,_=>cases ho
 case fin =>
  intro X hX;simp only [List.zip_cons_cons,List.zip_nil_right,putAll,Act.put,List.setIfInBounds_toArray,List.set_cons_succ,List.set_cons_zero];(repeat (first | go_big_skip | go_big_want | go_big_move | go_big_op | go_step | go_upon | go_back));go_ret;exact ⟨rfl,HX0.out.trans hX⟩
set_option maxRecDepth 100000 in
set_option maxHeartbeats 2000000 in
theorem meansB (w:World) (p:Int) (a1 a3:Option Addr) (n1 n2 n3 n4 c1 c2 c3 c4 b2 o2 b4 o4 bR oR nR cR bm om l1 cm r1 n i:Nat) (k1:List Int) (Ak:Option Addr) (ck:Nat) (x:Int)
  (hi:i < n4) (hn:n < n2) (hnR:n < nR) (hr1:r1 < l1) (cL0:w.cell? ⟨b4,o4 + i * 2,none⟩ = some (.int .i64 n)) (cL1:w.cell? ⟨b4,o4 + i * 2 + 1,none⟩ = some (.int .i64 (-1)))
  (cW:w.cell? ⟨b2,o2 + n,none⟩ = some (.slice (some ⟨bm,om,none⟩) l1 cm)) (cR1:w.cell? ⟨bR,oR + n,none⟩ = some (.int .i64 r1)) (cK:w.cell? ⟨bm,om + r1 * 2,none⟩ = some (.slice Ak k1.length ck)) (hk1:Ints w Ak k1) (h1:hasB k1 x = true)
  (hbl:b4 < w.heap.size) :
  Calls Tryz.prog 163 #[.agg #[.int .i64 p,.slice a1 n1 c1,.slice (some ⟨b2,o2,none⟩) n2 c2,.slice a3 n3 c3,.slice (some ⟨b4,o4,none⟩) n4 c4],.slice (some ⟨bR,oR,none⟩) nR cR,.int .i64 i,.int .i64 x] w
   fun e w'=>e = .returned (.bool true) /\ Aft w w':=by
 have H1:=Lib.hid h1;have HK1:=Lib.hid hk1;have i1:(0:Int) <= (n:Int) /\ (n:Int) < (n2:Int):=by omega
 have i2:(0:Int) <= (n:Int) /\ (n:Int) < (nR:Int):=by omega
 have i3:(0:Int) <= (r1:Int) /\ (r1:Int) < (l1:Int):=by omega
 have i4:(0:Int) <= (i:Int) /\ (i:Int) < (n4:Int):=by omega
 have CW0:=Lib.hid cW;have CR0:=Lib.hid cR1;have CK0:=Lib.hid cK;clear cW cR1 cK h1 hk1;go_enter Tryz.func163,Tryz.ntmps163;(repeat (first | go_big_skip | go_big_want | go_big_move | go_big_op | go_step | go_upon | go_back));go_upto_region 2 with fail
 have hX0:Aft w ((w.alloc (.cells #[.int .i64 p,.slice a1 n1 c1,.slice (some ⟨b2,o2,none⟩) n2 c2,.slice a3 n3 c3,.slice (some ⟨b4,o4,none⟩) n4 c4] 35)).alloc (.cells #[.int .i64 n,.int .i64 (-1)] 89)):=(Aft.alloc _ _).then_alloc _;have hB0:Blk ((w.alloc (.cells #[.int .i64 p,.slice a1 n1 c1,.slice (some ⟨b2,o2,none⟩) n2 c2,.slice a3 n3 c3,.slice (some ⟨b4,o4,none⟩) n4 c4] 35)).alloc (.cells #[.int .i64 n,.int .i64 (-1)] 89)) w.heap.size 35 _:=(Blk.new w 35 _).alloc _;have hB1:=Blk.new (w.alloc (.cells #[.int .i64 p,.slice a1 n1 c1,.slice (some ⟨b2,o2,none⟩) n2 c2,.slice a3 n3 c3,.slice (some ⟨b4,o4,none⟩) n4 c4] 35)) 89 #[.int .i64 n,.int .i64 (-1)];rw [World.size_alloc] at hB1;generalize ((w.alloc (.cells #[.int .i64 p,.slice a1 n1 c1,.slice (some ⟨b2,o2,none⟩) n2 c2,.slice a3 n3 c3,.slice (some ⟨b4,o4,none⟩) n4 c4] 35)).alloc (.cells #[.int .i64 n,.int .i64 (-1)] 89)) = X0 at *;have HX0:=Lib.hid hX0;have C2:Hid (X0.cell? ⟨w.heap.size,2,none⟩ = some (.slice (some ⟨b2,o2,none⟩) n2 c2)):=Lib.hid (hB0.cell 2);have C90:Hid (X0.cell? ⟨w.heap.size + 1,0,none⟩ = some (.int .i64 n)):=Lib.hid (hB1.cell 0);have C91:Hid (X0.cell? ⟨w.heap.size + 1,1,none⟩ = some (.int .i64 (-1))):=Lib.hid (hB1.cell 1);have CW:=Lib.hid (cells_aft hX0 CW0.out);have CR:=Lib.hid (cells_aft hX0 CR0.out);have CK:=Lib.hid (cells_aft hX0 CK0.out);clear hX0 hB0 hB1 CW0 CR0 CK0;generalize w.heap.size = S at *;have hmx:Tryz.prog.follows .mixedOrders = true:=by kernel_rfl
 refine wp_region_valsG hmx 54 rfl (by kernel_rfl) (by kernel_rfl) [.pointer (some ⟨S,2,none⟩),.slice (some ⟨b2,o2,none⟩) n2 c2,.pointer (some ⟨S + 1,0,none⟩),.int .i64 n,.pointer (some ⟨b2,o2 + n,none⟩),.slice (some ⟨bm,om,none⟩) l1 cm,.slice (some ⟨bR,oR,none⟩) nR cR,.pointer (some ⟨S + 1,0,none⟩),.int .i64 n,.pointer (some ⟨bR,oR + n,none⟩),.int .i64 r1,.pointer (some ⟨bm,om + r1 * 2,none⟩),.pointer (some ⟨bm,om + r1 * 2,none⟩),.slice Ak k1.length ck,.int .i64 x,.bool true,.bool true,.pointer (some ⟨S + 1,1,none⟩),.int .i64 (-1),.bool true,.bool true,undef,undef,undef,undef,undef,undef,undef,undef,undef,undef,undef,undef,undef,undef,undef,undef,.bool true,.bool true,.bool true] rfl (fun X=>Aft X0 X) (Aft.drew _) ?step ?fin
 case step =>
  intro i' o' v ho hv
  match i',ho,hv with
  | 0,ho,hv =>
   cases ho;cases hv;refine .inl ⟨rfl,fun a X hk hX K hK=>?_⟩;have e_4:a.eval (.tmp 4) = .pointer (some ⟨S,0,none⟩):=(hk.same 4 (by decide)).trans rfl;exact op_val (by simp [go_sem,ev' e_4]) (hK _ hX)
  | 1,ho,hv =>
   cases ho;cases hv;refine .inl ⟨rfl,fun a X hk hX K hK=>?_⟩;have e_15:a.eval (.tmp 15) = .pointer (some ⟨S,2,none⟩):=hk.at_ 0 _ 15 _ rfl (by decide) _ rfl rfl rfl;have hc:=cells_aft hX C2.out;exact op_val (by simp [go_sem,ev' e_15,hc]) (hK _ hX)
  | 2,ho,hv =>
   cases ho;cases hv;refine .inl ⟨rfl,fun a X hk hX K hK=>?_⟩;have e_9:a.eval (.tmp 9) = .pointer (some ⟨S + 1,0,none⟩):=(hk.same 9 (by decide)).trans rfl;exact op_val (by simp [go_sem,ev' e_9]) (hK _ hX)
  | 3,ho,hv =>
   cases ho;cases hv;refine .inl ⟨rfl,fun a X hk hX K hK=>?_⟩;have e_17:a.eval (.tmp 17) = .pointer (some ⟨S + 1,0,none⟩):=hk.at_ 2 _ 17 _ rfl (by decide) _ rfl rfl rfl;have hc:=cells_aft hX C90.out;exact op_val (by simp [go_sem,ev' e_17,hc]) (hK _ hX)
  | 4,ho,hv =>
   cases ho;cases hv;refine .inl ⟨rfl,fun a X hk hX K hK=>?_⟩;have e_16:a.eval (.tmp 16) = .slice (some ⟨b2,o2,none⟩) n2 c2:=hk.at_ 1 _ 16 _ rfl (by decide) _ rfl rfl rfl;have e_18:a.eval (.tmp 18) = .int .i64 n:=hk.at_ 3 _ 18 _ rfl (by decide) _ rfl rfl rfl;exact op_val (by simp [go_sem,ev' e_16,ev' e_18,i1]) (hK _ hX)
  | 5,ho,hv =>
   cases ho;cases hv;refine .inl ⟨rfl,fun a X hk hX K hK=>?_⟩;have e_19:a.eval (.tmp 19) = .pointer (some ⟨b2,o2 + n,none⟩):=hk.at_ 4 _ 19 _ rfl (by decide) _ rfl rfl rfl;have hc:=cells_aft hX CW.out;exact op_val (by simp [go_sem,ev' e_19,hc]) (hK _ hX)
  | 6,ho,hv =>
   cases ho;cases hv;refine .inl ⟨rfl,fun a X hk hX K hK=>?_⟩;have e_1:a.eval (.tmp 1) = .slice (some ⟨bR,oR,none⟩) nR cR:=(hk.same 1 (by decide)).trans rfl;exact op_val (by simp [go_sem,ev' e_1]) (hK _ hX)
  | 7,ho,hv =>
   cases ho;cases hv;refine .inl ⟨rfl,fun a X hk hX K hK=>?_⟩;have e_9:a.eval (.tmp 9) = .pointer (some ⟨S + 1,0,none⟩):=(hk.same 9 (by decide)).trans rfl;exact op_val (by simp [go_sem,ev' e_9]) (hK _ hX)
  | 8,ho,hv =>
   cases ho;cases hv;refine .inl ⟨rfl,fun a X hk hX K hK=>?_⟩;have e_22:a.eval (.tmp 22) = .pointer (some ⟨S + 1,0,none⟩):=hk.at_ 7 _ 22 _ rfl (by decide) _ rfl rfl rfl;have hc:=cells_aft hX C90.out;exact op_val (by simp [go_sem,ev' e_22,hc]) (hK _ hX)
  | 9,ho,hv =>
   cases ho;cases hv;refine .inl ⟨rfl,fun a X hk hX K hK=>?_⟩;have e_21:a.eval (.tmp 21) = .slice (some ⟨bR,oR,none⟩) nR cR:=hk.at_ 6 _ 21 _ rfl (by decide) _ rfl rfl rfl;have e_23:a.eval (.tmp 23) = .int .i64 n:=hk.at_ 8 _ 23 _ rfl (by decide) _ rfl rfl rfl;exact op_val (by simp [go_sem,ev' e_21,ev' e_23,i2]) (hK _ hX)
  | 10,ho,hv =>
   cases ho;cases hv;refine .inl ⟨rfl,fun a X hk hX K hK=>?_⟩;have e_24:a.eval (.tmp 24) = .pointer (some ⟨bR,oR + n,none⟩):=hk.at_ 9 _ 24 _ rfl (by decide) _ rfl rfl rfl;have hc:=cells_aft hX CR.out;exact op_val (by simp [go_sem,ev' e_24,hc]) (hK _ hX)
  | 11,ho,hv =>
   cases ho;cases hv;refine .inl ⟨rfl,fun a X hk hX K hK=>?_⟩;have e_20:a.eval (.tmp 20) = .slice (some ⟨bm,om,none⟩) l1 cm:=hk.at_ 5 _ 20 _ rfl (by decide) _ rfl rfl rfl;have e_25:a.eval (.tmp 25) = .int .i64 r1:=hk.at_ 10 _ 25 _ rfl (by decide) _ rfl rfl rfl;exact op_val (by simp [go_sem,ev' e_20,ev' e_25,i3]) (hK _ hX)
  | 12,ho,hv =>
   cases ho;cases hv;refine .inl ⟨rfl,fun a X hk hX K hK=>?_⟩;have e_26:a.eval (.tmp 26) = .pointer (some ⟨bm,om + r1 * 2,none⟩):=hk.at_ 11 _ 26 _ rfl (by decide) _ rfl rfl rfl;exact op_val (by simp [go_sem,ev' e_26]) (hK _ hX)
  | 13,ho,hv =>
   cases ho;cases hv;refine .inl ⟨rfl,fun a X hk hX K hK=>?_⟩;have e_27:a.eval (.tmp 27) = .pointer (some ⟨bm,om + r1 * 2,none⟩):=hk.at_ 12 _ 27 _ rfl (by decide) _ rfl rfl rfl;have hc:=cells_aft hX CK.out;exact op_val (by simp [go_sem,ev' e_27,hc]) (hK _ hX)
  | 14,ho,hv =>
   cases ho;cases hv;refine .inl ⟨rfl,fun a X hk hX K hK=>?_⟩;have e_3:a.eval (.tmp 3) = .int .i64 x:=(hk.same 3 (by decide)).trans rfl;exact op_val (by simp [go_sem,ev' e_3]) (hK _ hX)
  | 15,ho,hv =>
   cases ho;cases hv;refine .inl ⟨rfl,fun a X hk hX K hK=>?_⟩;have e_28:a.eval (.tmp 28) = .slice Ak k1.length ck:=hk.at_ 13 _ 28 _ rfl (by decide) _ rfl rfl rfl;have e_29:a.eval (.tmp 29) = .int .i64 x:=hk.at_ 14 _ 29 _ rfl (by decide) _ rfl rfl rfl;refine op_call2 Tryz.func125 (by kernel_rfl) (by kernel_rfl) _ _ rfl e_28 e_29 (has_any Ak k1 ck x X (HK1.out.aft (HX0.out.trans hX))) ?_;rintro e w' ⟨rfl,rfl⟩;rw [H1.out];exact ⟨_,rfl,hK _ hX⟩
  | 16,ho,hv =>
   cases ho;cases hv;refine .inl ⟨rfl,fun a X hk hX K hK=>?_⟩;have e_30:a.eval (.tmp 30) = .bool true:=hk.at_ 15 _ 30 _ rfl (by decide) _ rfl rfl rfl;exact op_val (by simp [go_sem,ev' e_30]) (hK _ hX)
  | 17,ho,hv =>
   cases ho;cases hv;refine .inl ⟨rfl,fun a X hk hX K hK=>?_⟩;have e_9:a.eval (.tmp 9) = .pointer (some ⟨S + 1,0,none⟩):=(hk.same 9 (by decide)).trans rfl;exact op_val (by simp [go_sem,ev' e_9]) (hK _ hX)
  | 18,ho,hv =>
   cases ho;cases hv;refine .inl ⟨rfl,fun a X hk hX K hK=>?_⟩;have e_32:a.eval (.tmp 32) = .pointer (some ⟨S + 1,1,none⟩):=hk.at_ 17 _ 32 _ rfl (by decide) _ rfl rfl rfl;have hc:=cells_aft hX C91.out;exact op_val (by simp [go_sem,ev' e_32,hc]) (hK _ hX)
  | 19,ho,hv =>
   cases ho;cases hv;refine .inl ⟨rfl,fun a X hk hX K hK=>?_⟩;have e_33:a.eval (.tmp 33) = .int .i64 (-1):=hk.at_ 18 _ 33 _ rfl (by decide) _ rfl rfl rfl;exact op_val (by simp [go_sem,ev' e_33]) (hK _ hX)
  | 20,ho,hv =>
   cases ho;cases hv;refine .inl ⟨rfl,fun a X hk hX K hK=>?_⟩;have e_34:a.eval (.tmp 34) = .bool true:=hk.at_ 19 _ 34 _ rfl (by decide) _ rfl rfl rfl;exact op_val (by simp [go_sem,ev' e_34]) (hK _ hX)
  | 21,ho,hv | 22,ho,hv | 23,ho,hv | 24,ho,hv | 25,ho,hv | 26,ho,hv | 27,ho,hv | 28,ho,hv | 29,ho,hv | 30,ho,hv | 31,ho,hv | 32,ho,hv | 33,ho,hv | 34,ho,hv | 35,ho,hv | 36,ho,hv =>
   cases ho;cases hv;exact .inr ⟨rfl,rfl⟩
  | 37,ho,hv =>
   cases ho;cases hv;refine .inl ⟨rfl,fun a X hk hX K hK=>?_⟩;have e_35:a.eval (.tmp 35) = .bool true:=hk.at_ 20 _ 35 _ rfl (by decide) _ rfl rfl rfl;have e_51:a.eval (.tmp 51) = undef:=hk.at_ 36 _ 51 _ rfl (by decide) _ rfl rfl rfl;exact op_val (by simp [go_sem,ev' e_35,ev' e_51]) (hK _ hX)
  | 38,ho,hv =>
   cases ho;cases hv;refine .inl ⟨rfl,fun a X hk hX K hK=>?_⟩;have e_31:a.eval (.tmp 31) = .bool true:=hk.at_ 16 _ 31 _ rfl (by decide) _ rfl rfl rfl;have e_52:a.eval (.tmp 52) = .bool true:=hk.at_ 37 _ 52 _ rfl (by decide) _ rfl rfl rfl;exact op_val (by simp [go_sem,ev' e_31,ev' e_52]) (hK _ hX)
  | 39,ho,hv =>
   cases ho;cases hv;refine .inl ⟨rfl,fun a X hk hX K hK=>?_⟩;have e_53:a.eval (.tmp 53) = .bool true:=hk.at_ 38 _ 53 _ rfl (by decide) _ rfl rfl rfl;exact op_val (by simp [go_sem,ev' e_53]) (hK _ hX)
  | _ + 40,ho,_=>cases ho
 case fin =>
  intro X hX;simp only [List.zip_cons_cons,List.zip_nil_right,putAll,Act.put,List.setIfInBounds_toArray,List.set_cons_succ,List.set_cons_zero];(repeat (first | go_big_skip | go_big_want | go_big_move | go_big_op | go_step | go_upon | go_back));go_ret;exact ⟨rfl,HX0.out.trans hX⟩
set_option maxRecDepth 100000 in
set_option maxHeartbeats 2000000 in
theorem meansC (w:World) (p:Int) (a1 a3:Option Addr) (n1 n2 n3 n4 c1 c2 c3 c4 b2 o2 b4 o4 bR oR nR cR bm om l1 cm r1 n i:Nat) (k1:List Int) (Ak:Option Addr) (ck:Nat) (x:Int) (bn on l2 cn r2:Nat) (k2:List Int) (Aj:Option Addr) (cj:Nat) (m:Nat) (hm:m < n2) (hmR:m < nR) (hr2:r2 < l2) (cW2:w.cell? ⟨b2,o2 + m,none⟩ = some (.slice (some ⟨bn,on,none⟩) l2 cn)) (cR2:w.cell? ⟨bR,oR + m,none⟩ = some (.int .i64 r2)) (cK2:w.cell? ⟨bn,on + r2 * 2,none⟩ = some (.slice Aj k2.length cj)) (hk2:Ints w Aj k2)
  (hi:i < n4) (hn:n < n2) (hnR:n < nR) (hr1:r1 < l1) (cL0:w.cell? ⟨b4,o4 + i * 2,none⟩ = some (.int .i64 n)) (cL1:w.cell? ⟨b4,o4 + i * 2 + 1,none⟩ = some (.int .i64 m))
  (cW:w.cell? ⟨b2,o2 + n,none⟩ = some (.slice (some ⟨bm,om,none⟩) l1 cm)) (cR1:w.cell? ⟨bR,oR + n,none⟩ = some (.int .i64 r1)) (cK:w.cell? ⟨bm,om + r1 * 2,none⟩ = some (.slice Ak k1.length ck)) (hk1:Ints w Ak k1) (h1:hasB k1 x = true)
  (hbl:b4 < w.heap.size) :
  Calls Tryz.prog 163 #[.agg #[.int .i64 p,.slice a1 n1 c1,.slice (some ⟨b2,o2,none⟩) n2 c2,.slice a3 n3 c3,.slice (some ⟨b4,o4,none⟩) n4 c4],.slice (some ⟨bR,oR,none⟩) nR cR,.int .i64 i,.int .i64 x] w
   fun e w'=>e = .returned (.bool (hasB k2 x)) /\ Aft w w':=by
 have H1:=Lib.hid h1;have HK1:=Lib.hid hk1;have HK2:=Lib.hid hk2;have i1:(0:Int) <= (n:Int) /\ (n:Int) < (n2:Int):=by omega
 have i2:(0:Int) <= (n:Int) /\ (n:Int) < (nR:Int):=by omega
 have i3:(0:Int) <= (r1:Int) /\ (r1:Int) < (l1:Int):=by omega
 have i4:(0:Int) <= (i:Int) /\ (i:Int) < (n4:Int):=by omega
 have j1:(0:Int) <= (m:Int) /\ (m:Int) < (n2:Int):=by omega
 have j2:(0:Int) <= (m:Int) /\ (m:Int) < (nR:Int):=by omega
 have j3:(0:Int) <= (r2:Int) /\ (r2:Int) < (l2:Int):=by omega
 have hm1:((m:Int) == -1) = false:=by rw [beq_eq_false_iff_ne];omega
 have CX0:=Lib.hid cW2;have CY0:=Lib.hid cR2;have CZ0:=Lib.hid cK2;clear cW2 cR2 cK2 hk2;have CW0:=Lib.hid cW;have CR0:=Lib.hid cR1;have CK0:=Lib.hid cK;clear cW cR1 cK h1 hk1;go_enter Tryz.func163,Tryz.ntmps163;(repeat (first | go_big_skip | go_big_want | go_big_move | go_big_op | go_step | go_upon | go_back));go_upto_region 2 with fail
 have hX0:Aft w ((w.alloc (.cells #[.int .i64 p,.slice a1 n1 c1,.slice (some ⟨b2,o2,none⟩) n2 c2,.slice a3 n3 c3,.slice (some ⟨b4,o4,none⟩) n4 c4] 35)).alloc (.cells #[.int .i64 n,.int .i64 m] 89)):=(Aft.alloc _ _).then_alloc _;have hB0:Blk ((w.alloc (.cells #[.int .i64 p,.slice a1 n1 c1,.slice (some ⟨b2,o2,none⟩) n2 c2,.slice a3 n3 c3,.slice (some ⟨b4,o4,none⟩) n4 c4] 35)).alloc (.cells #[.int .i64 n,.int .i64 m] 89)) w.heap.size 35 _:=(Blk.new w 35 _).alloc _;have hB1:=Blk.new (w.alloc (.cells #[.int .i64 p,.slice a1 n1 c1,.slice (some ⟨b2,o2,none⟩) n2 c2,.slice a3 n3 c3,.slice (some ⟨b4,o4,none⟩) n4 c4] 35)) 89 #[.int .i64 n,.int .i64 m];rw [World.size_alloc] at hB1;generalize ((w.alloc (.cells #[.int .i64 p,.slice a1 n1 c1,.slice (some ⟨b2,o2,none⟩) n2 c2,.slice a3 n3 c3,.slice (some ⟨b4,o4,none⟩) n4 c4] 35)).alloc (.cells #[.int .i64 n,.int .i64 m] 89)) = X0 at *;have HX0:=Lib.hid hX0;have C2:Hid (X0.cell? ⟨w.heap.size,2,none⟩ = some (.slice (some ⟨b2,o2,none⟩) n2 c2)):=Lib.hid (hB0.cell 2);have C90:Hid (X0.cell? ⟨w.heap.size + 1,0,none⟩ = some (.int .i64 n)):=Lib.hid (hB1.cell 0);have C91:Hid (X0.cell? ⟨w.heap.size + 1,1,none⟩ = some (.int .i64 m)):=Lib.hid (hB1.cell 1);have CW:=Lib.hid (cells_aft hX0 CW0.out);have CR:=Lib.hid (cells_aft hX0 CR0.out);have CK:=Lib.hid (cells_aft hX0 CK0.out);have CW2:=Lib.hid (cells_aft hX0 CX0.out);have CR2:=Lib.hid (cells_aft hX0 CY0.out);have CK2:=Lib.hid (cells_aft hX0 CZ0.out);clear CX0 CY0 CZ0;clear hX0 hB0 hB1 CW0 CR0 CK0;generalize w.heap.size = S at *;have hmx:Tryz.prog.follows .mixedOrders = true:=by kernel_rfl
 refine wp_region_valsG hmx 54 rfl (by kernel_rfl) (by kernel_rfl) [.pointer (some ⟨S,2,none⟩),.slice (some ⟨b2,o2,none⟩) n2 c2,.pointer (some ⟨S + 1,0,none⟩),.int .i64 n,.pointer (some ⟨b2,o2 + n,none⟩),.slice (some ⟨bm,om,none⟩) l1 cm,.slice (some ⟨bR,oR,none⟩) nR cR,.pointer (some ⟨S + 1,0,none⟩),.int .i64 n,.pointer (some ⟨bR,oR + n,none⟩),.int .i64 r1,.pointer (some ⟨bm,om + r1 * 2,none⟩),.pointer (some ⟨bm,om + r1 * 2,none⟩),.slice Ak k1.length ck,.int .i64 x,.bool true,.bool true,.pointer (some ⟨S + 1,1,none⟩),.int .i64 m,.bool false,.bool false,.pointer (some ⟨S,2,none⟩),.slice (some ⟨b2,o2,none⟩) n2 c2,.pointer (some ⟨S + 1,1,none⟩),.int .i64 m,.pointer (some ⟨b2,o2 + m,none⟩),.slice (some ⟨bn,on,none⟩) l2 cn,.slice (some ⟨bR,oR,none⟩) nR cR,.pointer (some ⟨S + 1,1,none⟩),.int .i64 m,.pointer (some ⟨bR,oR + m,none⟩),.int .i64 r2,.pointer (some ⟨bn,on + r2 * 2,none⟩),.pointer (some ⟨bn,on + r2 * 2,none⟩),.slice Aj k2.length cj,.int .i64 x,.bool (hasB k2 x),.bool (hasB k2 x),.bool (hasB k2 x),.bool (hasB k2 x)] rfl (fun X=>Aft X0 X) (Aft.drew _) ?step ?fin
 case step =>
  intro i' o' v ho hv
  match i',ho,hv with
  | 0,ho,hv =>
   cases ho;cases hv;refine .inl ⟨rfl,fun a X hk hX K hK=>?_⟩;have e_4:a.eval (.tmp 4) = .pointer (some ⟨S,0,none⟩):=(hk.same 4 (by decide)).trans rfl;exact op_val (by simp [go_sem,ev' e_4]) (hK _ hX)
  | 1,ho,hv =>
   cases ho;cases hv;refine .inl ⟨rfl,fun a X hk hX K hK=>?_⟩;have e_15:a.eval (.tmp 15) = .pointer (some ⟨S,2,none⟩):=hk.at_ 0 _ 15 _ rfl (by decide) _ rfl rfl rfl;have hc:=cells_aft hX C2.out;exact op_val (by simp [go_sem,ev' e_15,hc]) (hK _ hX)
  | 2,ho,hv =>
   cases ho;cases hv;refine .inl ⟨rfl,fun a X hk hX K hK=>?_⟩;have e_9:a.eval (.tmp 9) = .pointer (some ⟨S + 1,0,none⟩):=(hk.same 9 (by decide)).trans rfl;exact op_val (by simp [go_sem,ev' e_9]) (hK _ hX)
  | 3,ho,hv =>
   cases ho;cases hv;refine .inl ⟨rfl,fun a X hk hX K hK=>?_⟩;have e_17:a.eval (.tmp 17) = .pointer (some ⟨S + 1,0,none⟩):=hk.at_ 2 _ 17 _ rfl (by decide) _ rfl rfl rfl;have hc:=cells_aft hX C90.out;exact op_val (by simp [go_sem,ev' e_17,hc]) (hK _ hX)
  | 4,ho,hv =>
   cases ho;cases hv;refine .inl ⟨rfl,fun a X hk hX K hK=>?_⟩;have e_16:a.eval (.tmp 16) = .slice (some ⟨b2,o2,none⟩) n2 c2:=hk.at_ 1 _ 16 _ rfl (by decide) _ rfl rfl rfl;have e_18:a.eval (.tmp 18) = .int .i64 n:=hk.at_ 3 _ 18 _ rfl (by decide) _ rfl rfl rfl;exact op_val (by simp [go_sem,ev' e_16,ev' e_18,i1]) (hK _ hX)
  | 5,ho,hv =>
   cases ho;cases hv;refine .inl ⟨rfl,fun a X hk hX K hK=>?_⟩;have e_19:a.eval (.tmp 19) = .pointer (some ⟨b2,o2 + n,none⟩):=hk.at_ 4 _ 19 _ rfl (by decide) _ rfl rfl rfl;have hc:=cells_aft hX CW.out;exact op_val (by simp [go_sem,ev' e_19,hc]) (hK _ hX)
  | 6,ho,hv =>
   cases ho;cases hv;refine .inl ⟨rfl,fun a X hk hX K hK=>?_⟩;have e_1:a.eval (.tmp 1) = .slice (some ⟨bR,oR,none⟩) nR cR:=(hk.same 1 (by decide)).trans rfl;exact op_val (by simp [go_sem,ev' e_1]) (hK _ hX)
  | 7,ho,hv =>
   cases ho;cases hv;refine .inl ⟨rfl,fun a X hk hX K hK=>?_⟩;have e_9:a.eval (.tmp 9) = .pointer (some ⟨S + 1,0,none⟩):=(hk.same 9 (by decide)).trans rfl;exact op_val (by simp [go_sem,ev' e_9]) (hK _ hX)
  | 8,ho,hv =>
   cases ho;cases hv;refine .inl ⟨rfl,fun a X hk hX K hK=>?_⟩;have e_22:a.eval (.tmp 22) = .pointer (some ⟨S + 1,0,none⟩):=hk.at_ 7 _ 22 _ rfl (by decide) _ rfl rfl rfl;have hc:=cells_aft hX C90.out;exact op_val (by simp [go_sem,ev' e_22,hc]) (hK _ hX)
  | 9,ho,hv =>
   cases ho;cases hv;refine .inl ⟨rfl,fun a X hk hX K hK=>?_⟩;have e_21:a.eval (.tmp 21) = .slice (some ⟨bR,oR,none⟩) nR cR:=hk.at_ 6 _ 21 _ rfl (by decide) _ rfl rfl rfl;have e_23:a.eval (.tmp 23) = .int .i64 n:=hk.at_ 8 _ 23 _ rfl (by decide) _ rfl rfl rfl;exact op_val (by simp [go_sem,ev' e_21,ev' e_23,i2]) (hK _ hX)
  | 10,ho,hv =>
   cases ho;cases hv;refine .inl ⟨rfl,fun a X hk hX K hK=>?_⟩;have e_24:a.eval (.tmp 24) = .pointer (some ⟨bR,oR + n,none⟩):=hk.at_ 9 _ 24 _ rfl (by decide) _ rfl rfl rfl;have hc:=cells_aft hX CR.out;exact op_val (by simp [go_sem,ev' e_24,hc]) (hK _ hX)
  | 11,ho,hv =>
   cases ho;cases hv;refine .inl ⟨rfl,fun a X hk hX K hK=>?_⟩;have e_20:a.eval (.tmp 20) = .slice (some ⟨bm,om,none⟩) l1 cm:=hk.at_ 5 _ 20 _ rfl (by decide) _ rfl rfl rfl;have e_25:a.eval (.tmp 25) = .int .i64 r1:=hk.at_ 10 _ 25 _ rfl (by decide) _ rfl rfl rfl;exact op_val (by simp [go_sem,ev' e_20,ev' e_25,i3]) (hK _ hX)
  | 12,ho,hv =>
   cases ho;cases hv;refine .inl ⟨rfl,fun a X hk hX K hK=>?_⟩;have e_26:a.eval (.tmp 26) = .pointer (some ⟨bm,om + r1 * 2,none⟩):=hk.at_ 11 _ 26 _ rfl (by decide) _ rfl rfl rfl;exact op_val (by simp [go_sem,ev' e_26]) (hK _ hX)
  | 13,ho,hv =>
   cases ho;cases hv;refine .inl ⟨rfl,fun a X hk hX K hK=>?_⟩;have e_27:a.eval (.tmp 27) = .pointer (some ⟨bm,om + r1 * 2,none⟩):=hk.at_ 12 _ 27 _ rfl (by decide) _ rfl rfl rfl;have hc:=cells_aft hX CK.out;exact op_val (by simp [go_sem,ev' e_27,hc]) (hK _ hX)
  | 14,ho,hv =>
   cases ho;cases hv;refine .inl ⟨rfl,fun a X hk hX K hK=>?_⟩;have e_3:a.eval (.tmp 3) = .int .i64 x:=(hk.same 3 (by decide)).trans rfl;exact op_val (by simp [go_sem,ev' e_3]) (hK _ hX)
  | 15,ho,hv =>
   cases ho;cases hv;refine .inl ⟨rfl,fun a X hk hX K hK=>?_⟩;have e_28:a.eval (.tmp 28) = .slice Ak k1.length ck:=hk.at_ 13 _ 28 _ rfl (by decide) _ rfl rfl rfl;have e_29:a.eval (.tmp 29) = .int .i64 x:=hk.at_ 14 _ 29 _ rfl (by decide) _ rfl rfl rfl;refine op_call2 Tryz.func125 (by kernel_rfl) (by kernel_rfl) _ _ rfl e_28 e_29 (has_any Ak k1 ck x X (HK1.out.aft (HX0.out.trans hX))) ?_;rintro e w' ⟨rfl,rfl⟩;rw [H1.out];exact ⟨_,rfl,hK _ hX⟩
  | 16,ho,hv =>
   cases ho;cases hv;refine .inl ⟨rfl,fun a X hk hX K hK=>?_⟩;have e_30:a.eval (.tmp 30) = .bool true:=hk.at_ 15 _ 30 _ rfl (by decide) _ rfl rfl rfl;exact op_val (by simp [go_sem,ev' e_30]) (hK _ hX)
  | 17,ho,hv =>
   cases ho;cases hv;refine .inl ⟨rfl,fun a X hk hX K hK=>?_⟩;have e_9:a.eval (.tmp 9) = .pointer (some ⟨S + 1,0,none⟩):=(hk.same 9 (by decide)).trans rfl;exact op_val (by simp [go_sem,ev' e_9]) (hK _ hX)
  | 18,ho,hv =>
   cases ho;cases hv;refine .inl ⟨rfl,fun a X hk hX K hK=>?_⟩;have e_32:a.eval (.tmp 32) = .pointer (some ⟨S + 1,1,none⟩):=hk.at_ 17 _ 32 _ rfl (by decide) _ rfl rfl rfl;have hc:=cells_aft hX C91.out;exact op_val (by simp [go_sem,ev' e_32,hc]) (hK _ hX)
  | 19,ho,hv =>
   cases ho;cases hv;refine .inl ⟨rfl,fun a X hk hX K hK=>?_⟩;have e_33:a.eval (.tmp 33) = .int .i64 m:=hk.at_ 18 _ 33 _ rfl (by decide) _ rfl rfl rfl;exact op_val (by simp [go_sem,ev' e_33,hm1]) (hK _ hX)
  | 20,ho,hv =>
   cases ho;cases hv;refine .inl ⟨rfl,fun a X hk hX K hK=>?_⟩;have e_34:a.eval (.tmp 34) = .bool false:=hk.at_ 19 _ 34 _ rfl (by decide) _ rfl rfl rfl;exact op_val (by simp [go_sem,ev' e_34]) (hK _ hX)
  | 21,ho,hv =>
   cases ho;cases hv;refine .inl ⟨rfl,fun a X hk hX K hK=>?_⟩;have e_4:a.eval (.tmp 4) = .pointer (some ⟨S,0,none⟩):=(hk.same 4 (by decide)).trans rfl;exact op_val (by simp [go_sem,ev' e_4]) (hK _ hX)
  | 22,ho,hv =>
   cases ho;cases hv;refine .inl ⟨rfl,fun a X hk hX K hK=>?_⟩;have e_36:a.eval (.tmp 36) = .pointer (some ⟨S,2,none⟩):=hk.at_ 21 _ 36 _ rfl (by decide) _ rfl rfl rfl;have hc:=cells_aft hX C2.out;exact op_val (by simp [go_sem,ev' e_36,hc]) (hK _ hX)
  | 23,ho,hv =>
   cases ho;cases hv;refine .inl ⟨rfl,fun a X hk hX K hK=>?_⟩;have e_9:a.eval (.tmp 9) = .pointer (some ⟨S + 1,0,none⟩):=(hk.same 9 (by decide)).trans rfl;exact op_val (by simp [go_sem,ev' e_9]) (hK _ hX)
  | 24,ho,hv =>
   cases ho;cases hv;refine .inl ⟨rfl,fun a X hk hX K hK=>?_⟩;have e_38:a.eval (.tmp 38) = .pointer (some ⟨S + 1,1,none⟩):=hk.at_ 23 _ 38 _ rfl (by decide) _ rfl rfl rfl;have hc:=cells_aft hX C91.out;exact op_val (by simp [go_sem,ev' e_38,hc]) (hK _ hX)
  | 25,ho,hv =>
   cases ho;cases hv;refine .inl ⟨rfl,fun a X hk hX K hK=>?_⟩;have e_37:a.eval (.tmp 37) = .slice (some ⟨b2,o2,none⟩) n2 c2:=hk.at_ 22 _ 37 _ rfl (by decide) _ rfl rfl rfl;have e_39:a.eval (.tmp 39) = .int .i64 m:=hk.at_ 24 _ 39 _ rfl (by decide) _ rfl rfl rfl;exact op_val (by simp [go_sem,ev' e_37,ev' e_39,j1]) (hK _ hX)
  | 26,ho,hv =>
   cases ho;cases hv;refine .inl ⟨rfl,fun a X hk hX K hK=>?_⟩;have e_40:a.eval (.tmp 40) = .pointer (some ⟨b2,o2 + m,none⟩):=hk.at_ 25 _ 40 _ rfl (by decide) _ rfl rfl rfl;have hc:=cells_aft hX CW2.out;exact op_val (by simp [go_sem,ev' e_40,hc]) (hK _ hX)
  | 27,ho,hv =>
   cases ho;cases hv;refine .inl ⟨rfl,fun a X hk hX K hK=>?_⟩;have e_1:a.eval (.tmp 1) = .slice (some ⟨bR,oR,none⟩) nR cR:=(hk.same 1 (by decide)).trans rfl;exact op_val (by simp [go_sem,ev' e_1]) (hK _ hX)
  | 28,ho,hv =>
   cases ho;cases hv;refine .inl ⟨rfl,fun a X hk hX K hK=>?_⟩;have e_9:a.eval (.tmp 9) = .pointer (some ⟨S + 1,0,none⟩):=(hk.same 9 (by decide)).trans rfl;exact op_val (by simp [go_sem,ev' e_9]) (hK _ hX)
  | 29,ho,hv =>
   cases ho;cases hv;refine .inl ⟨rfl,fun a X hk hX K hK=>?_⟩;have e_43:a.eval (.tmp 43) = .pointer (some ⟨S + 1,1,none⟩):=hk.at_ 28 _ 43 _ rfl (by decide) _ rfl rfl rfl;have hc:=cells_aft hX C91.out;exact op_val (by simp [go_sem,ev' e_43,hc]) (hK _ hX)
  | 30,ho,hv =>
   cases ho;cases hv;refine .inl ⟨rfl,fun a X hk hX K hK=>?_⟩;have e_42:a.eval (.tmp 42) = .slice (some ⟨bR,oR,none⟩) nR cR:=hk.at_ 27 _ 42 _ rfl (by decide) _ rfl rfl rfl;have e_44:a.eval (.tmp 44) = .int .i64 m:=hk.at_ 29 _ 44 _ rfl (by decide) _ rfl rfl rfl;exact op_val (by simp [go_sem,ev' e_42,ev' e_44,j2]) (hK _ hX)
  | 31,ho,hv =>
   cases ho;cases hv;refine .inl ⟨rfl,fun a X hk hX K hK=>?_⟩;have e_45:a.eval (.tmp 45) = .pointer (some ⟨bR,oR + m,none⟩):=hk.at_ 30 _ 45 _ rfl (by decide) _ rfl rfl rfl;have hc:=cells_aft hX CR2.out;exact op_val (by simp [go_sem,ev' e_45,hc]) (hK _ hX)
  | 32,ho,hv =>
   cases ho;cases hv;refine .inl ⟨rfl,fun a X hk hX K hK=>?_⟩;have e_41:a.eval (.tmp 41) = .slice (some ⟨bn,on,none⟩) l2 cn:=hk.at_ 26 _ 41 _ rfl (by decide) _ rfl rfl rfl;have e_46:a.eval (.tmp 46) = .int .i64 r2:=hk.at_ 31 _ 46 _ rfl (by decide) _ rfl rfl rfl;exact op_val (by simp [go_sem,ev' e_41,ev' e_46,j3]) (hK _ hX)
  | 33,ho,hv =>
   cases ho;cases hv;refine .inl ⟨rfl,fun a X hk hX K hK=>?_⟩;have e_47:a.eval (.tmp 47) = .pointer (some ⟨bn,on + r2 * 2,none⟩):=hk.at_ 32 _ 47 _ rfl (by decide) _ rfl rfl rfl;exact op_val (by simp [go_sem,ev' e_47]) (hK _ hX)
  | 34,ho,hv =>
   cases ho;cases hv;refine .inl ⟨rfl,fun a X hk hX K hK=>?_⟩;have e_48:a.eval (.tmp 48) = .pointer (some ⟨bn,on + r2 * 2,none⟩):=hk.at_ 33 _ 48 _ rfl (by decide) _ rfl rfl rfl;have hc:=cells_aft hX CK2.out;exact op_val (by simp [go_sem,ev' e_48,hc]) (hK _ hX)
  | 35,ho,hv =>
   cases ho;cases hv;refine .inl ⟨rfl,fun a X hk hX K hK=>?_⟩;have e_3:a.eval (.tmp 3) = .int .i64 x:=(hk.same 3 (by decide)).trans rfl;exact op_val (by simp [go_sem,ev' e_3]) (hK _ hX)
  | 36,ho,hv =>
   cases ho;cases hv;refine .inl ⟨rfl,fun a X hk hX K hK=>?_⟩;have e_49:a.eval (.tmp 49) = .slice Aj k2.length cj:=hk.at_ 34 _ 49 _ rfl (by decide) _ rfl rfl rfl;have e_50:a.eval (.tmp 50) = .int .i64 x:=hk.at_ 35 _ 50 _ rfl (by decide) _ rfl rfl rfl;refine op_call2 Tryz.func125 (by kernel_rfl) (by kernel_rfl) _ _ rfl e_49 e_50 (has_any Aj k2 cj x X (HK2.out.aft (HX0.out.trans hX))) ?_;rintro e w' ⟨rfl,rfl⟩;exact ⟨_,rfl,hK _ hX⟩
  | 37,ho,hv =>
   cases ho;cases hv;refine .inl ⟨rfl,fun a X hk hX K hK=>?_⟩;have e_35:a.eval (.tmp 35) = .bool false:=hk.at_ 20 _ 35 _ rfl (by decide) _ rfl rfl rfl;have e_51:a.eval (.tmp 51) = .bool (hasB k2 x):=hk.at_ 36 _ 51 _ rfl (by decide) _ rfl rfl rfl;exact op_val (by simp [go_sem,ev' e_35,ev' e_51]) (hK _ hX)
  | 38,ho,hv =>
   cases ho;cases hv;refine .inl ⟨rfl,fun a X hk hX K hK=>?_⟩;have e_31:a.eval (.tmp 31) = .bool true:=hk.at_ 16 _ 31 _ rfl (by decide) _ rfl rfl rfl;have e_52:a.eval (.tmp 52) = .bool (hasB k2 x):=hk.at_ 37 _ 52 _ rfl (by decide) _ rfl rfl rfl;exact op_val (by simp [go_sem,ev' e_31,ev' e_52]) (hK _ hX)
  | 39,ho,hv =>
   cases ho;cases hv;refine .inl ⟨rfl,fun a X hk hX K hK=>?_⟩;have e_53:a.eval (.tmp 53) = .bool (hasB k2 x):=hk.at_ 38 _ 53 _ rfl (by decide) _ rfl rfl rfl;exact op_val (by simp [go_sem,ev' e_53]) (hK _ hX)
  | _ + 40,ho,_=>cases ho
 case fin =>
  intro X hX;simp only [List.zip_cons_cons,List.zip_nil_right,putAll,Act.put,List.setIfInBounds_toArray,List.set_cons_succ,List.set_cons_zero];(repeat (first | go_big_skip | go_big_want | go_big_move | go_big_op | go_step | go_upon | go_back));go_ret;exact ⟨rfl,HX0.out.trans hX⟩
set_option maxRecDepth 100000 in
set_option maxHeartbeats 2000000 in
theorem endsA (w:World) (p:Int) (a1 a3:Option Addr) (n1 n2 n3 n4 c1 c2 c3 c4 b2 o2 b4 o4 bR oR nR cR bm om l1 cm r1 n i:Nat) (k1:List Int) (Ak:Option Addr) (ck:Nat) (x:Int) (o:Int)
  (hi:i < n4) (hn:n < n2) (hnR:n < nR) (hr1:r1 < l1) (cL0:w.cell? ⟨b4,o4 + i * 2,none⟩ = some (.int .i64 n)) (cL1:w.cell? ⟨b4,o4 + i * 2 + 1,none⟩ = some (.int .i64 o))
  (cW:w.cell? ⟨b2,o2 + n,none⟩ = some (.slice (some ⟨bm,om,none⟩) l1 cm)) (cR1:w.cell? ⟨bR,oR + n,none⟩ = some (.int .i64 r1)) (cK:w.cell? ⟨bm,om + r1 * 2 + 1,none⟩ = some (.slice Ak k1.length ck)) (hk1:Ints w Ak k1) (h1:hasB k1 x = false)
  (hbl:b4 < w.heap.size) :
  Calls Tryz.prog 164 #[.agg #[.int .i64 p,.slice a1 n1 c1,.slice (some ⟨b2,o2,none⟩) n2 c2,.slice a3 n3 c3,.slice (some ⟨b4,o4,none⟩) n4 c4],.slice (some ⟨bR,oR,none⟩) nR cR,.int .i64 i,.int .i64 x] w
   fun e w'=>e = .returned (.bool false) /\ Aft w w':=by
 have H1:=Lib.hid h1;have HK1:=Lib.hid hk1;have i1:(0:Int) <= (n:Int) /\ (n:Int) < (n2:Int):=by omega
 have i2:(0:Int) <= (n:Int) /\ (n:Int) < (nR:Int):=by omega
 have i3:(0:Int) <= (r1:Int) /\ (r1:Int) < (l1:Int):=by omega
 have i4:(0:Int) <= (i:Int) /\ (i:Int) < (n4:Int):=by omega
 have CW0:=Lib.hid cW;have CR0:=Lib.hid cR1;have CK0:=Lib.hid cK;clear cW cR1 cK h1 hk1;go_enter Tryz.func164,Tryz.ntmps164;(repeat (first | go_big_skip | go_big_want | go_big_move | go_big_op | go_step | go_upon | go_back));go_upto_region 2 with fail
 have hX0:Aft w ((w.alloc (.cells #[.int .i64 p,.slice a1 n1 c1,.slice (some ⟨b2,o2,none⟩) n2 c2,.slice a3 n3 c3,.slice (some ⟨b4,o4,none⟩) n4 c4] 35)).alloc (.cells #[.int .i64 n,.int .i64 o] 89)):=(Aft.alloc _ _).then_alloc _;have hB0:Blk ((w.alloc (.cells #[.int .i64 p,.slice a1 n1 c1,.slice (some ⟨b2,o2,none⟩) n2 c2,.slice a3 n3 c3,.slice (some ⟨b4,o4,none⟩) n4 c4] 35)).alloc (.cells #[.int .i64 n,.int .i64 o] 89)) w.heap.size 35 _:=(Blk.new w 35 _).alloc _;have hB1:=Blk.new (w.alloc (.cells #[.int .i64 p,.slice a1 n1 c1,.slice (some ⟨b2,o2,none⟩) n2 c2,.slice a3 n3 c3,.slice (some ⟨b4,o4,none⟩) n4 c4] 35)) 89 #[.int .i64 n,.int .i64 o];rw [World.size_alloc] at hB1;generalize ((w.alloc (.cells #[.int .i64 p,.slice a1 n1 c1,.slice (some ⟨b2,o2,none⟩) n2 c2,.slice a3 n3 c3,.slice (some ⟨b4,o4,none⟩) n4 c4] 35)).alloc (.cells #[.int .i64 n,.int .i64 o] 89)) = X0 at *;have HX0:=Lib.hid hX0;have C2:Hid (X0.cell? ⟨w.heap.size,2,none⟩ = some (.slice (some ⟨b2,o2,none⟩) n2 c2)):=Lib.hid (hB0.cell 2);have C90:Hid (X0.cell? ⟨w.heap.size + 1,0,none⟩ = some (.int .i64 n)):=Lib.hid (hB1.cell 0);have C91:Hid (X0.cell? ⟨w.heap.size + 1,1,none⟩ = some (.int .i64 o)):=Lib.hid (hB1.cell 1);have CW:=Lib.hid (cells_aft hX0 CW0.out);have CR:=Lib.hid (cells_aft hX0 CR0.out);have CK:=Lib.hid (cells_aft hX0 CK0.out);clear hX0 hB0 hB1 CW0 CR0 CK0;generalize w.heap.size = S at *;have hmx:Tryz.prog.follows .mixedOrders = true:=by kernel_rfl
 refine wp_region_valsG hmx 54 rfl (by kernel_rfl) (by kernel_rfl) [.pointer (some ⟨S,2,none⟩),.slice (some ⟨b2,o2,none⟩) n2 c2,.pointer (some ⟨S + 1,0,none⟩),.int .i64 n,.pointer (some ⟨b2,o2 + n,none⟩),.slice (some ⟨bm,om,none⟩) l1 cm,.slice (some ⟨bR,oR,none⟩) nR cR,.pointer (some ⟨S + 1,0,none⟩),.int .i64 n,.pointer (some ⟨bR,oR + n,none⟩),.int .i64 r1,.pointer (some ⟨bm,om + r1 * 2,none⟩),.pointer (some ⟨bm,om + r1 * 2 + 1,none⟩),.slice Ak k1.length ck,.int .i64 x,.bool false,.bool false,undef,undef,undef,undef,undef,undef,undef,undef,undef,undef,undef,undef,undef,undef,undef,undef,undef,undef,undef,undef,undef,.bool false,.bool false] rfl (fun X=>Aft X0 X) (Aft.drew _) ?step ?fin
 case step =>
  intro i' o' v ho hv
  match i',ho,hv with
  | 0,ho,hv =>
   cases ho;cases hv;refine .inl ⟨rfl,fun a X hk hX K hK=>?_⟩;have e_4:a.eval (.tmp 4) = .pointer (some ⟨S,0,none⟩):=(hk.same 4 (by decide)).trans rfl;exact op_val (by simp [go_sem,ev' e_4]) (hK _ hX)
  | 1,ho,hv =>
   cases ho;cases hv;refine .inl ⟨rfl,fun a X hk hX K hK=>?_⟩;have e_15:a.eval (.tmp 15) = .pointer (some ⟨S,2,none⟩):=hk.at_ 0 _ 15 _ rfl (by decide) _ rfl rfl rfl;have hc:=cells_aft hX C2.out;exact op_val (by simp [go_sem,ev' e_15,hc]) (hK _ hX)
  | 2,ho,hv =>
   cases ho;cases hv;refine .inl ⟨rfl,fun a X hk hX K hK=>?_⟩;have e_9:a.eval (.tmp 9) = .pointer (some ⟨S + 1,0,none⟩):=(hk.same 9 (by decide)).trans rfl;exact op_val (by simp [go_sem,ev' e_9]) (hK _ hX)
  | 3,ho,hv =>
   cases ho;cases hv;refine .inl ⟨rfl,fun a X hk hX K hK=>?_⟩;have e_17:a.eval (.tmp 17) = .pointer (some ⟨S + 1,0,none⟩):=hk.at_ 2 _ 17 _ rfl (by decide) _ rfl rfl rfl;have hc:=cells_aft hX C90.out;exact op_val (by simp [go_sem,ev' e_17,hc]) (hK _ hX)
  | 4,ho,hv =>
   cases ho;cases hv;refine .inl ⟨rfl,fun a X hk hX K hK=>?_⟩;have e_16:a.eval (.tmp 16) = .slice (some ⟨b2,o2,none⟩) n2 c2:=hk.at_ 1 _ 16 _ rfl (by decide) _ rfl rfl rfl;have e_18:a.eval (.tmp 18) = .int .i64 n:=hk.at_ 3 _ 18 _ rfl (by decide) _ rfl rfl rfl;exact op_val (by simp [go_sem,ev' e_16,ev' e_18,i1]) (hK _ hX)
  | 5,ho,hv =>
   cases ho;cases hv;refine .inl ⟨rfl,fun a X hk hX K hK=>?_⟩;have e_19:a.eval (.tmp 19) = .pointer (some ⟨b2,o2 + n,none⟩):=hk.at_ 4 _ 19 _ rfl (by decide) _ rfl rfl rfl;have hc:=cells_aft hX CW.out;exact op_val (by simp [go_sem,ev' e_19,hc]) (hK _ hX)
  | 6,ho,hv =>
   cases ho;cases hv;refine .inl ⟨rfl,fun a X hk hX K hK=>?_⟩;have e_1:a.eval (.tmp 1) = .slice (some ⟨bR,oR,none⟩) nR cR:=(hk.same 1 (by decide)).trans rfl;exact op_val (by simp [go_sem,ev' e_1]) (hK _ hX)
  | 7,ho,hv =>
   cases ho;cases hv;refine .inl ⟨rfl,fun a X hk hX K hK=>?_⟩;have e_9:a.eval (.tmp 9) = .pointer (some ⟨S + 1,0,none⟩):=(hk.same 9 (by decide)).trans rfl;exact op_val (by simp [go_sem,ev' e_9]) (hK _ hX)
  | 8,ho,hv =>
   cases ho;cases hv;refine .inl ⟨rfl,fun a X hk hX K hK=>?_⟩;have e_22:a.eval (.tmp 22) = .pointer (some ⟨S + 1,0,none⟩):=hk.at_ 7 _ 22 _ rfl (by decide) _ rfl rfl rfl;have hc:=cells_aft hX C90.out;exact op_val (by simp [go_sem,ev' e_22,hc]) (hK _ hX)
  | 9,ho,hv =>
   cases ho;cases hv;refine .inl ⟨rfl,fun a X hk hX K hK=>?_⟩;have e_21:a.eval (.tmp 21) = .slice (some ⟨bR,oR,none⟩) nR cR:=hk.at_ 6 _ 21 _ rfl (by decide) _ rfl rfl rfl;have e_23:a.eval (.tmp 23) = .int .i64 n:=hk.at_ 8 _ 23 _ rfl (by decide) _ rfl rfl rfl;exact op_val (by simp [go_sem,ev' e_21,ev' e_23,i2]) (hK _ hX)
  | 10,ho,hv =>
   cases ho;cases hv;refine .inl ⟨rfl,fun a X hk hX K hK=>?_⟩;have e_24:a.eval (.tmp 24) = .pointer (some ⟨bR,oR + n,none⟩):=hk.at_ 9 _ 24 _ rfl (by decide) _ rfl rfl rfl;have hc:=cells_aft hX CR.out;exact op_val (by simp [go_sem,ev' e_24,hc]) (hK _ hX)
  | 11,ho,hv =>
   cases ho;cases hv;refine .inl ⟨rfl,fun a X hk hX K hK=>?_⟩;have e_20:a.eval (.tmp 20) = .slice (some ⟨bm,om,none⟩) l1 cm:=hk.at_ 5 _ 20 _ rfl (by decide) _ rfl rfl rfl;have e_25:a.eval (.tmp 25) = .int .i64 r1:=hk.at_ 10 _ 25 _ rfl (by decide) _ rfl rfl rfl;exact op_val (by simp [go_sem,ev' e_20,ev' e_25,i3]) (hK _ hX)
  | 12,ho,hv =>
   cases ho;cases hv;refine .inl ⟨rfl,fun a X hk hX K hK=>?_⟩;have e_26:a.eval (.tmp 26) = .pointer (some ⟨bm,om + r1 * 2,none⟩):=hk.at_ 11 _ 26 _ rfl (by decide) _ rfl rfl rfl;exact op_val (by simp [go_sem,ev' e_26]) (hK _ hX)
  | 13,ho,hv =>
   cases ho;cases hv;refine .inl ⟨rfl,fun a X hk hX K hK=>?_⟩;have e_27:a.eval (.tmp 27) = .pointer (some ⟨bm,om + r1 * 2 + 1,none⟩):=hk.at_ 12 _ 27 _ rfl (by decide) _ rfl rfl rfl;have hc:=cells_aft hX CK.out;exact op_val (by simp [go_sem,ev' e_27,hc]) (hK _ hX)
  | 14,ho,hv =>
   cases ho;cases hv;refine .inl ⟨rfl,fun a X hk hX K hK=>?_⟩;have e_3:a.eval (.tmp 3) = .int .i64 x:=(hk.same 3 (by decide)).trans rfl;exact op_val (by simp [go_sem,ev' e_3]) (hK _ hX)
  | 15,ho,hv =>
   cases ho;cases hv;refine .inl ⟨rfl,fun a X hk hX K hK=>?_⟩;have e_28:a.eval (.tmp 28) = .slice Ak k1.length ck:=hk.at_ 13 _ 28 _ rfl (by decide) _ rfl rfl rfl;have e_29:a.eval (.tmp 29) = .int .i64 x:=hk.at_ 14 _ 29 _ rfl (by decide) _ rfl rfl rfl;refine op_call2 Tryz.func125 (by kernel_rfl) (by kernel_rfl) _ _ rfl e_28 e_29 (has_any Ak k1 ck x X (HK1.out.aft (HX0.out.trans hX))) ?_;rintro e w' ⟨rfl,rfl⟩;rw [H1.out];exact ⟨_,rfl,hK _ hX⟩
  | 16,ho,hv =>
   cases ho;cases hv;refine .inl ⟨rfl,fun a X hk hX K hK=>?_⟩;have e_30:a.eval (.tmp 30) = .bool false:=hk.at_ 15 _ 30 _ rfl (by decide) _ rfl rfl rfl;exact op_val (by simp [go_sem,ev' e_30]) (hK _ hX)
  | 17,ho,hv | 18,ho,hv | 19,ho,hv | 20,ho,hv | 21,ho,hv | 22,ho,hv | 23,ho,hv | 24,ho,hv | 25,ho,hv | 26,ho,hv | 27,ho,hv | 28,ho,hv | 29,ho,hv | 30,ho,hv | 31,ho,hv | 32,ho,hv | 33,ho,hv | 34,ho,hv | 35,ho,hv | 36,ho,hv | 37,ho,hv =>
   cases ho;cases hv;exact .inr ⟨rfl,rfl⟩
  | 38,ho,hv =>
   cases ho;cases hv;refine .inl ⟨rfl,fun a X hk hX K hK=>?_⟩;have e_31:a.eval (.tmp 31) = .bool false:=hk.at_ 16 _ 31 _ rfl (by decide) _ rfl rfl rfl;have e_52:a.eval (.tmp 52) = undef:=hk.at_ 37 _ 52 _ rfl (by decide) _ rfl rfl rfl;exact op_val (by simp [go_sem,ev' e_31,ev' e_52]) (hK _ hX)
  | 39,ho,hv =>
   cases ho;cases hv;refine .inl ⟨rfl,fun a X hk hX K hK=>?_⟩;have e_53:a.eval (.tmp 53) = .bool false:=hk.at_ 38 _ 53 _ rfl (by decide) _ rfl rfl rfl;exact op_val (by simp [go_sem,ev' e_53]) (hK _ hX)
  | _ + 40,ho,_=>cases ho
 case fin =>
  intro X hX;simp only [List.zip_cons_cons,List.zip_nil_right,putAll,Act.put,List.setIfInBounds_toArray,List.set_cons_succ,List.set_cons_zero];(repeat (first | go_big_skip | go_big_want | go_big_move | go_big_op | go_step | go_upon | go_back));go_ret;exact ⟨rfl,HX0.out.trans hX⟩
set_option maxRecDepth 100000 in
set_option maxHeartbeats 2000000 in
theorem endsB (w:World) (p:Int) (a1 a3:Option Addr) (n1 n2 n3 n4 c1 c2 c3 c4 b2 o2 b4 o4 bR oR nR cR bm om l1 cm r1 n i:Nat) (k1:List Int) (Ak:Option Addr) (ck:Nat) (x:Int)
  (hi:i < n4) (hn:n < n2) (hnR:n < nR) (hr1:r1 < l1) (cL0:w.cell? ⟨b4,o4 + i * 2,none⟩ = some (.int .i64 n)) (cL1:w.cell? ⟨b4,o4 + i * 2 + 1,none⟩ = some (.int .i64 (-1)))
  (cW:w.cell? ⟨b2,o2 + n,none⟩ = some (.slice (some ⟨bm,om,none⟩) l1 cm)) (cR1:w.cell? ⟨bR,oR + n,none⟩ = some (.int .i64 r1)) (cK:w.cell? ⟨bm,om + r1 * 2 + 1,none⟩ = some (.slice Ak k1.length ck)) (hk1:Ints w Ak k1) (h1:hasB k1 x = true)
  (hbl:b4 < w.heap.size) :
  Calls Tryz.prog 164 #[.agg #[.int .i64 p,.slice a1 n1 c1,.slice (some ⟨b2,o2,none⟩) n2 c2,.slice a3 n3 c3,.slice (some ⟨b4,o4,none⟩) n4 c4],.slice (some ⟨bR,oR,none⟩) nR cR,.int .i64 i,.int .i64 x] w
   fun e w'=>e = .returned (.bool true) /\ Aft w w':=by
 have H1:=Lib.hid h1;have HK1:=Lib.hid hk1;have i1:(0:Int) <= (n:Int) /\ (n:Int) < (n2:Int):=by omega
 have i2:(0:Int) <= (n:Int) /\ (n:Int) < (nR:Int):=by omega
 have i3:(0:Int) <= (r1:Int) /\ (r1:Int) < (l1:Int):=by omega
 have i4:(0:Int) <= (i:Int) /\ (i:Int) < (n4:Int):=by omega
 have CW0:=Lib.hid cW;have CR0:=Lib.hid cR1;have CK0:=Lib.hid cK;clear cW cR1 cK h1 hk1;go_enter Tryz.func164,Tryz.ntmps164;(repeat (first | go_big_skip | go_big_want | go_big_move | go_big_op | go_step | go_upon | go_back));go_upto_region 2 with fail
 have hX0:Aft w ((w.alloc (.cells #[.int .i64 p,.slice a1 n1 c1,.slice (some ⟨b2,o2,none⟩) n2 c2,.slice a3 n3 c3,.slice (some ⟨b4,o4,none⟩) n4 c4] 35)).alloc (.cells #[.int .i64 n,.int .i64 (-1)] 89)):=(Aft.alloc _ _).then_alloc _;have hB0:Blk ((w.alloc (.cells #[.int .i64 p,.slice a1 n1 c1,.slice (some ⟨b2,o2,none⟩) n2 c2,.slice a3 n3 c3,.slice (some ⟨b4,o4,none⟩) n4 c4] 35)).alloc (.cells #[.int .i64 n,.int .i64 (-1)] 89)) w.heap.size 35 _:=(Blk.new w 35 _).alloc _;have hB1:=Blk.new (w.alloc (.cells #[.int .i64 p,.slice a1 n1 c1,.slice (some ⟨b2,o2,none⟩) n2 c2,.slice a3 n3 c3,.slice (some ⟨b4,o4,none⟩) n4 c4] 35)) 89 #[.int .i64 n,.int .i64 (-1)];rw [World.size_alloc] at hB1;generalize ((w.alloc (.cells #[.int .i64 p,.slice a1 n1 c1,.slice (some ⟨b2,o2,none⟩) n2 c2,.slice a3 n3 c3,.slice (some ⟨b4,o4,none⟩) n4 c4] 35)).alloc (.cells #[.int .i64 n,.int .i64 (-1)] 89)) = X0 at *;have HX0:=Lib.hid hX0;have C2:Hid (X0.cell? ⟨w.heap.size,2,none⟩ = some (.slice (some ⟨b2,o2,none⟩) n2 c2)):=Lib.hid (hB0.cell 2);have C90:Hid (X0.cell? ⟨w.heap.size + 1,0,none⟩ = some (.int .i64 n)):=Lib.hid (hB1.cell 0);have C91:Hid (X0.cell? ⟨w.heap.size + 1,1,none⟩ = some (.int .i64 (-1))):=Lib.hid (hB1.cell 1);have CW:=Lib.hid (cells_aft hX0 CW0.out);have CR:=Lib.hid (cells_aft hX0 CR0.out);have CK:=Lib.hid (cells_aft hX0 CK0.out);clear hX0 hB0 hB1 CW0 CR0 CK0;generalize w.heap.size = S at *;have hmx:Tryz.prog.follows .mixedOrders = true:=by kernel_rfl
 refine wp_region_valsG hmx 54 rfl (by kernel_rfl) (by kernel_rfl) [.pointer (some ⟨S,2,none⟩),.slice (some ⟨b2,o2,none⟩) n2 c2,.pointer (some ⟨S + 1,0,none⟩),.int .i64 n,.pointer (some ⟨b2,o2 + n,none⟩),.slice (some ⟨bm,om,none⟩) l1 cm,.slice (some ⟨bR,oR,none⟩) nR cR,.pointer (some ⟨S + 1,0,none⟩),.int .i64 n,.pointer (some ⟨bR,oR + n,none⟩),.int .i64 r1,.pointer (some ⟨bm,om + r1 * 2,none⟩),.pointer (some ⟨bm,om + r1 * 2 + 1,none⟩),.slice Ak k1.length ck,.int .i64 x,.bool true,.bool true,.pointer (some ⟨S + 1,1,none⟩),.int .i64 (-1),.bool true,.bool true,undef,undef,undef,undef,undef,undef,undef,undef,undef,undef,undef,undef,undef,undef,undef,undef,.bool true,.bool true,.bool true] rfl (fun X=>Aft X0 X) (Aft.drew _) ?step ?fin
 case step =>
  intro i' o' v ho hv
  match i',ho,hv with
  | 0,ho,hv =>
   cases ho;cases hv;refine .inl ⟨rfl,fun a X hk hX K hK=>?_⟩;have e_4:a.eval (.tmp 4) = .pointer (some ⟨S,0,none⟩):=(hk.same 4 (by decide)).trans rfl;exact op_val (by simp [go_sem,ev' e_4]) (hK _ hX)
  | 1,ho,hv =>
   cases ho;cases hv;refine .inl ⟨rfl,fun a X hk hX K hK=>?_⟩;have e_15:a.eval (.tmp 15) = .pointer (some ⟨S,2,none⟩):=hk.at_ 0 _ 15 _ rfl (by decide) _ rfl rfl rfl;have hc:=cells_aft hX C2.out;exact op_val (by simp [go_sem,ev' e_15,hc]) (hK _ hX)
  | 2,ho,hv =>
   cases ho;cases hv;refine .inl ⟨rfl,fun a X hk hX K hK=>?_⟩;have e_9:a.eval (.tmp 9) = .pointer (some ⟨S + 1,0,none⟩):=(hk.same 9 (by decide)).trans rfl;exact op_val (by simp [go_sem,ev' e_9]) (hK _ hX)
  | 3,ho,hv =>
   cases ho;cases hv;refine .inl ⟨rfl,fun a X hk hX K hK=>?_⟩;have e_17:a.eval (.tmp 17) = .pointer (some ⟨S + 1,0,none⟩):=hk.at_ 2 _ 17 _ rfl (by decide) _ rfl rfl rfl;have hc:=cells_aft hX C90.out;exact op_val (by simp [go_sem,ev' e_17,hc]) (hK _ hX)
  | 4,ho,hv =>
   cases ho;cases hv;refine .inl ⟨rfl,fun a X hk hX K hK=>?_⟩;have e_16:a.eval (.tmp 16) = .slice (some ⟨b2,o2,none⟩) n2 c2:=hk.at_ 1 _ 16 _ rfl (by decide) _ rfl rfl rfl;have e_18:a.eval (.tmp 18) = .int .i64 n:=hk.at_ 3 _ 18 _ rfl (by decide) _ rfl rfl rfl;exact op_val (by simp [go_sem,ev' e_16,ev' e_18,i1]) (hK _ hX)
  | 5,ho,hv =>
   cases ho;cases hv;refine .inl ⟨rfl,fun a X hk hX K hK=>?_⟩;have e_19:a.eval (.tmp 19) = .pointer (some ⟨b2,o2 + n,none⟩):=hk.at_ 4 _ 19 _ rfl (by decide) _ rfl rfl rfl;have hc:=cells_aft hX CW.out;exact op_val (by simp [go_sem,ev' e_19,hc]) (hK _ hX)
  | 6,ho,hv =>
   cases ho;cases hv;refine .inl ⟨rfl,fun a X hk hX K hK=>?_⟩;have e_1:a.eval (.tmp 1) = .slice (some ⟨bR,oR,none⟩) nR cR:=(hk.same 1 (by decide)).trans rfl;exact op_val (by simp [go_sem,ev' e_1]) (hK _ hX)
  | 7,ho,hv =>
   cases ho;cases hv;refine .inl ⟨rfl,fun a X hk hX K hK=>?_⟩;have e_9:a.eval (.tmp 9) = .pointer (some ⟨S + 1,0,none⟩):=(hk.same 9 (by decide)).trans rfl;exact op_val (by simp [go_sem,ev' e_9]) (hK _ hX)
  | 8,ho,hv =>
   cases ho;cases hv;refine .inl ⟨rfl,fun a X hk hX K hK=>?_⟩;have e_22:a.eval (.tmp 22) = .pointer (some ⟨S + 1,0,none⟩):=hk.at_ 7 _ 22 _ rfl (by decide) _ rfl rfl rfl;have hc:=cells_aft hX C90.out;exact op_val (by simp [go_sem,ev' e_22,hc]) (hK _ hX)
  | 9,ho,hv =>
   cases ho;cases hv;refine .inl ⟨rfl,fun a X hk hX K hK=>?_⟩;have e_21:a.eval (.tmp 21) = .slice (some ⟨bR,oR,none⟩) nR cR:=hk.at_ 6 _ 21 _ rfl (by decide) _ rfl rfl rfl;have e_23:a.eval (.tmp 23) = .int .i64 n:=hk.at_ 8 _ 23 _ rfl (by decide) _ rfl rfl rfl;exact op_val (by simp [go_sem,ev' e_21,ev' e_23,i2]) (hK _ hX)
  | 10,ho,hv =>
   cases ho;cases hv;refine .inl ⟨rfl,fun a X hk hX K hK=>?_⟩;have e_24:a.eval (.tmp 24) = .pointer (some ⟨bR,oR + n,none⟩):=hk.at_ 9 _ 24 _ rfl (by decide) _ rfl rfl rfl;have hc:=cells_aft hX CR.out;exact op_val (by simp [go_sem,ev' e_24,hc]) (hK _ hX)
  | 11,ho,hv =>
   cases ho;cases hv;refine .inl ⟨rfl,fun a X hk hX K hK=>?_⟩;have e_20:a.eval (.tmp 20) = .slice (some ⟨bm,om,none⟩) l1 cm:=hk.at_ 5 _ 20 _ rfl (by decide) _ rfl rfl rfl;have e_25:a.eval (.tmp 25) = .int .i64 r1:=hk.at_ 10 _ 25 _ rfl (by decide) _ rfl rfl rfl;exact op_val (by simp [go_sem,ev' e_20,ev' e_25,i3]) (hK _ hX)
  | 12,ho,hv =>
   cases ho;cases hv;refine .inl ⟨rfl,fun a X hk hX K hK=>?_⟩;have e_26:a.eval (.tmp 26) = .pointer (some ⟨bm,om + r1 * 2,none⟩):=hk.at_ 11 _ 26 _ rfl (by decide) _ rfl rfl rfl;exact op_val (by simp [go_sem,ev' e_26]) (hK _ hX)
  | 13,ho,hv =>
   cases ho;cases hv;refine .inl ⟨rfl,fun a X hk hX K hK=>?_⟩;have e_27:a.eval (.tmp 27) = .pointer (some ⟨bm,om + r1 * 2 + 1,none⟩):=hk.at_ 12 _ 27 _ rfl (by decide) _ rfl rfl rfl;have hc:=cells_aft hX CK.out;exact op_val (by simp [go_sem,ev' e_27,hc]) (hK _ hX)
  | 14,ho,hv =>
   cases ho;cases hv;refine .inl ⟨rfl,fun a X hk hX K hK=>?_⟩;have e_3:a.eval (.tmp 3) = .int .i64 x:=(hk.same 3 (by decide)).trans rfl;exact op_val (by simp [go_sem,ev' e_3]) (hK _ hX)
  | 15,ho,hv =>
   cases ho;cases hv;refine .inl ⟨rfl,fun a X hk hX K hK=>?_⟩;have e_28:a.eval (.tmp 28) = .slice Ak k1.length ck:=hk.at_ 13 _ 28 _ rfl (by decide) _ rfl rfl rfl;have e_29:a.eval (.tmp 29) = .int .i64 x:=hk.at_ 14 _ 29 _ rfl (by decide) _ rfl rfl rfl;refine op_call2 Tryz.func125 (by kernel_rfl) (by kernel_rfl) _ _ rfl e_28 e_29 (has_any Ak k1 ck x X (HK1.out.aft (HX0.out.trans hX))) ?_;rintro e w' ⟨rfl,rfl⟩;rw [H1.out];exact ⟨_,rfl,hK _ hX⟩
  | 16,ho,hv =>
   cases ho;cases hv;refine .inl ⟨rfl,fun a X hk hX K hK=>?_⟩;have e_30:a.eval (.tmp 30) = .bool true:=hk.at_ 15 _ 30 _ rfl (by decide) _ rfl rfl rfl;exact op_val (by simp [go_sem,ev' e_30]) (hK _ hX)
  | 17,ho,hv =>
   cases ho;cases hv;refine .inl ⟨rfl,fun a X hk hX K hK=>?_⟩;have e_9:a.eval (.tmp 9) = .pointer (some ⟨S + 1,0,none⟩):=(hk.same 9 (by decide)).trans rfl;exact op_val (by simp [go_sem,ev' e_9]) (hK _ hX)
  | 18,ho,hv =>
   cases ho;cases hv;refine .inl ⟨rfl,fun a X hk hX K hK=>?_⟩;have e_32:a.eval (.tmp 32) = .pointer (some ⟨S + 1,1,none⟩):=hk.at_ 17 _ 32 _ rfl (by decide) _ rfl rfl rfl;have hc:=cells_aft hX C91.out;exact op_val (by simp [go_sem,ev' e_32,hc]) (hK _ hX)
  | 19,ho,hv =>
   cases ho;cases hv;refine .inl ⟨rfl,fun a X hk hX K hK=>?_⟩;have e_33:a.eval (.tmp 33) = .int .i64 (-1):=hk.at_ 18 _ 33 _ rfl (by decide) _ rfl rfl rfl;exact op_val (by simp [go_sem,ev' e_33]) (hK _ hX)
  | 20,ho,hv =>
   cases ho;cases hv;refine .inl ⟨rfl,fun a X hk hX K hK=>?_⟩;have e_34:a.eval (.tmp 34) = .bool true:=hk.at_ 19 _ 34 _ rfl (by decide) _ rfl rfl rfl;exact op_val (by simp [go_sem,ev' e_34]) (hK _ hX)
  | 21,ho,hv | 22,ho,hv | 23,ho,hv | 24,ho,hv | 25,ho,hv | 26,ho,hv | 27,ho,hv | 28,ho,hv | 29,ho,hv | 30,ho,hv | 31,ho,hv | 32,ho,hv | 33,ho,hv | 34,ho,hv | 35,ho,hv | 36,ho,hv =>
   cases ho;cases hv;exact .inr ⟨rfl,rfl⟩
  | 37,ho,hv =>
   cases ho;cases hv;refine .inl ⟨rfl,fun a X hk hX K hK=>?_⟩;have e_35:a.eval (.tmp 35) = .bool true:=hk.at_ 20 _ 35 _ rfl (by decide) _ rfl rfl rfl;have e_51:a.eval (.tmp 51) = undef:=hk.at_ 36 _ 51 _ rfl (by decide) _ rfl rfl rfl;exact op_val (by simp [go_sem,ev' e_35,ev' e_51]) (hK _ hX)
  | 38,ho,hv =>
   cases ho;cases hv;refine .inl ⟨rfl,fun a X hk hX K hK=>?_⟩;have e_31:a.eval (.tmp 31) = .bool true:=hk.at_ 16 _ 31 _ rfl (by decide) _ rfl rfl rfl;have e_52:a.eval (.tmp 52) = .bool true:=hk.at_ 37 _ 52 _ rfl (by decide) _ rfl rfl rfl;exact op_val (by simp [go_sem,ev' e_31,ev' e_52]) (hK _ hX)
  | 39,ho,hv =>
   cases ho;cases hv;refine .inl ⟨rfl,fun a X hk hX K hK=>?_⟩;have e_53:a.eval (.tmp 53) = .bool true:=hk.at_ 38 _ 53 _ rfl (by decide) _ rfl rfl rfl;exact op_val (by simp [go_sem,ev' e_53]) (hK _ hX)
  | _ + 40,ho,_=>cases ho
 case fin =>
  intro X hX;simp only [List.zip_cons_cons,List.zip_nil_right,putAll,Act.put,List.setIfInBounds_toArray,List.set_cons_succ,List.set_cons_zero];(repeat (first | go_big_skip | go_big_want | go_big_move | go_big_op | go_step | go_upon | go_back));go_ret;exact ⟨rfl,HX0.out.trans hX⟩
set_option maxRecDepth 100000 in
set_option maxHeartbeats 2000000 in
theorem endsC (w:World) (p:Int) (a1 a3:Option Addr) (n1 n2 n3 n4 c1 c2 c3 c4 b2 o2 b4 o4 bR oR nR cR bm om l1 cm r1 n i:Nat) (k1:List Int) (Ak:Option Addr) (ck:Nat) (x:Int) (bn on l2 cn r2:Nat) (k2:List Int) (Aj:Option Addr) (cj:Nat) (m:Nat) (hm:m < n2) (hmR:m < nR) (hr2:r2 < l2) (cW2:w.cell? ⟨b2,o2 + m,none⟩ = some (.slice (some ⟨bn,on,none⟩) l2 cn)) (cR2:w.cell? ⟨bR,oR + m,none⟩ = some (.int .i64 r2)) (cK2:w.cell? ⟨bn,on + r2 * 2 + 1,none⟩ = some (.slice Aj k2.length cj)) (hk2:Ints w Aj k2)
  (hi:i < n4) (hn:n < n2) (hnR:n < nR) (hr1:r1 < l1) (cL0:w.cell? ⟨b4,o4 + i * 2,none⟩ = some (.int .i64 n)) (cL1:w.cell? ⟨b4,o4 + i * 2 + 1,none⟩ = some (.int .i64 m))
  (cW:w.cell? ⟨b2,o2 + n,none⟩ = some (.slice (some ⟨bm,om,none⟩) l1 cm)) (cR1:w.cell? ⟨bR,oR + n,none⟩ = some (.int .i64 r1)) (cK:w.cell? ⟨bm,om + r1 * 2 + 1,none⟩ = some (.slice Ak k1.length ck)) (hk1:Ints w Ak k1) (h1:hasB k1 x = true)
  (hbl:b4 < w.heap.size) :
  Calls Tryz.prog 164 #[.agg #[.int .i64 p,.slice a1 n1 c1,.slice (some ⟨b2,o2,none⟩) n2 c2,.slice a3 n3 c3,.slice (some ⟨b4,o4,none⟩) n4 c4],.slice (some ⟨bR,oR,none⟩) nR cR,.int .i64 i,.int .i64 x] w
   fun e w'=>e = .returned (.bool (hasB k2 x)) /\ Aft w w':=by
 have H1:=Lib.hid h1;have HK1:=Lib.hid hk1;have HK2:=Lib.hid hk2;have i1:(0:Int) <= (n:Int) /\ (n:Int) < (n2:Int):=by omega
 have i2:(0:Int) <= (n:Int) /\ (n:Int) < (nR:Int):=by omega
 have i3:(0:Int) <= (r1:Int) /\ (r1:Int) < (l1:Int):=by omega
 have i4:(0:Int) <= (i:Int) /\ (i:Int) < (n4:Int):=by omega
 have j1:(0:Int) <= (m:Int) /\ (m:Int) < (n2:Int):=by omega
 have j2:(0:Int) <= (m:Int) /\ (m:Int) < (nR:Int):=by omega
 have j3:(0:Int) <= (r2:Int) /\ (r2:Int) < (l2:Int):=by omega
 have hm1:((m:Int) == -1) = false:=by rw [beq_eq_false_iff_ne];omega
 have CX0:=Lib.hid cW2;have CY0:=Lib.hid cR2;have CZ0:=Lib.hid cK2;clear cW2 cR2 cK2 hk2;have CW0:=Lib.hid cW;have CR0:=Lib.hid cR1;have CK0:=Lib.hid cK;clear cW cR1 cK h1 hk1;go_enter Tryz.func164,Tryz.ntmps164;(repeat (first | go_big_skip | go_big_want | go_big_move | go_big_op | go_step | go_upon | go_back));go_upto_region 2 with fail
 have hX0:Aft w ((w.alloc (.cells #[.int .i64 p,.slice a1 n1 c1,.slice (some ⟨b2,o2,none⟩) n2 c2,.slice a3 n3 c3,.slice (some ⟨b4,o4,none⟩) n4 c4] 35)).alloc (.cells #[.int .i64 n,.int .i64 m] 89)):=(Aft.alloc _ _).then_alloc _;have hB0:Blk ((w.alloc (.cells #[.int .i64 p,.slice a1 n1 c1,.slice (some ⟨b2,o2,none⟩) n2 c2,.slice a3 n3 c3,.slice (some ⟨b4,o4,none⟩) n4 c4] 35)).alloc (.cells #[.int .i64 n,.int .i64 m] 89)) w.heap.size 35 _:=(Blk.new w 35 _).alloc _;have hB1:=Blk.new (w.alloc (.cells #[.int .i64 p,.slice a1 n1 c1,.slice (some ⟨b2,o2,none⟩) n2 c2,.slice a3 n3 c3,.slice (some ⟨b4,o4,none⟩) n4 c4] 35)) 89 #[.int .i64 n,.int .i64 m];rw [World.size_alloc] at hB1;generalize ((w.alloc (.cells #[.int .i64 p,.slice a1 n1 c1,.slice (some ⟨b2,o2,none⟩) n2 c2,.slice a3 n3 c3,.slice (some ⟨b4,o4,none⟩) n4 c4] 35)).alloc (.cells #[.int .i64 n,.int .i64 m] 89)) = X0 at *;have HX0:=Lib.hid hX0;have C2:Hid (X0.cell? ⟨w.heap.size,2,none⟩ = some (.slice (some ⟨b2,o2,none⟩) n2 c2)):=Lib.hid (hB0.cell 2);have C90:Hid (X0.cell? ⟨w.heap.size + 1,0,none⟩ = some (.int .i64 n)):=Lib.hid (hB1.cell 0);have C91:Hid (X0.cell? ⟨w.heap.size + 1,1,none⟩ = some (.int .i64 m)):=Lib.hid (hB1.cell 1);have CW:=Lib.hid (cells_aft hX0 CW0.out);have CR:=Lib.hid (cells_aft hX0 CR0.out);have CK:=Lib.hid (cells_aft hX0 CK0.out);have CW2:=Lib.hid (cells_aft hX0 CX0.out);have CR2:=Lib.hid (cells_aft hX0 CY0.out);have CK2:=Lib.hid (cells_aft hX0 CZ0.out);clear CX0 CY0 CZ0;clear hX0 hB0 hB1 CW0 CR0 CK0;generalize w.heap.size = S at *;have hmx:Tryz.prog.follows .mixedOrders = true:=by kernel_rfl
 refine wp_region_valsG hmx 54 rfl (by kernel_rfl) (by kernel_rfl) [.pointer (some ⟨S,2,none⟩),.slice (some ⟨b2,o2,none⟩) n2 c2,.pointer (some ⟨S + 1,0,none⟩),.int .i64 n,.pointer (some ⟨b2,o2 + n,none⟩),.slice (some ⟨bm,om,none⟩) l1 cm,.slice (some ⟨bR,oR,none⟩) nR cR,.pointer (some ⟨S + 1,0,none⟩),.int .i64 n,.pointer (some ⟨bR,oR + n,none⟩),.int .i64 r1,.pointer (some ⟨bm,om + r1 * 2,none⟩),.pointer (some ⟨bm,om + r1 * 2 + 1,none⟩),.slice Ak k1.length ck,.int .i64 x,.bool true,.bool true,.pointer (some ⟨S + 1,1,none⟩),.int .i64 m,.bool false,.bool false,.pointer (some ⟨S,2,none⟩),.slice (some ⟨b2,o2,none⟩) n2 c2,.pointer (some ⟨S + 1,1,none⟩),.int .i64 m,.pointer (some ⟨b2,o2 + m,none⟩),.slice (some ⟨bn,on,none⟩) l2 cn,.slice (some ⟨bR,oR,none⟩) nR cR,.pointer (some ⟨S + 1,1,none⟩),.int .i64 m,.pointer (some ⟨bR,oR + m,none⟩),.int .i64 r2,.pointer (some ⟨bn,on + r2 * 2,none⟩),.pointer (some ⟨bn,on + r2 * 2 + 1,none⟩),.slice Aj k2.length cj,.int .i64 x,.bool (hasB k2 x),.bool (hasB k2 x),.bool (hasB k2 x),.bool (hasB k2 x)] rfl (fun X=>Aft X0 X) (Aft.drew _) ?step ?fin
 case step =>
  intro i' o' v ho hv
  match i',ho,hv with
  | 0,ho,hv =>
   cases ho;cases hv;refine .inl ⟨rfl,fun a X hk hX K hK=>?_⟩;have e_4:a.eval (.tmp 4) = .pointer (some ⟨S,0,none⟩):=(hk.same 4 (by decide)).trans rfl;exact op_val (by simp [go_sem,ev' e_4]) (hK _ hX)
  | 1,ho,hv =>
   cases ho;cases hv;refine .inl ⟨rfl,fun a X hk hX K hK=>?_⟩;have e_15:a.eval (.tmp 15) = .pointer (some ⟨S,2,none⟩):=hk.at_ 0 _ 15 _ rfl (by decide) _ rfl rfl rfl;have hc:=cells_aft hX C2.out;exact op_val (by simp [go_sem,ev' e_15,hc]) (hK _ hX)
  | 2,ho,hv =>
   cases ho;cases hv;refine .inl ⟨rfl,fun a X hk hX K hK=>?_⟩;have e_9:a.eval (.tmp 9) = .pointer (some ⟨S + 1,0,none⟩):=(hk.same 9 (by decide)).trans rfl;exact op_val (by simp [go_sem,ev' e_9]) (hK _ hX)
  | 3,ho,hv =>
   cases ho;cases hv;refine .inl ⟨rfl,fun a X hk hX K hK=>?_⟩;have e_17:a.eval (.tmp 17) = .pointer (some ⟨S + 1,0,none⟩):=hk.at_ 2 _ 17 _ rfl (by decide) _ rfl rfl rfl;have hc:=cells_aft hX C90.out;exact op_val (by simp [go_sem,ev' e_17,hc]) (hK _ hX)
  | 4,ho,hv =>
   cases ho;cases hv;refine .inl ⟨rfl,fun a X hk hX K hK=>?_⟩;have e_16:a.eval (.tmp 16) = .slice (some ⟨b2,o2,none⟩) n2 c2:=hk.at_ 1 _ 16 _ rfl (by decide) _ rfl rfl rfl;have e_18:a.eval (.tmp 18) = .int .i64 n:=hk.at_ 3 _ 18 _ rfl (by decide) _ rfl rfl rfl;exact op_val (by simp [go_sem,ev' e_16,ev' e_18,i1]) (hK _ hX)
  | 5,ho,hv =>
   cases ho;cases hv;refine .inl ⟨rfl,fun a X hk hX K hK=>?_⟩;have e_19:a.eval (.tmp 19) = .pointer (some ⟨b2,o2 + n,none⟩):=hk.at_ 4 _ 19 _ rfl (by decide) _ rfl rfl rfl;have hc:=cells_aft hX CW.out;exact op_val (by simp [go_sem,ev' e_19,hc]) (hK _ hX)
  | 6,ho,hv =>
   cases ho;cases hv;refine .inl ⟨rfl,fun a X hk hX K hK=>?_⟩;have e_1:a.eval (.tmp 1) = .slice (some ⟨bR,oR,none⟩) nR cR:=(hk.same 1 (by decide)).trans rfl;exact op_val (by simp [go_sem,ev' e_1]) (hK _ hX)
  | 7,ho,hv =>
   cases ho;cases hv;refine .inl ⟨rfl,fun a X hk hX K hK=>?_⟩;have e_9:a.eval (.tmp 9) = .pointer (some ⟨S + 1,0,none⟩):=(hk.same 9 (by decide)).trans rfl;exact op_val (by simp [go_sem,ev' e_9]) (hK _ hX)
  | 8,ho,hv =>
   cases ho;cases hv;refine .inl ⟨rfl,fun a X hk hX K hK=>?_⟩;have e_22:a.eval (.tmp 22) = .pointer (some ⟨S + 1,0,none⟩):=hk.at_ 7 _ 22 _ rfl (by decide) _ rfl rfl rfl;have hc:=cells_aft hX C90.out;exact op_val (by simp [go_sem,ev' e_22,hc]) (hK _ hX)
  | 9,ho,hv =>
   cases ho;cases hv;refine .inl ⟨rfl,fun a X hk hX K hK=>?_⟩;have e_21:a.eval (.tmp 21) = .slice (some ⟨bR,oR,none⟩) nR cR:=hk.at_ 6 _ 21 _ rfl (by decide) _ rfl rfl rfl;have e_23:a.eval (.tmp 23) = .int .i64 n:=hk.at_ 8 _ 23 _ rfl (by decide) _ rfl rfl rfl;exact op_val (by simp [go_sem,ev' e_21,ev' e_23,i2]) (hK _ hX)
  | 10,ho,hv =>
   cases ho;cases hv;refine .inl ⟨rfl,fun a X hk hX K hK=>?_⟩;have e_24:a.eval (.tmp 24) = .pointer (some ⟨bR,oR + n,none⟩):=hk.at_ 9 _ 24 _ rfl (by decide) _ rfl rfl rfl;have hc:=cells_aft hX CR.out;exact op_val (by simp [go_sem,ev' e_24,hc]) (hK _ hX)
  | 11,ho,hv =>
   cases ho;cases hv;refine .inl ⟨rfl,fun a X hk hX K hK=>?_⟩;have e_20:a.eval (.tmp 20) = .slice (some ⟨bm,om,none⟩) l1 cm:=hk.at_ 5 _ 20 _ rfl (by decide) _ rfl rfl rfl;have e_25:a.eval (.tmp 25) = .int .i64 r1:=hk.at_ 10 _ 25 _ rfl (by decide) _ rfl rfl rfl;exact op_val (by simp [go_sem,ev' e_20,ev' e_25,i3]) (hK _ hX)
  | 12,ho,hv =>
   cases ho;cases hv;refine .inl ⟨rfl,fun a X hk hX K hK=>?_⟩;have e_26:a.eval (.tmp 26) = .pointer (some ⟨bm,om + r1 * 2,none⟩):=hk.at_ 11 _ 26 _ rfl (by decide) _ rfl rfl rfl;exact op_val (by simp [go_sem,ev' e_26]) (hK _ hX)
  | 13,ho,hv =>
   cases ho;cases hv;refine .inl ⟨rfl,fun a X hk hX K hK=>?_⟩;have e_27:a.eval (.tmp 27) = .pointer (some ⟨bm,om + r1 * 2 + 1,none⟩):=hk.at_ 12 _ 27 _ rfl (by decide) _ rfl rfl rfl;have hc:=cells_aft hX CK.out;exact op_val (by simp [go_sem,ev' e_27,hc]) (hK _ hX)
  | 14,ho,hv =>
   cases ho;cases hv;refine .inl ⟨rfl,fun a X hk hX K hK=>?_⟩;have e_3:a.eval (.tmp 3) = .int .i64 x:=(hk.same 3 (by decide)).trans rfl;exact op_val (by simp [go_sem,ev' e_3]) (hK _ hX)
  | 15,ho,hv =>
   cases ho;cases hv;refine .inl ⟨rfl,fun a X hk hX K hK=>?_⟩;have e_28:a.eval (.tmp 28) = .slice Ak k1.length ck:=hk.at_ 13 _ 28 _ rfl (by decide) _ rfl rfl rfl;have e_29:a.eval (.tmp 29) = .int .i64 x:=hk.at_ 14 _ 29 _ rfl (by decide) _ rfl rfl rfl;refine op_call2 Tryz.func125 (by kernel_rfl) (by kernel_rfl) _ _ rfl e_28 e_29 (has_any Ak k1 ck x X (HK1.out.aft (HX0.out.trans hX))) ?_;rintro e w' ⟨rfl,rfl⟩;rw [H1.out];exact ⟨_,rfl,hK _ hX⟩
  | 16,ho,hv =>
   cases ho;cases hv;refine .inl ⟨rfl,fun a X hk hX K hK=>?_⟩;have e_30:a.eval (.tmp 30) = .bool true:=hk.at_ 15 _ 30 _ rfl (by decide) _ rfl rfl rfl;exact op_val (by simp [go_sem,ev' e_30]) (hK _ hX)
  | 17,ho,hv =>
   cases ho;cases hv;refine .inl ⟨rfl,fun a X hk hX K hK=>?_⟩;have e_9:a.eval (.tmp 9) = .pointer (some ⟨S + 1,0,none⟩):=(hk.same 9 (by decide)).trans rfl;exact op_val (by simp [go_sem,ev' e_9]) (hK _ hX)
  | 18,ho,hv =>
   cases ho;cases hv;refine .inl ⟨rfl,fun a X hk hX K hK=>?_⟩;have e_32:a.eval (.tmp 32) = .pointer (some ⟨S + 1,1,none⟩):=hk.at_ 17 _ 32 _ rfl (by decide) _ rfl rfl rfl;have hc:=cells_aft hX C91.out;exact op_val (by simp [go_sem,ev' e_32,hc]) (hK _ hX)
  | 19,ho,hv =>
   cases ho;cases hv;refine .inl ⟨rfl,fun a X hk hX K hK=>?_⟩;have e_33:a.eval (.tmp 33) = .int .i64 m:=hk.at_ 18 _ 33 _ rfl (by decide) _ rfl rfl rfl;exact op_val (by simp [go_sem,ev' e_33,hm1]) (hK _ hX)
  | 20,ho,hv =>
   cases ho;cases hv;refine .inl ⟨rfl,fun a X hk hX K hK=>?_⟩;have e_34:a.eval (.tmp 34) = .bool false:=hk.at_ 19 _ 34 _ rfl (by decide) _ rfl rfl rfl;exact op_val (by simp [go_sem,ev' e_34]) (hK _ hX)
  | 21,ho,hv =>
   cases ho;cases hv;refine .inl ⟨rfl,fun a X hk hX K hK=>?_⟩;have e_4:a.eval (.tmp 4) = .pointer (some ⟨S,0,none⟩):=(hk.same 4 (by decide)).trans rfl;exact op_val (by simp [go_sem,ev' e_4]) (hK _ hX)
  | 22,ho,hv =>
   cases ho;cases hv;refine .inl ⟨rfl,fun a X hk hX K hK=>?_⟩;have e_36:a.eval (.tmp 36) = .pointer (some ⟨S,2,none⟩):=hk.at_ 21 _ 36 _ rfl (by decide) _ rfl rfl rfl;have hc:=cells_aft hX C2.out;exact op_val (by simp [go_sem,ev' e_36,hc]) (hK _ hX)
  | 23,ho,hv =>
   cases ho;cases hv;refine .inl ⟨rfl,fun a X hk hX K hK=>?_⟩;have e_9:a.eval (.tmp 9) = .pointer (some ⟨S + 1,0,none⟩):=(hk.same 9 (by decide)).trans rfl;exact op_val (by simp [go_sem,ev' e_9]) (hK _ hX)
  | 24,ho,hv =>
   cases ho;cases hv;refine .inl ⟨rfl,fun a X hk hX K hK=>?_⟩;have e_38:a.eval (.tmp 38) = .pointer (some ⟨S + 1,1,none⟩):=hk.at_ 23 _ 38 _ rfl (by decide) _ rfl rfl rfl;have hc:=cells_aft hX C91.out;exact op_val (by simp [go_sem,ev' e_38,hc]) (hK _ hX)
  | 25,ho,hv =>
   cases ho;cases hv;refine .inl ⟨rfl,fun a X hk hX K hK=>?_⟩;have e_37:a.eval (.tmp 37) = .slice (some ⟨b2,o2,none⟩) n2 c2:=hk.at_ 22 _ 37 _ rfl (by decide) _ rfl rfl rfl;have e_39:a.eval (.tmp 39) = .int .i64 m:=hk.at_ 24 _ 39 _ rfl (by decide) _ rfl rfl rfl;exact op_val (by simp [go_sem,ev' e_37,ev' e_39,j1]) (hK _ hX)
  | 26,ho,hv =>
   cases ho;cases hv;refine .inl ⟨rfl,fun a X hk hX K hK=>?_⟩;have e_40:a.eval (.tmp 40) = .pointer (some ⟨b2,o2 + m,none⟩):=hk.at_ 25 _ 40 _ rfl (by decide) _ rfl rfl rfl;have hc:=cells_aft hX CW2.out;exact op_val (by simp [go_sem,ev' e_40,hc]) (hK _ hX)
  | 27,ho,hv =>
   cases ho;cases hv;refine .inl ⟨rfl,fun a X hk hX K hK=>?_⟩;have e_1:a.eval (.tmp 1) = .slice (some ⟨bR,oR,none⟩) nR cR:=(hk.same 1 (by decide)).trans rfl;exact op_val (by simp [go_sem,ev' e_1]) (hK _ hX)
  | 28,ho,hv =>
   cases ho;cases hv;refine .inl ⟨rfl,fun a X hk hX K hK=>?_⟩;have e_9:a.eval (.tmp 9) = .pointer (some ⟨S + 1,0,none⟩):=(hk.same 9 (by decide)).trans rfl;exact op_val (by simp [go_sem,ev' e_9]) (hK _ hX)
  | 29,ho,hv =>
   cases ho;cases hv;refine .inl ⟨rfl,fun a X hk hX K hK=>?_⟩;have e_43:a.eval (.tmp 43) = .pointer (some ⟨S + 1,1,none⟩):=hk.at_ 28 _ 43 _ rfl (by decide) _ rfl rfl rfl;have hc:=cells_aft hX C91.out;exact op_val (by simp [go_sem,ev' e_43,hc]) (hK _ hX)
  | 30,ho,hv =>
   cases ho;cases hv;refine .inl ⟨rfl,fun a X hk hX K hK=>?_⟩;have e_42:a.eval (.tmp 42) = .slice (some ⟨bR,oR,none⟩) nR cR:=hk.at_ 27 _ 42 _ rfl (by decide) _ rfl rfl rfl;have e_44:a.eval (.tmp 44) = .int .i64 m:=hk.at_ 29 _ 44 _ rfl (by decide) _ rfl rfl rfl;exact op_val (by simp [go_sem,ev' e_42,ev' e_44,j2]) (hK _ hX)
  | 31,ho,hv =>
   cases ho;cases hv;refine .inl ⟨rfl,fun a X hk hX K hK=>?_⟩;have e_45:a.eval (.tmp 45) = .pointer (some ⟨bR,oR + m,none⟩):=hk.at_ 30 _ 45 _ rfl (by decide) _ rfl rfl rfl;have hc:=cells_aft hX CR2.out;exact op_val (by simp [go_sem,ev' e_45,hc]) (hK _ hX)
  | 32,ho,hv =>
   cases ho;cases hv;refine .inl ⟨rfl,fun a X hk hX K hK=>?_⟩;have e_41:a.eval (.tmp 41) = .slice (some ⟨bn,on,none⟩) l2 cn:=hk.at_ 26 _ 41 _ rfl (by decide) _ rfl rfl rfl;have e_46:a.eval (.tmp 46) = .int .i64 r2:=hk.at_ 31 _ 46 _ rfl (by decide) _ rfl rfl rfl;exact op_val (by simp [go_sem,ev' e_41,ev' e_46,j3]) (hK _ hX)
  | 33,ho,hv =>
   cases ho;cases hv;refine .inl ⟨rfl,fun a X hk hX K hK=>?_⟩;have e_47:a.eval (.tmp 47) = .pointer (some ⟨bn,on + r2 * 2,none⟩):=hk.at_ 32 _ 47 _ rfl (by decide) _ rfl rfl rfl;exact op_val (by simp [go_sem,ev' e_47]) (hK _ hX)
  | 34,ho,hv =>
   cases ho;cases hv;refine .inl ⟨rfl,fun a X hk hX K hK=>?_⟩;have e_48:a.eval (.tmp 48) = .pointer (some ⟨bn,on + r2 * 2 + 1,none⟩):=hk.at_ 33 _ 48 _ rfl (by decide) _ rfl rfl rfl;have hc:=cells_aft hX CK2.out;exact op_val (by simp [go_sem,ev' e_48,hc]) (hK _ hX)
  | 35,ho,hv =>
   cases ho;cases hv;refine .inl ⟨rfl,fun a X hk hX K hK=>?_⟩;have e_3:a.eval (.tmp 3) = .int .i64 x:=(hk.same 3 (by decide)).trans rfl;exact op_val (by simp [go_sem,ev' e_3]) (hK _ hX)
  | 36,ho,hv =>
   cases ho;cases hv;refine .inl ⟨rfl,fun a X hk hX K hK=>?_⟩;have e_49:a.eval (.tmp 49) = .slice Aj k2.length cj:=hk.at_ 34 _ 49 _ rfl (by decide) _ rfl rfl rfl;have e_50:a.eval (.tmp 50) = .int .i64 x:=hk.at_ 35 _ 50 _ rfl (by decide) _ rfl rfl rfl;refine op_call2 Tryz.func125 (by kernel_rfl) (by kernel_rfl) _ _ rfl e_49 e_50 (has_any Aj k2 cj x X (HK2.out.aft (HX0.out.trans hX))) ?_;rintro e w' ⟨rfl,rfl⟩;exact ⟨_,rfl,hK _ hX⟩
  | 37,ho,hv =>
   cases ho;cases hv;refine .inl ⟨rfl,fun a X hk hX K hK=>?_⟩;have e_35:a.eval (.tmp 35) = .bool false:=hk.at_ 20 _ 35 _ rfl (by decide) _ rfl rfl rfl;have e_51:a.eval (.tmp 51) = .bool (hasB k2 x):=hk.at_ 36 _ 51 _ rfl (by decide) _ rfl rfl rfl;exact op_val (by simp [go_sem,ev' e_35,ev' e_51]) (hK _ hX)
  | 38,ho,hv =>
   cases ho;cases hv;refine .inl ⟨rfl,fun a X hk hX K hK=>?_⟩;have e_31:a.eval (.tmp 31) = .bool true:=hk.at_ 16 _ 31 _ rfl (by decide) _ rfl rfl rfl;have e_52:a.eval (.tmp 52) = .bool (hasB k2 x):=hk.at_ 37 _ 52 _ rfl (by decide) _ rfl rfl rfl;exact op_val (by simp [go_sem,ev' e_31,ev' e_52]) (hK _ hX)
  | 39,ho,hv =>
   cases ho;cases hv;refine .inl ⟨rfl,fun a X hk hX K hK=>?_⟩;have e_53:a.eval (.tmp 53) = .bool (hasB k2 x):=hk.at_ 38 _ 53 _ rfl (by decide) _ rfl rfl rfl;exact op_val (by simp [go_sem,ev' e_53]) (hK _ hX)
  | _ + 40,ho,_=>cases ho
 case fin =>
  intro X hX;simp only [List.zip_cons_cons,List.zip_nil_right,putAll,Act.put,List.setIfInBounds_toArray,List.set_cons_succ,List.set_cons_zero];(repeat (first | go_big_skip | go_big_want | go_big_move | go_big_op | go_step | go_upon | go_back));go_ret;exact ⟨rfl,HX0.out.trans hX⟩
end Go.Proofs
end
