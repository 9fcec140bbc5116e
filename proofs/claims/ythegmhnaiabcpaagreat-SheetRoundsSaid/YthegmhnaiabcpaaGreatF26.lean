/- Own texts, merged: Vc. -/
import Derived.Test.YthegmhnaiabcpaaGreatF25
import Derived.BigGuard
set_option linter.unusedSimpArgs false
set_option linter.unusedVariables false
set_option linter.unnecessarySimpa false
section
/- Walks: what the law asks of itself before it holds anything. -/
namespace Go.Proofs
open Go.RowKit
attribute [local go_sem] Oper.semAt_some
theorem blk_2 (w:World) (o1:Obj) (t:TypeId) (cs:Array Value):Blk ((w.alloc o1).alloc (.cells cs t)) (w.heap.size + 1) t cs:=by
 have:=Blk.new (w.alloc o1) t cs
 rwa [World.size_alloc] at this
theorem blk_3 (w:World) (o1 o2:Obj) (t:TypeId) (cs:Array Value):Blk (((w.alloc o1).alloc o2).alloc (.cells cs t)) (w.heap.size + 1 + 1) t cs:=by
 have:=Blk.new ((w.alloc o1).alloc o2) t cs
 rwa [World.size_alloc,World.size_alloc] at this
theorem blk_4 (w:World) (o1 o2 o3:Obj) (t:TypeId) (cs:Array Value):Blk ((((w.alloc o1).alloc o2).alloc o3).alloc (.cells cs t)) (w.heap.size + 1 + 1 + 1) t cs:=by
 have:=Blk.new (((w.alloc o1).alloc o2).alloc o3) t cs
 rwa [World.size_alloc,World.size_alloc,World.size_alloc] at this
set_option maxRecDepth 100000 in
set_option maxHeartbeats 4000000 in
theorem awake_any (w:World):Calls Tryz.prog 5 #[] w fun e w'=>e = .returned (.bool true) /\ Aft w w':=by
 go_enter Tryz.func5,Tryz.ntmps5;(repeat (first | go_big_skip | go_big_want | go_big_move | go_big_op | go_step | go_upon | go_back));go_at_call 18;refine (three_any _).mono ?_;rintro e x1 ⟨b,rfl,hq,ha⟩;dsimp only;have HA:=Lib.hid (ha);have HQ:=Lib.hid hq;clear hq ha;(repeat (first | go_big_skip | go_big_want | go_big_move | go_big_op | go_step | go_upon | go_back));go_at_call 25;refine (aw12a HQ.out).mono ?_;rintro e x2 ⟨rfl,ha⟩;dsimp only;have HA:=Lib.hid (HA.out.trans (ha));clear ha HQ;go_upto_region 2 with fail
 obtain ⟨p1,hp1⟩:∃ p1,x2.heap.size = p1:=⟨_,rfl⟩;have hp1ge:w.heap.size <= p1:=by rw [<- hp1];exact HA.out.size
 have HBp1:Hid (Blk (x2.alloc (.cells #[.int .i64 2,.int .i64 1] 29)) (p1) 29 #[.int .i64 2,.int .i64 1]):=Lib.hid (by
  have q:=Blk.new x2 29 #[.int .i64 2,.int .i64 1]
  try simp only [World.size_alloc] at q
  rw [hp1] at q;exact q)
 have HA:=Lib.hid (HA.out.trans (Aft.alloc x2 (.cells #[.int .i64 2,.int .i64 1] 29)));rw [hp1];generalize x2.alloc (.cells #[.int .i64 2,.int .i64 1] 29) = y3 at *;clear hp1;(repeat (first | go_big_skip | go_big_want | go_big_move | go_big_op | go_step | go_upon | go_back));go_at_call 18;refine (three_any _).mono ?_;rintro e x4 ⟨b,rfl,hq,ha⟩;dsimp only;have HBp1:=Lib.hid (HBp1.out.aft (ha));have HA:=Lib.hid (HA.out.trans (ha));have HQ:=Lib.hid hq;clear hq ha;(repeat (first | go_big_skip | go_big_want | go_big_move | go_big_op | go_step | go_upon | go_back));go_at_call 9;refine (aw51 (HQ.out.aft (Aft.alloc _ _)) (Blk.new _ _ _)).mono ?_;rintro e x5 ⟨rfl,ha⟩;dsimp only;have HBp1:=Lib.hid (HBp1.out.aft ((Aft.alloc _ _).trans ha));have HA:=Lib.hid (HA.out.trans ((Aft.alloc _ _).trans ha));clear ha HQ;go_upto_region 3 with fail
 obtain ⟨p3,hp3⟩:∃ p3,x5.heap.size = p3:=⟨_,rfl⟩;have hp3ge:w.heap.size <= p3:=by rw [<- hp3];exact HA.out.size
 have hp13:p1 < p3:=by rw [<- hp3];exact HBp1.out.lt
 have HBp3:Hid (Blk (x5.alloc (.cells #[.int .i64 2,.int .i64 1] 29)) (p3) 29 #[.int .i64 2,.int .i64 1]):=Lib.hid (by
  have q:=Blk.new x5 29 #[.int .i64 2,.int .i64 1]
  try simp only [World.size_alloc] at q
  rw [hp3] at q;exact q)
 have HBp1:=Lib.hid (HBp1.out.aft (Aft.alloc x5 (.cells #[.int .i64 2,.int .i64 1] 29)));have HA:=Lib.hid (HA.out.trans (Aft.alloc x5 (.cells #[.int .i64 2,.int .i64 1] 29)));rw [hp3];generalize x5.alloc (.cells #[.int .i64 2,.int .i64 1] 29) = y6 at *;clear hp3;(repeat (first | go_big_skip | go_big_want | go_big_move | go_big_op | go_step | go_upon | go_back));go_at_call 18;refine (three_any _).mono ?_;rintro e x7 ⟨b,rfl,hq,ha⟩;dsimp only;have HBp1:=Lib.hid (HBp1.out.aft (ha));have HBp3:=Lib.hid (HBp3.out.aft (ha));have HA:=Lib.hid (HA.out.trans (ha));have HQ:=Lib.hid hq;clear hq ha;(repeat (first | go_big_skip | go_big_want | go_big_move | go_big_op | go_step | go_upon | go_back));go_at_call 19;refine (shifted_any _ [0,12,34] _ _ (ints_of_blk (Blk.new _ _ _) rfl (by decide)) (by decide)).mono ?_;rintro e x8 ⟨v,rfl,ho,ha⟩;dsimp only;have HBp1:=Lib.hid (HBp1.out.aft ((Aft.alloc _ _).trans ha));have HBp3:=Lib.hid (HBp3.out.aft ((Aft.alloc _ _).trans ha));have HQ:=Lib.hid (HQ.out.aft ((Aft.alloc _ _).trans ha));have HA:=Lib.hid (HA.out.trans ((Aft.alloc _ _).trans ha));obtain ⟨A,c,rfl,-,hs,-⟩:=own_flat (enc:=enc4) (fun _=>rfl) ho (by decide);have HS:=Lib.hid hs;rw [show ([0,12,34].map shI).length = 3 from rfl];clear ha ho hs;(repeat (first | go_big_skip | go_big_want | go_big_move | go_big_op | go_step | go_upon | go_back));go_at_call 26;refine (aw37a HQ.out HS.out).mono ?_;rintro e x9 ⟨rfl,ha⟩;dsimp only;have HBp1:=Lib.hid (HBp1.out.aft (ha));have HBp3:=Lib.hid (HBp3.out.aft (ha));have HA:=Lib.hid (HA.out.trans (ha));clear ha HQ HS;go_upto_region 4 with fail
 obtain ⟨p5,hp5⟩:∃ p5,x9.heap.size = p5:=⟨_,rfl⟩;have HBp5:Hid (Blk (x9.alloc (.cells #[.int .i64 2,.int .i64 1] 29)) (p5) 29 #[.int .i64 2,.int .i64 1]):=Lib.hid (by
  have q:=Blk.new x9 29 #[.int .i64 2,.int .i64 1]
  try simp only [World.size_alloc] at q
  rw [hp5] at q;exact q)
 have HBp1:=Lib.hid (HBp1.out.aft (Aft.alloc x9 (.cells #[.int .i64 2,.int .i64 1] 29)));have HBp3:=Lib.hid (HBp3.out.aft (Aft.alloc x9 (.cells #[.int .i64 2,.int .i64 1] 29)));have HA:=Lib.hid (HA.out.trans (Aft.alloc x9 (.cells #[.int .i64 2,.int .i64 1] 29)));rw [hp5];generalize x9.alloc (.cells #[.int .i64 2,.int .i64 1] 29) = y10 at *;clear hp5;(repeat (first | go_big_skip | go_big_want | go_big_move | go_big_op | go_step | go_upon | go_back));go_at_call 18;refine (three_any _).mono ?_;rintro e x11 ⟨b,rfl,hq,ha⟩;dsimp only;have HBp1:=Lib.hid (HBp1.out.aft (ha));have HBp3:=Lib.hid (HBp3.out.aft (ha));have HBp5:=Lib.hid (HBp5.out.aft (ha));have HA:=Lib.hid (HA.out.trans (ha));have HQ:=Lib.hid hq;clear hq ha;(repeat (first | go_big_skip | go_big_want | go_big_move | go_big_op | go_step | go_upon | go_back));go_at_call 20;refine (ratioL_any 3 1 _).mono ?_;rintro e x12 ⟨rfl,ha⟩;dsimp only;have HBp1:=Lib.hid (HBp1.out.aft (ha));have HBp3:=Lib.hid (HBp3.out.aft (ha));have HBp5:=Lib.hid (HBp5.out.aft (ha));have HQ:=Lib.hid (HQ.out.aft (ha));have HA:=Lib.hid (HA.out.trans (ha));clear ha;(repeat (first | go_big_skip | go_big_want | go_big_move | go_big_op | go_step | go_upon | go_back));go_at_call 12;refine (aw14a HQ.out).mono ?_;rintro e x13 ⟨rfl,ha⟩;dsimp only;have HBp1:=Lib.hid (HBp1.out.aft (ha));have HBp3:=Lib.hid (HBp3.out.aft (ha));have HBp5:=Lib.hid (HBp5.out.aft (ha));have HA:=Lib.hid (HA.out.trans (ha));clear ha HQ;go_upto_region 5 with fail
 obtain ⟨p7,hp7⟩:∃ p7,x13.heap.size = p7:=⟨_,rfl⟩;have HBp7:Hid (Blk ((x13.alloc (.cells #[.int .i64 10,.int .i64 1,.int .i64 13,.int .i64 1] 46)).alloc (.cells #[.int .i64 (-3),.int .i64 1,.int .i64 3,.int .i64 1] 46)) (p7) 46 #[.int .i64 10,.int .i64 1,.int .i64 13,.int .i64 1]):=Lib.hid (by
  have q:=(Blk.new x13 46 #[.int .i64 10,.int .i64 1,.int .i64 13,.int .i64 1]).alloc (.cells #[.int .i64 (-3),.int .i64 1,.int .i64 3,.int .i64 1] 46)
  try simp only [World.size_alloc] at q
  rw [hp7] at q;exact q)
 have HBp8:Hid (Blk ((x13.alloc (.cells #[.int .i64 10,.int .i64 1,.int .i64 13,.int .i64 1] 46)).alloc (.cells #[.int .i64 (-3),.int .i64 1,.int .i64 3,.int .i64 1] 46)) (p7 + 1) 46 #[.int .i64 (-3),.int .i64 1,.int .i64 3,.int .i64 1]):=Lib.hid (by
  have q:=Blk.new (x13.alloc (.cells #[.int .i64 10,.int .i64 1,.int .i64 13,.int .i64 1] 46)) 46 #[.int .i64 (-3),.int .i64 1,.int .i64 3,.int .i64 1]
  try simp only [World.size_alloc] at q
  rw [hp7] at q;exact q)
 have HBp1:=Lib.hid (HBp1.out.aft ((Aft.alloc x13 (.cells #[.int .i64 10,.int .i64 1,.int .i64 13,.int .i64 1] 46)).then_alloc (.cells #[.int .i64 (-3),.int .i64 1,.int .i64 3,.int .i64 1] 46)));have HBp3:=Lib.hid (HBp3.out.aft ((Aft.alloc x13 (.cells #[.int .i64 10,.int .i64 1,.int .i64 13,.int .i64 1] 46)).then_alloc (.cells #[.int .i64 (-3),.int .i64 1,.int .i64 3,.int .i64 1] 46)));have HBp5:=Lib.hid (HBp5.out.aft ((Aft.alloc x13 (.cells #[.int .i64 10,.int .i64 1,.int .i64 13,.int .i64 1] 46)).then_alloc (.cells #[.int .i64 (-3),.int .i64 1,.int .i64 3,.int .i64 1] 46)));have HA:=Lib.hid (HA.out.trans ((Aft.alloc x13 (.cells #[.int .i64 10,.int .i64 1,.int .i64 13,.int .i64 1] 46)).then_alloc (.cells #[.int .i64 (-3),.int .i64 1,.int .i64 3,.int .i64 1] 46)));rw [hp7];generalize (x13.alloc (.cells #[.int .i64 10,.int .i64 1,.int .i64 13,.int .i64 1] 46)).alloc (.cells #[.int .i64 (-3),.int .i64 1,.int .i64 3,.int .i64 1] 46) = y14 at *;clear hp7;(repeat (first | go_big_skip | go_big_want | go_big_move | go_big_op | go_step | go_upon | go_back));go_at_call 18;refine (three_any _).mono ?_;rintro e x15 ⟨b,rfl,hq,ha⟩;dsimp only;have HBp1:=Lib.hid (HBp1.out.aft (ha));have HBp3:=Lib.hid (HBp3.out.aft (ha));have HBp5:=Lib.hid (HBp5.out.aft (ha));have HBp7:=Lib.hid (HBp7.out.aft (ha));have HBp8:=Lib.hid (HBp8.out.aft (ha));have HA:=Lib.hid (HA.out.trans (ha));have HQ:=Lib.hid hq;clear hq ha;(repeat (first | go_big_skip | go_big_want | go_big_move | go_big_op | go_step | go_upon | go_back));go_at_call 20;refine (ratioL_any 2 1 _).mono ?_;rintro e x16 ⟨rfl,ha⟩;dsimp only;have HBp1:=Lib.hid (HBp1.out.aft (ha));have HBp3:=Lib.hid (HBp3.out.aft (ha));have HBp5:=Lib.hid (HBp5.out.aft (ha));have HBp7:=Lib.hid (HBp7.out.aft (ha));have HBp8:=Lib.hid (HBp8.out.aft (ha));have HQ:=Lib.hid (HQ.out.aft (ha));have HA:=Lib.hid (HA.out.trans (ha));clear ha
 (repeat (first | go_big_skip | go_big_want | go_big_move | go_big_op | go_step | go_upon | go_back));go_at_call 12;refine (aw14b HQ.out).mono ?_;rintro e x17 ⟨⟨q1,q2,q3,q4,rfl⟩,ha⟩;dsimp only;have HBp1:=Lib.hid (HBp1.out.aft (ha));have HBp3:=Lib.hid (HBp3.out.aft (ha));have HBp5:=Lib.hid (HBp5.out.aft (ha));have HBp7:=Lib.hid (HBp7.out.aft (ha));have HBp8:=Lib.hid (HBp8.out.aft (ha));have HA:=Lib.hid (HA.out.trans (ha));clear ha HQ;go_upto_region 6 with fail
 obtain ⟨p10,hp10⟩:∃ p10,x17.heap.size = p10:=⟨_,rfl⟩;have HBp10:Hid (Blk ((x17.alloc (.cells #[.int .i64 12,.int .i64 1,.int .i64 12,.int .i64 1] 46)).alloc (.cells #[.int .i64 q1,.int .i64 q2,.int .i64 q3,.int .i64 q4] 46)) (p10) 46 #[.int .i64 12,.int .i64 1,.int .i64 12,.int .i64 1]):=Lib.hid (by
  have q:=(Blk.new x17 46 #[.int .i64 12,.int .i64 1,.int .i64 12,.int .i64 1]).alloc (.cells #[.int .i64 q1,.int .i64 q2,.int .i64 q3,.int .i64 q4] 46)
  try simp only [World.size_alloc] at q
  rw [hp10] at q;exact q)
 have HBp11:Hid (Blk ((x17.alloc (.cells #[.int .i64 12,.int .i64 1,.int .i64 12,.int .i64 1] 46)).alloc (.cells #[.int .i64 q1,.int .i64 q2,.int .i64 q3,.int .i64 q4] 46)) (p10 + 1) 46 #[.int .i64 q1,.int .i64 q2,.int .i64 q3,.int .i64 q4]):=Lib.hid (by
  have q:=Blk.new (x17.alloc (.cells #[.int .i64 12,.int .i64 1,.int .i64 12,.int .i64 1] 46)) 46 #[.int .i64 q1,.int .i64 q2,.int .i64 q3,.int .i64 q4]
  try simp only [World.size_alloc] at q
  rw [hp10] at q;exact q)
 have HBp1:=Lib.hid (HBp1.out.aft ((Aft.alloc x17 (.cells #[.int .i64 12,.int .i64 1,.int .i64 12,.int .i64 1] 46)).then_alloc (.cells #[.int .i64 q1,.int .i64 q2,.int .i64 q3,.int .i64 q4] 46)));have HBp3:=Lib.hid (HBp3.out.aft ((Aft.alloc x17 (.cells #[.int .i64 12,.int .i64 1,.int .i64 12,.int .i64 1] 46)).then_alloc (.cells #[.int .i64 q1,.int .i64 q2,.int .i64 q3,.int .i64 q4] 46)));have HBp5:=Lib.hid (HBp5.out.aft ((Aft.alloc x17 (.cells #[.int .i64 12,.int .i64 1,.int .i64 12,.int .i64 1] 46)).then_alloc (.cells #[.int .i64 q1,.int .i64 q2,.int .i64 q3,.int .i64 q4] 46)));have HBp7:=Lib.hid (HBp7.out.aft ((Aft.alloc x17 (.cells #[.int .i64 12,.int .i64 1,.int .i64 12,.int .i64 1] 46)).then_alloc (.cells #[.int .i64 q1,.int .i64 q2,.int .i64 q3,.int .i64 q4] 46)));have HBp8:=Lib.hid (HBp8.out.aft ((Aft.alloc x17 (.cells #[.int .i64 12,.int .i64 1,.int .i64 12,.int .i64 1] 46)).then_alloc (.cells #[.int .i64 q1,.int .i64 q2,.int .i64 q3,.int .i64 q4] 46)));have HA:=Lib.hid (HA.out.trans ((Aft.alloc x17 (.cells #[.int .i64 12,.int .i64 1,.int .i64 12,.int .i64 1] 46)).then_alloc (.cells #[.int .i64 q1,.int .i64 q2,.int .i64 q3,.int .i64 q4] 46)));rw [hp10];generalize (x17.alloc (.cells #[.int .i64 12,.int .i64 1,.int .i64 12,.int .i64 1] 46)).alloc (.cells #[.int .i64 q1,.int .i64 q2,.int .i64 q3,.int .i64 q4] 46) = y18 at *;clear hp10
 refine wp_region_valsT (by kernel_rfl) 53 189 rfl (by kernel_rfl) (by kernel_rfl) (by kernel_rfl) [.int .i64 0,.bool false,.bool false,.int .i64 0,.bool false,.bool false,.bool false,.int .i64 0,.bool false,.bool false,.bool false,.int .i64 0,.bool false,.bool false,.bool false,.int .i64 0,.bool false,.bool false,.bool false,.agg #[.int .i64 2,.int .i64 1],.agg #[.int .i64 2,.int .i64 1],.bool false,.bool false,.bool false,.agg #[.int .i64 2,.int .i64 1],.agg #[.int .i64 2,.int .i64 1],.bool false,.bool false,.bool false,.agg #[.int .i64 2,.int .i64 1],.agg #[.int .i64 2,.int .i64 1],.bool false,.bool false,.bool false,.agg #[.int .i64 10,.int .i64 1,.int .i64 13,.int .i64 1],.agg #[.int .i64 10,.int .i64 1],.agg #[.int .i64 13,.int .i64 1],.agg #[.int .i64 10,.int .i64 1,.int .i64 13,.int .i64 1],.bool false,.bool false,.bool false,.agg #[.int .i64 (-3),.int .i64 1,.int .i64 3,.int .i64 1],.agg #[.int .i64 (-3),.int .i64 1],.agg #[.int .i64 3,.int .i64 1],.agg #[.int .i64 (-3),.int .i64 1,.int .i64 3,.int .i64 1],.bool false,.bool false,.bool false,.agg #[.int .i64 12,.int .i64 1,.int .i64 12,.int .i64 1],.agg #[.int .i64 12,.int .i64 1],.agg #[.int .i64 12,.int .i64 1],.agg #[.int .i64 12,.int .i64 1,.int .i64 12,.int .i64 1],.bool false] rfl (fun _ W=>Aft y18 W) (Aft.drew _) ?st1 ?fi1
 case st1 =>
  intro i o v ho hv
  match i,ho,hv with
  | 0,ho,hv =>
   cases ho;cases hv;refine .inl ⟨rfl,fun done a W hd hp hk hw K hK=>?_⟩;have e2:=hk.same 2 (by decide);exact op_val (by simp [go_sem,ev' e2]) (hK _ hw)
  | 1,ho,hv =>
   cases ho;cases hv;refine .inl ⟨rfl,fun done a W hd hp hk hw K hK=>?_⟩;have e54:=hk.at_ 0 _ 54 _ rfl (by decide) _ rfl rfl rfl;exact op_val (by simp [go_sem,ev' e54]) (hK _ hw)
  | 2,ho,hv =>
   cases ho;cases hv;refine .inl ⟨rfl,fun done a W hd hp hk hw K hK=>?_⟩;have e55:=hk.at_ 1 _ 55 _ rfl (by decide) _ rfl rfl rfl;exact op_val (by simp [go_sem,ev' e55]) (hK _ hw)
  | 3,ho,hv =>
   cases ho;cases hv;refine .inl ⟨rfl,fun done a W hd hp hk hw K hK=>?_⟩;have e4:=hk.same 4 (by decide);exact op_val (by simp [go_sem,ev' e4]) (hK _ hw)
  | 4,ho,hv =>
   cases ho;cases hv;refine .inl ⟨rfl,fun done a W hd hp hk hw K hK=>?_⟩;have e57:=hk.at_ 3 _ 57 _ rfl (by decide) _ rfl rfl rfl;exact op_val (by simp [go_sem,ev' e57]) (hK _ hw)
  | 5,ho,hv =>
   cases ho;cases hv;refine .inl ⟨rfl,fun done a W hd hp hk hw K hK=>?_⟩;have e56:=hk.at_ 2 _ 56 _ rfl (by decide) _ rfl rfl rfl;have e58:=hk.at_ 4 _ 58 _ rfl (by decide) _ rfl rfl rfl;exact op_val (by simp [go_sem,ev' e56,ev' e58]) (hK _ hw)
  | 6,ho,hv =>
   cases ho;cases hv;refine .inl ⟨rfl,fun done a W hd hp hk hw K hK=>?_⟩;have e59:=hk.at_ 5 _ 59 _ rfl (by decide) _ rfl rfl rfl;exact op_val (by simp [go_sem,ev' e59]) (hK _ hw)
  | 7,ho,hv =>
   cases ho;cases hv;refine .inl ⟨rfl,fun done a W hd hp hk hw K hK=>?_⟩;have e6:=hk.same 6 (by decide);exact op_val (by simp [go_sem,ev' e6]) (hK _ hw)
  | 8,ho,hv =>
   cases ho;cases hv;refine .inl ⟨rfl,fun done a W hd hp hk hw K hK=>?_⟩;have e61:=hk.at_ 7 _ 61 _ rfl (by decide) _ rfl rfl rfl;exact op_val (by simp [go_sem,ev' e61]) (hK _ hw)
  | 9,ho,hv =>
   cases ho;cases hv;refine .inl ⟨rfl,fun done a W hd hp hk hw K hK=>?_⟩;have e60:=hk.at_ 6 _ 60 _ rfl (by decide) _ rfl rfl rfl;have e62:=hk.at_ 8 _ 62 _ rfl (by decide) _ rfl rfl rfl;exact op_val (by simp [go_sem,ev' e60,ev' e62]) (hK _ hw)
  | 10,ho,hv =>
   cases ho;cases hv;refine .inl ⟨rfl,fun done a W hd hp hk hw K hK=>?_⟩;have e63:=hk.at_ 9 _ 63 _ rfl (by decide) _ rfl rfl rfl;exact op_val (by simp [go_sem,ev' e63]) (hK _ hw)
  | 11,ho,hv =>
   cases ho;cases hv;refine .inl ⟨rfl,fun done a W hd hp hk hw K hK=>?_⟩;have e9:=hk.same 9 (by decide);exact op_val (by simp [go_sem,ev' e9]) (hK _ hw)
  | 12,ho,hv =>
   cases ho;cases hv;refine .inl ⟨rfl,fun done a W hd hp hk hw K hK=>?_⟩;have e65:=hk.at_ 11 _ 65 _ rfl (by decide) _ rfl rfl rfl;exact op_val (by simp [go_sem,ev' e65]) (hK _ hw)
  | 13,ho,hv =>
   cases ho;cases hv;refine .inl ⟨rfl,fun done a W hd hp hk hw K hK=>?_⟩;have e64:=hk.at_ 10 _ 64 _ rfl (by decide) _ rfl rfl rfl;have e66:=hk.at_ 12 _ 66 _ rfl (by decide) _ rfl rfl rfl;exact op_val (by simp [go_sem,ev' e64,ev' e66]) (hK _ hw)
  | 14,ho,hv =>
   cases ho;cases hv;refine .inl ⟨rfl,fun done a W hd hp hk hw K hK=>?_⟩;have e67:=hk.at_ 13 _ 67 _ rfl (by decide) _ rfl rfl rfl;exact op_val (by simp [go_sem,ev' e67]) (hK _ hw)
  | 15,ho,hv =>
   cases ho;cases hv;refine .inl ⟨rfl,fun done a W hd hp hk hw K hK=>?_⟩;have e12:=hk.same 12 (by decide);exact op_val (by simp [go_sem,ev' e12]) (hK _ hw)
  | 16,ho,hv =>
   cases ho;cases hv;refine .inl ⟨rfl,fun done a W hd hp hk hw K hK=>?_⟩;have e69:=hk.at_ 15 _ 69 _ rfl (by decide) _ rfl rfl rfl;exact op_val (by simp [go_sem,ev' e69]) (hK _ hw)
  | 17,ho,hv =>
   cases ho;cases hv;refine .inl ⟨rfl,fun done a W hd hp hk hw K hK=>?_⟩;have e68:=hk.at_ 14 _ 68 _ rfl (by decide) _ rfl rfl rfl;have e70:=hk.at_ 16 _ 70 _ rfl (by decide) _ rfl rfl rfl;exact op_val (by simp [go_sem,ev' e68,ev' e70]) (hK _ hw)
  | 18,ho,hv =>
   cases ho;cases hv;refine .inl ⟨rfl,fun done a W hd hp hk hw K hK=>?_⟩;have e71:=hk.at_ 17 _ 71 _ rfl (by decide) _ rfl rfl rfl;exact op_val (by simp [go_sem,ev' e71]) (hK _ hw)
  | 19,ho,hv =>
   cases ho;cases hv;refine .inl ⟨rfl,fun done a W hd hp hk hw K hK=>?_⟩;have e1:=hk.same 1 (by decide);exact op_val (by simp [go_sem,ev' e1,(HBp1.out.aft hw).cell 0,(HBp1.out.aft hw).cell 1]) (hK _ hw)
  | 20,ho,hv =>
   cases ho;cases hv;refine .inl ⟨rfl,fun done a W hd hp hk hw K hK=>?_⟩;refine op_callN rfl rfl rfl _ rfl (vs:=#[.int .i64 2,.int .i64 1]) (by simp [Act.eval]) (ratioL_any 2 1 W) ?_;rintro e w7 ⟨rfl,hw7⟩;exact ⟨_,rfl,hK _ (hw.trans hw7)⟩
  | 21,ho,hv =>
   cases ho;cases hv;refine .inl ⟨rfl,fun done a W hd hp hk hw K hK=>?_⟩;have e73:=hk.at_ 19 _ 73 _ rfl (by decide) _ rfl rfl rfl;have e74:=hk.at_ 20 _ 74 _ rfl (by decide) _ rfl rfl rfl;exact op_val (by simp [go_sem,ev' e73,ev' e74]) (hK _ hw)
  | 22,ho,hv =>
   cases ho;cases hv;refine .inl ⟨rfl,fun done a W hd hp hk hw K hK=>?_⟩;have e72:=hk.at_ 18 _ 72 _ rfl (by decide) _ rfl rfl rfl;have e75:=hk.at_ 21 _ 75 _ rfl (by decide) _ rfl rfl rfl;exact op_val (by simp [go_sem,ev' e72,ev' e75]) (hK _ hw)
  | 23,ho,hv =>
   cases ho;cases hv;refine .inl ⟨rfl,fun done a W hd hp hk hw K hK=>?_⟩;have e76:=hk.at_ 22 _ 76 _ rfl (by decide) _ rfl rfl rfl;exact op_val (by simp [go_sem,ev' e76]) (hK _ hw)
  | 24,ho,hv =>
   cases ho;cases hv;refine .inl ⟨rfl,fun done a W hd hp hk hw K hK=>?_⟩;have e3:=hk.same 3 (by decide);exact op_val (by simp [go_sem,ev' e3,(HBp3.out.aft hw).cell 0,(HBp3.out.aft hw).cell 1]) (hK _ hw)
  | 25,ho,hv =>
   cases ho;cases hv;refine .inl ⟨rfl,fun done a W hd hp hk hw K hK=>?_⟩;have e1:=hk.same 1 (by decide);exact op_val (by simp [go_sem,ev' e1,(HBp1.out.aft hw).cell 0,(HBp1.out.aft hw).cell 1]) (hK _ hw)
  | 26,ho,hv =>
   cases ho;cases hv;refine .inl ⟨rfl,fun done a W hd hp hk hw K hK=>?_⟩;have e78:=hk.at_ 24 _ 78 _ rfl (by decide) _ rfl rfl rfl;have e79:=hk.at_ 25 _ 79 _ rfl (by decide) _ rfl rfl rfl;exact op_val (by simp [go_sem,ev' e78,ev' e79]) (hK _ hw)
  | 27,ho,hv =>
   cases ho;cases hv;refine .inl ⟨rfl,fun done a W hd hp hk hw K hK=>?_⟩;have e77:=hk.at_ 23 _ 77 _ rfl (by decide) _ rfl rfl rfl;have e80:=hk.at_ 26 _ 80 _ rfl (by decide) _ rfl rfl rfl;exact op_val (by simp [go_sem,ev' e77,ev' e80]) (hK _ hw)
  | 28,ho,hv =>
   cases ho;cases hv;refine .inl ⟨rfl,fun done a W hd hp hk hw K hK=>?_⟩;have e81:=hk.at_ 27 _ 81 _ rfl (by decide) _ rfl rfl rfl;exact op_val (by simp [go_sem,ev' e81]) (hK _ hw)
  | 29,ho,hv =>
   cases ho;cases hv;refine .inl ⟨rfl,fun done a W hd hp hk hw K hK=>?_⟩;have e5:=hk.same 5 (by decide);exact op_val (by simp [go_sem,ev' e5,(HBp5.out.aft hw).cell 0,(HBp5.out.aft hw).cell 1]) (hK _ hw)
  | 30,ho,hv =>
   cases ho;cases hv;refine .inl ⟨rfl,fun done a W hd hp hk hw K hK=>?_⟩;have e1:=hk.same 1 (by decide);exact op_val (by simp [go_sem,ev' e1,(HBp1.out.aft hw).cell 0,(HBp1.out.aft hw).cell 1]) (hK _ hw)
  | 31,ho,hv =>
   cases ho;cases hv;refine .inl ⟨rfl,fun done a W hd hp hk hw K hK=>?_⟩;have e83:=hk.at_ 29 _ 83 _ rfl (by decide) _ rfl rfl rfl;have e84:=hk.at_ 30 _ 84 _ rfl (by decide) _ rfl rfl rfl;exact op_val (by simp [go_sem,ev' e83,ev' e84]) (hK _ hw)
  | 32,ho,hv =>
   cases ho;cases hv;refine .inl ⟨rfl,fun done a W hd hp hk hw K hK=>?_⟩;have e82:=hk.at_ 28 _ 82 _ rfl (by decide) _ rfl rfl rfl;have e85:=hk.at_ 31 _ 85 _ rfl (by decide) _ rfl rfl rfl;exact op_val (by simp [go_sem,ev' e82,ev' e85]) (hK _ hw)
  | 33,ho,hv =>
   cases ho;cases hv;refine .inl ⟨rfl,fun done a W hd hp hk hw K hK=>?_⟩;have e86:=hk.at_ 32 _ 86 _ rfl (by decide) _ rfl rfl rfl;exact op_val (by simp [go_sem,ev' e86]) (hK _ hw)
  | 34,ho,hv =>
   cases ho;cases hv;refine .inl ⟨rfl,fun done a W hd hp hk hw K hK=>?_⟩;have e7:=hk.same 7 (by decide);exact op_val (by simp [go_sem,ev' e7,(HBp7.out.aft hw).cell 0,(HBp7.out.aft hw).cell 1,(HBp7.out.aft hw).cell 2,(HBp7.out.aft hw).cell 3]) (hK _ hw)
  | 35,ho,hv =>
   cases ho;cases hv;refine .inl ⟨rfl,fun done a W hd hp hk hw K hK=>?_⟩;refine op_callN rfl rfl rfl _ rfl (vs:=#[.int .i64 10,.int .i64 1]) (by simp [Act.eval]) (ratioL_any 10 1 W) ?_;rintro e w7 ⟨rfl,hw7⟩;exact ⟨_,rfl,hK _ (hw.trans hw7)⟩
  | 36,ho,hv =>
   cases ho;cases hv;refine .inl ⟨rfl,fun done a W hd hp hk hw K hK=>?_⟩;refine op_callN rfl rfl rfl _ rfl (vs:=#[.int .i64 13,.int .i64 1]) (by simp [Act.eval]) (ratioL_any 13 1 W) ?_;rintro e w7 ⟨rfl,hw7⟩;exact ⟨_,rfl,hK _ (hw.trans hw7)⟩
  | 37,ho,hv =>
   cases ho;cases hv;refine .inl ⟨rfl,fun done a W hd hp hk hw K hK=>?_⟩;have e89:=hk.at_ 35 _ 89 _ rfl (by decide) _ rfl rfl rfl;have e90:=hk.at_ 36 _ 90 _ rfl (by decide) _ rfl rfl rfl;exact op_val (by simp [go_sem,ev' e89,ev' e90]) (hK _ hw)
  | 38,ho,hv =>
   cases ho;cases hv;refine .inl ⟨rfl,fun done a W hd hp hk hw K hK=>?_⟩;have e88:=hk.at_ 34 _ 88 _ rfl (by decide) _ rfl rfl rfl;have e91:=hk.at_ 37 _ 91 _ rfl (by decide) _ rfl rfl rfl;exact op_val (by simp [go_sem,ev' e88,ev' e91]) (hK _ hw)
  | 39,ho,hv =>
   cases ho;cases hv;refine .inl ⟨rfl,fun done a W hd hp hk hw K hK=>?_⟩;have e87:=hk.at_ 33 _ 87 _ rfl (by decide) _ rfl rfl rfl;have e92:=hk.at_ 38 _ 92 _ rfl (by decide) _ rfl rfl rfl;exact op_val (by simp [go_sem,ev' e87,ev' e92]) (hK _ hw)
  | 40,ho,hv =>
   cases ho;cases hv;refine .inl ⟨rfl,fun done a W hd hp hk hw K hK=>?_⟩;have e93:=hk.at_ 39 _ 93 _ rfl (by decide) _ rfl rfl rfl;exact op_val (by simp [go_sem,ev' e93]) (hK _ hw)
  | 41,ho,hv =>
   cases ho;cases hv;refine .inl ⟨rfl,fun done a W hd hp hk hw K hK=>?_⟩;have e8:=hk.same 8 (by decide);exact op_val (by simp [go_sem,ev' e8,(HBp8.out.aft hw).cell 0,(HBp8.out.aft hw).cell 1,(HBp8.out.aft hw).cell 2,(HBp8.out.aft hw).cell 3]) (hK _ hw)
  | 42,ho,hv =>
   cases ho;cases hv;refine .inl ⟨rfl,fun done a W hd hp hk hw K hK=>?_⟩;refine op_callN rfl rfl rfl _ rfl (vs:=#[.int .i64 (-3),.int .i64 1]) (by simp [Act.eval]) (ratioL_any (-3) 1 W) ?_;rintro e w7 ⟨rfl,hw7⟩;exact ⟨_,rfl,hK _ (hw.trans hw7)⟩
  | 43,ho,hv =>
   cases ho;cases hv;refine .inl ⟨rfl,fun done a W hd hp hk hw K hK=>?_⟩;refine op_callN rfl rfl rfl _ rfl (vs:=#[.int .i64 3,.int .i64 1]) (by simp [Act.eval]) (ratioL_any 3 1 W) ?_;rintro e w7 ⟨rfl,hw7⟩;exact ⟨_,rfl,hK _ (hw.trans hw7)⟩
  | 44,ho,hv =>
   cases ho;cases hv;refine .inl ⟨rfl,fun done a W hd hp hk hw K hK=>?_⟩;have e96:=hk.at_ 42 _ 96 _ rfl (by decide) _ rfl rfl rfl;have e97:=hk.at_ 43 _ 97 _ rfl (by decide) _ rfl rfl rfl;exact op_val (by simp [go_sem,ev' e96,ev' e97]) (hK _ hw)
  | 45,ho,hv =>
   cases ho;cases hv;refine .inl ⟨rfl,fun done a W hd hp hk hw K hK=>?_⟩;have e95:=hk.at_ 41 _ 95 _ rfl (by decide) _ rfl rfl rfl;have e98:=hk.at_ 44 _ 98 _ rfl (by decide) _ rfl rfl rfl;exact op_val (by simp [go_sem,ev' e95,ev' e98]) (hK _ hw)
  | 46,ho,hv =>
   cases ho;cases hv;refine .inl ⟨rfl,fun done a W hd hp hk hw K hK=>?_⟩;have e94:=hk.at_ 40 _ 94 _ rfl (by decide) _ rfl rfl rfl;have e99:=hk.at_ 45 _ 99 _ rfl (by decide) _ rfl rfl rfl;exact op_val (by simp [go_sem,ev' e94,ev' e99]) (hK _ hw)
  | 47,ho,hv =>
   cases ho;cases hv;refine .inl ⟨rfl,fun done a W hd hp hk hw K hK=>?_⟩;have e100:=hk.at_ 46 _ 100 _ rfl (by decide) _ rfl rfl rfl;exact op_val (by simp [go_sem,ev' e100]) (hK _ hw)
  | 48,ho,hv =>
   cases ho;cases hv;refine .inl ⟨rfl,fun done a W hd hp hk hw K hK=>?_⟩;have e10:=hk.same 10 (by decide);exact op_val (by simp [go_sem,ev' e10,(HBp10.out.aft hw).cell 0,(HBp10.out.aft hw).cell 1,(HBp10.out.aft hw).cell 2,(HBp10.out.aft hw).cell 3]) (hK _ hw)
  | 49,ho,hv =>
   cases ho;cases hv;refine .inl ⟨rfl,fun done a W hd hp hk hw K hK=>?_⟩;refine op_callN rfl rfl rfl _ rfl (vs:=#[.int .i64 12,.int .i64 1]) (by simp [Act.eval]) (ratioL_any 12 1 W) ?_;rintro e w7 ⟨rfl,hw7⟩;exact ⟨_,rfl,hK _ (hw.trans hw7)⟩
  | 50,ho,hv =>
   cases ho;cases hv;refine .inl ⟨rfl,fun done a W hd hp hk hw K hK=>?_⟩;refine op_callN rfl rfl rfl _ rfl (vs:=#[.int .i64 12,.int .i64 1]) (by simp [Act.eval]) (ratioL_any 12 1 W) ?_;rintro e w7 ⟨rfl,hw7⟩;exact ⟨_,rfl,hK _ (hw.trans hw7)⟩
  | 51,ho,hv =>
   cases ho;cases hv;refine .inl ⟨rfl,fun done a W hd hp hk hw K hK=>?_⟩;have e103:=hk.at_ 49 _ 103 _ rfl (by decide) _ rfl rfl rfl;have e104:=hk.at_ 50 _ 104 _ rfl (by decide) _ rfl rfl rfl;exact op_val (by simp [go_sem,ev' e103,ev' e104]) (hK _ hw)
  | 52,ho,hv =>
   cases ho;cases hv;refine .inl ⟨rfl,fun done a W hd hp hk hw K hK=>?_⟩;have e102:=hk.at_ 48 _ 102 _ rfl (by decide) _ rfl rfl rfl;have e105:=hk.at_ 51 _ 105 _ rfl (by decide) _ rfl rfl rfl;exact op_val (by simp [go_sem,ev' e102,ev' e105]) (hK _ hw)
  | _ + 53,_,hv=>cases hv
 intro done W hd hw;simp only [List.drop_succ_cons,List.drop_zero,List.zip_cons_cons,List.zip_nil_right,putAll];simp only [Act.put,List.setIfInBounds_toArray,List.set];clear hd;have HBp1:=Lib.hid (HBp1.out.aft hw);have HBp3:=Lib.hid (HBp3.out.aft hw);have HA:=Lib.hid (HA.out.trans hw);clear hw HBp5 HBp7 HBp8 HBp10 HBp11;go_upto_region 8 with fail
 have HA:=Lib.hid (HA.out.trans (Aft.refl _));(repeat (first | go_big_skip | go_big_want | go_big_move | go_big_op | go_step | go_upon | go_back));go_at_call 27;refine (ring_any _).mono ?_;rintro e x19 ⟨b,rfl,hq,ha⟩;dsimp only;have HBp1:=Lib.hid (HBp1.out.aft (ha));have HBp3:=Lib.hid (HBp3.out.aft (ha));have HA:=Lib.hid (HA.out.trans (ha));have HQ:=Lib.hid hq;clear hq ha;(repeat (first | go_big_skip | go_big_want | go_big_move | go_big_op | go_step | go_upon | go_back));go_at_call 25;refine (aw12b HQ.out).mono ?_;rintro e x20 ⟨rfl,ha⟩;dsimp only;have HBp1:=Lib.hid (HBp1.out.aft (ha));have HBp3:=Lib.hid (HBp3.out.aft (ha));have HA:=Lib.hid (HA.out.trans (ha));clear ha HQ;have hne:(p3:Nat) ≠ p1:=by omega
 have c0:=HBp1.out.cell 0;have c1:=HBp1.out.cell 1;have c2:=HBp1.out.frozen 0;have c3:=HBp1.out.frozen 1;have c4:=HBp1.out.lt;simp only [List.getElem?_toArray,List.getElem?_cons_zero,List.getElem?_cons_succ] at c0 c1;go_upto_region 9 with fail
 clear c0 c1 c2 c3 c4;have HA:=Lib.hid ((HA.out.then_setCell (p:=⟨p1,0,none⟩) hp1ge (.int .i64 1)).then_setCell (p:=⟨p1,1,none⟩) hp1ge (.int .i64 1));have HBp1:Hid (Blk ((x20.setCell ⟨p1,0,none⟩ (.int .i64 1)).setCell ⟨p1,1,none⟩ (.int .i64 1)) p1 29 #[.int .i64 1,.int .i64 1]):=Lib.hid ((HBp1.out.store 0 (.int .i64 1)).store 1 (.int .i64 1));have HBp3:=Lib.hid ((HBp3.out.far (p:=⟨p1,0,none⟩) hne (.int .i64 1)).far (p:=⟨p1,1,none⟩) hne (.int .i64 1));generalize (x20.setCell ⟨p1,0,none⟩ (.int .i64 1)).setCell ⟨p1,1,none⟩ (.int .i64 1) = y21 at *;(repeat (first | go_big_skip | go_big_want | go_big_move | go_big_op | go_step | go_upon | go_back));go_at_call 27;refine (ring_any _).mono ?_;rintro e x22 ⟨b,rfl,hq,ha⟩;dsimp only;have HBp1:=Lib.hid (HBp1.out.aft (ha));have HBp3:=Lib.hid (HBp3.out.aft (ha));have HA:=Lib.hid (HA.out.trans (ha));have HQ:=Lib.hid hq;clear hq ha;(repeat (first | go_big_skip | go_big_want | go_big_move | go_big_op | go_step | go_upon | go_back));go_at_call 19;refine (shifted_any _ [0,0,0,0] _ _ (ints_of_blk (Blk.new _ _ _) rfl (by decide)) (by decide)).mono ?_;rintro e x23 ⟨v,rfl,ho,ha⟩;dsimp only;have HBp1:=Lib.hid (HBp1.out.aft ((Aft.alloc _ _).trans ha));have HBp3:=Lib.hid (HBp3.out.aft ((Aft.alloc _ _).trans ha));have HQ:=Lib.hid (HQ.out.aft ((Aft.alloc _ _).trans ha));have HA:=Lib.hid (HA.out.trans ((Aft.alloc _ _).trans ha));obtain ⟨A,c,rfl,-,hs,-⟩:=own_flat (enc:=enc4) (fun _=>rfl) ho (by decide);have HS:=Lib.hid hs;rw [show ([0,0,0,0].map shI).length = 4 from rfl];clear ha ho hs;(repeat (first | go_big_skip | go_big_want | go_big_move | go_big_op | go_step | go_upon | go_back));go_at_call 26;refine (aw37b HQ.out HS.out).mono ?_;rintro e x24 ⟨rfl,ha⟩;dsimp only;have HBp1:=Lib.hid (HBp1.out.aft (ha));have HBp3:=Lib.hid (HBp3.out.aft (ha));have HA:=Lib.hid (HA.out.trans (ha));clear ha HQ HS hne
 have hne:(p1:Nat) ≠ p3:=by omega
 have c0:=HBp3.out.cell 0;have c1:=HBp3.out.cell 1;have c2:=HBp3.out.frozen 0;have c3:=HBp3.out.frozen 1;have c4:=HBp3.out.lt;simp only [List.getElem?_toArray,List.getElem?_cons_zero,List.getElem?_cons_succ] at c0 c1;go_upto_region 10 with fail
 clear c0 c1 c2 c3 c4;have HA:=Lib.hid ((HA.out.then_setCell (p:=⟨p3,0,none⟩) hp3ge (.int .i64 1)).then_setCell (p:=⟨p3,1,none⟩) hp3ge (.int .i64 1));have HBp3:Hid (Blk ((x24.setCell ⟨p3,0,none⟩ (.int .i64 1)).setCell ⟨p3,1,none⟩ (.int .i64 1)) p3 29 #[.int .i64 1,.int .i64 1]):=Lib.hid ((HBp3.out.store 0 (.int .i64 1)).store 1 (.int .i64 1));have HBp1:=Lib.hid ((HBp1.out.far (p:=⟨p3,0,none⟩) hne (.int .i64 1)).far (p:=⟨p3,1,none⟩) hne (.int .i64 1));generalize (x24.setCell ⟨p3,0,none⟩ (.int .i64 1)).setCell ⟨p3,1,none⟩ (.int .i64 1) = y25 at *;(repeat (first | go_big_skip | go_big_want | go_big_move | go_big_op | go_step | go_upon | go_back));go_at_call 21;refine (edges_any _).mono ?_;rintro e x26 ⟨b1,b2,rfl,hq1,hq2,ha⟩;dsimp only;have HBp1:=Lib.hid (HBp1.out.aft (ha));have HBp3:=Lib.hid (HBp3.out.aft (ha));have HA:=Lib.hid (HA.out.trans (ha));have HQ1:=Lib.hid hq1;have HQ2:=Lib.hid hq2;clear hq1 hq2 ha;(repeat (first | go_big_skip | go_big_want | go_big_move | go_big_op | go_step | go_upon | go_back));go_at_call 28;refine (aw25 HQ1.out HQ2.out).mono ?_;rintro e x27 ⟨⟨A,c,rfl⟩,ha⟩;dsimp only;have HBp1:=Lib.hid (HBp1.out.aft (ha));have HBp3:=Lib.hid (HBp3.out.aft (ha));have HQ1:=Lib.hid (HQ1.out.aft (ha));have HQ2:=Lib.hid (HQ2.out.aft (ha));have HA:=Lib.hid (HA.out.trans (ha));clear ha;(repeat (first | go_big_skip | go_big_want | go_big_move | go_big_op | go_step | go_upon | go_back));go_at_call 29;refine (aw20 (HQ1.out.aft (Aft.alloc _ _)) (HQ2.out.aft (Aft.alloc _ _)) (Blk.new _ _ _)).mono ?_;rintro e x28 ⟨rfl,ha⟩;dsimp only;have HBp1:=Lib.hid (HBp1.out.aft ((Aft.alloc _ _).trans ha));have HBp3:=Lib.hid (HBp3.out.aft ((Aft.alloc _ _).trans ha));have HQ1:=Lib.hid (HQ1.out.aft ((Aft.alloc _ _).trans ha));have HQ2:=Lib.hid (HQ2.out.aft ((Aft.alloc _ _).trans ha));have HA:=Lib.hid (HA.out.trans ((Aft.alloc _ _).trans ha));clear ha
 (repeat (first | go_big_skip | go_big_want | go_big_move | go_big_op | go_step | go_upon | go_back));go_at_call 30;refine (aw23 (HQ1.out.aft ((((Aft.alloc _ _).then_alloc _).then_alloc _).then_alloc _)) (HQ2.out.aft ((((Aft.alloc _ _).then_alloc _).then_alloc _).then_alloc _)) ((((Blk.new _ _ _).alloc _).alloc _).alloc _) (((blk_2 _ _ _ _).alloc _).alloc _) ((blk_3 _ _ _ _ _).alloc _) (blk_4 _ _ _ _ _ _)).mono ?_;rintro e x29 ⟨rfl,ha⟩;dsimp only;have HBp1:=Lib.hid (HBp1.out.aft (((((Aft.alloc _ _).then_alloc _).then_alloc _).then_alloc _).trans ha));have HBp3:=Lib.hid (HBp3.out.aft (((((Aft.alloc _ _).then_alloc _).then_alloc _).then_alloc _).trans ha));have HA:=Lib.hid (HA.out.trans (((((Aft.alloc _ _).then_alloc _).then_alloc _).then_alloc _).trans ha));clear ha HQ1 HQ2;go_upto_region 14 with fail
 refine wp_region_valsT (by kernel_rfl) 40 189 rfl (by kernel_rfl) (by kernel_rfl) (by kernel_rfl) [.int .i64 0,.bool true,.bool true,.int .i64 0,.bool true,.bool true,.bool true,.int .i64 0,.bool true,.bool true,.bool true,.int .i64 0,.bool true,.bool true,.bool true,.int .i64 0,.bool true,.bool true,.bool true,.agg #[.int .i64 1,.int .i64 1],.agg #[.int .i64 1,.int .i64 1],.bool true,.bool true,.bool true,.agg #[.int .i64 1,.int .i64 1],.agg #[.int .i64 1,.int .i64 1],.bool true,.bool true,.bool true,.slice A 2 c,.int .i64 2,.bool true,.bool true,.bool true,.bool true,.bool true,.bool true,.int .i64 2,.bool true,.bool true] rfl (fun _ W=>Aft x29 W) (Aft.drew _) ?st2 ?fi2
 case st2 =>
  intro i o v ho hv
  match i,ho,hv with
  | 0,ho,hv =>
   cases ho;cases hv;refine .inl ⟨rfl,fun done a W hd hp hk hw K hK=>?_⟩;have e2:=hk.same 2 (by decide);exact op_val (by simp [go_sem,ev' e2]) (hK _ hw)
  | 1,ho,hv =>
   cases ho;cases hv;refine .inl ⟨rfl,fun done a W hd hp hk hw K hK=>?_⟩;have e149:=hk.at_ 0 _ 149 _ rfl (by decide) _ rfl rfl rfl;exact op_val (by simp [go_sem,ev' e149]) (hK _ hw)
  | 2,ho,hv =>
   cases ho;cases hv;refine .inl ⟨rfl,fun done a W hd hp hk hw K hK=>?_⟩;have e150:=hk.at_ 1 _ 150 _ rfl (by decide) _ rfl rfl rfl;exact op_val (by simp [go_sem,ev' e150]) (hK _ hw)
  | 3,ho,hv =>
   cases ho;cases hv;refine .inl ⟨rfl,fun done a W hd hp hk hw K hK=>?_⟩;have e4:=hk.same 4 (by decide);exact op_val (by simp [go_sem,ev' e4]) (hK _ hw)
  | 4,ho,hv =>
   cases ho;cases hv;refine .inl ⟨rfl,fun done a W hd hp hk hw K hK=>?_⟩;have e152:=hk.at_ 3 _ 152 _ rfl (by decide) _ rfl rfl rfl;exact op_val (by simp [go_sem,ev' e152]) (hK _ hw)
  | 5,ho,hv =>
   cases ho;cases hv;refine .inl ⟨rfl,fun done a W hd hp hk hw K hK=>?_⟩;have e151:=hk.at_ 2 _ 151 _ rfl (by decide) _ rfl rfl rfl;have e153:=hk.at_ 4 _ 153 _ rfl (by decide) _ rfl rfl rfl;exact op_val (by simp [go_sem,ev' e151,ev' e153]) (hK _ hw)
  | 6,ho,hv =>
   cases ho;cases hv;refine .inl ⟨rfl,fun done a W hd hp hk hw K hK=>?_⟩;have e154:=hk.at_ 5 _ 154 _ rfl (by decide) _ rfl rfl rfl;exact op_val (by simp [go_sem,ev' e154]) (hK _ hw)
  | 7,ho,hv =>
   cases ho;cases hv;refine .inl ⟨rfl,fun done a W hd hp hk hw K hK=>?_⟩;have e6:=hk.same 6 (by decide);exact op_val (by simp [go_sem,ev' e6]) (hK _ hw)
  | 8,ho,hv =>
   cases ho;cases hv;refine .inl ⟨rfl,fun done a W hd hp hk hw K hK=>?_⟩;have e156:=hk.at_ 7 _ 156 _ rfl (by decide) _ rfl rfl rfl;exact op_val (by simp [go_sem,ev' e156]) (hK _ hw)
  | 9,ho,hv =>
   cases ho;cases hv;refine .inl ⟨rfl,fun done a W hd hp hk hw K hK=>?_⟩;have e155:=hk.at_ 6 _ 155 _ rfl (by decide) _ rfl rfl rfl;have e157:=hk.at_ 8 _ 157 _ rfl (by decide) _ rfl rfl rfl;exact op_val (by simp [go_sem,ev' e155,ev' e157]) (hK _ hw)
  | 10,ho,hv =>
   cases ho;cases hv;refine .inl ⟨rfl,fun done a W hd hp hk hw K hK=>?_⟩;have e158:=hk.at_ 9 _ 158 _ rfl (by decide) _ rfl rfl rfl;exact op_val (by simp [go_sem,ev' e158]) (hK _ hw)
  | 11,ho,hv =>
   cases ho;cases hv;refine .inl ⟨rfl,fun done a W hd hp hk hw K hK=>?_⟩;have e9:=hk.same 9 (by decide);exact op_val (by simp [go_sem,ev' e9]) (hK _ hw)
  | 12,ho,hv =>
   cases ho;cases hv;refine .inl ⟨rfl,fun done a W hd hp hk hw K hK=>?_⟩;have e160:=hk.at_ 11 _ 160 _ rfl (by decide) _ rfl rfl rfl;exact op_val (by simp [go_sem,ev' e160]) (hK _ hw)
  | 13,ho,hv =>
   cases ho;cases hv;refine .inl ⟨rfl,fun done a W hd hp hk hw K hK=>?_⟩;have e159:=hk.at_ 10 _ 159 _ rfl (by decide) _ rfl rfl rfl;have e161:=hk.at_ 12 _ 161 _ rfl (by decide) _ rfl rfl rfl;exact op_val (by simp [go_sem,ev' e159,ev' e161]) (hK _ hw)
  | 14,ho,hv =>
   cases ho;cases hv;refine .inl ⟨rfl,fun done a W hd hp hk hw K hK=>?_⟩;have e162:=hk.at_ 13 _ 162 _ rfl (by decide) _ rfl rfl rfl;exact op_val (by simp [go_sem,ev' e162]) (hK _ hw)
  | 15,ho,hv =>
   cases ho;cases hv;refine .inl ⟨rfl,fun done a W hd hp hk hw K hK=>?_⟩;have e12:=hk.same 12 (by decide);exact op_val (by simp [go_sem,ev' e12]) (hK _ hw)
  | 16,ho,hv =>
   cases ho;cases hv;refine .inl ⟨rfl,fun done a W hd hp hk hw K hK=>?_⟩;have e164:=hk.at_ 15 _ 164 _ rfl (by decide) _ rfl rfl rfl;exact op_val (by simp [go_sem,ev' e164]) (hK _ hw)
  | 17,ho,hv =>
   cases ho;cases hv;refine .inl ⟨rfl,fun done a W hd hp hk hw K hK=>?_⟩;have e163:=hk.at_ 14 _ 163 _ rfl (by decide) _ rfl rfl rfl;have e165:=hk.at_ 16 _ 165 _ rfl (by decide) _ rfl rfl rfl;exact op_val (by simp [go_sem,ev' e163,ev' e165]) (hK _ hw)
  | 18,ho,hv =>
   cases ho;cases hv;refine .inl ⟨rfl,fun done a W hd hp hk hw K hK=>?_⟩;have e166:=hk.at_ 17 _ 166 _ rfl (by decide) _ rfl rfl rfl;exact op_val (by simp [go_sem,ev' e166]) (hK _ hw)
  | 19,ho,hv =>
   cases ho;cases hv;refine .inl ⟨rfl,fun done a W hd hp hk hw K hK=>?_⟩;have e1:=hk.same 1 (by decide);exact op_val (by simp [go_sem,ev' e1,(HBp1.out.aft hw).cell 0,(HBp1.out.aft hw).cell 1]) (hK _ hw)
  | 20,ho,hv =>
   cases ho;cases hv;refine .inl ⟨rfl,fun done a W hd hp hk hw K hK=>?_⟩;refine op_callN rfl rfl rfl _ rfl (vs:=#[.int .i64 1,.int .i64 1]) (by simp [Act.eval]) (ratioL_any 1 1 W) ?_;rintro e w7 ⟨rfl,hw7⟩;exact ⟨_,rfl,hK _ (hw.trans hw7)⟩
  | 21,ho,hv =>
   cases ho;cases hv;refine .inl ⟨rfl,fun done a W hd hp hk hw K hK=>?_⟩;have e168:=hk.at_ 19 _ 168 _ rfl (by decide) _ rfl rfl rfl;have e169:=hk.at_ 20 _ 169 _ rfl (by decide) _ rfl rfl rfl;exact op_val (by simp [go_sem,ev' e168,ev' e169]) (hK _ hw)
  | 22,ho,hv =>
   cases ho;cases hv;refine .inl ⟨rfl,fun done a W hd hp hk hw K hK=>?_⟩;have e167:=hk.at_ 18 _ 167 _ rfl (by decide) _ rfl rfl rfl;have e170:=hk.at_ 21 _ 170 _ rfl (by decide) _ rfl rfl rfl;exact op_val (by simp [go_sem,ev' e167,ev' e170]) (hK _ hw)
  | 23,ho,hv =>
   cases ho;cases hv;refine .inl ⟨rfl,fun done a W hd hp hk hw K hK=>?_⟩;have e171:=hk.at_ 22 _ 171 _ rfl (by decide) _ rfl rfl rfl;exact op_val (by simp [go_sem,ev' e171]) (hK _ hw)
  | 24,ho,hv =>
   cases ho;cases hv;refine .inl ⟨rfl,fun done a W hd hp hk hw K hK=>?_⟩;have e3:=hk.same 3 (by decide);exact op_val (by simp [go_sem,ev' e3,(HBp3.out.aft hw).cell 0,(HBp3.out.aft hw).cell 1]) (hK _ hw)
  | 25,ho,hv =>
   cases ho;cases hv;refine .inl ⟨rfl,fun done a W hd hp hk hw K hK=>?_⟩;have e1:=hk.same 1 (by decide);exact op_val (by simp [go_sem,ev' e1,(HBp1.out.aft hw).cell 0,(HBp1.out.aft hw).cell 1]) (hK _ hw)
  | 26,ho,hv =>
   cases ho;cases hv;refine .inl ⟨rfl,fun done a W hd hp hk hw K hK=>?_⟩;have e173:=hk.at_ 24 _ 173 _ rfl (by decide) _ rfl rfl rfl;have e174:=hk.at_ 25 _ 174 _ rfl (by decide) _ rfl rfl rfl;exact op_val (by simp [go_sem,ev' e173,ev' e174]) (hK _ hw)
  | 27,ho,hv =>
   cases ho;cases hv;refine .inl ⟨rfl,fun done a W hd hp hk hw K hK=>?_⟩;have e172:=hk.at_ 23 _ 172 _ rfl (by decide) _ rfl rfl rfl;have e175:=hk.at_ 26 _ 175 _ rfl (by decide) _ rfl rfl rfl;exact op_val (by simp [go_sem,ev' e172,ev' e175]) (hK _ hw)
  | 28,ho,hv =>
   cases ho;cases hv;refine .inl ⟨rfl,fun done a W hd hp hk hw K hK=>?_⟩;have e176:=hk.at_ 27 _ 176 _ rfl (by decide) _ rfl rfl rfl;exact op_val (by simp [go_sem,ev' e176]) (hK _ hw)
  | 29,ho,hv =>
   cases ho;cases hv;refine .inl ⟨rfl,fun done a W hd hp hk hw K hK=>?_⟩;have e15:=hk.same 15 (by decide);exact op_val (by simp [go_sem,ev' e15]) (hK _ hw)
  | 30,ho,hv =>
   cases ho;cases hv;refine .inl ⟨rfl,fun done a W hd hp hk hw K hK=>?_⟩;have e178:=hk.at_ 29 _ 178 _ rfl (by decide) _ rfl rfl rfl;exact op_val (by simp [go_sem,ev' e178]) (hK _ hw)
  | 31,ho,hv =>
   cases ho;cases hv;refine .inl ⟨rfl,fun done a W hd hp hk hw K hK=>?_⟩;have e179:=hk.at_ 30 _ 179 _ rfl (by decide) _ rfl rfl rfl;exact op_val (by simp [go_sem,ev' e179]) (hK _ hw)
  | 32,ho,hv =>
   cases ho;cases hv;refine .inl ⟨rfl,fun done a W hd hp hk hw K hK=>?_⟩;have e177:=hk.at_ 28 _ 177 _ rfl (by decide) _ rfl rfl rfl;have e180:=hk.at_ 31 _ 180 _ rfl (by decide) _ rfl rfl rfl;exact op_val (by simp [go_sem,ev' e177,ev' e180]) (hK _ hw)
  | 33,ho,hv =>
   cases ho;cases hv;refine .inl ⟨rfl,fun done a W hd hp hk hw K hK=>?_⟩;have e181:=hk.at_ 32 _ 181 _ rfl (by decide) _ rfl rfl rfl;exact op_val (by simp [go_sem,ev' e181]) (hK _ hw)
  | 34,ho,hv =>
   cases ho;cases hv;refine .inl ⟨rfl,fun done a W hd hp hk hw K hK=>?_⟩;have e16:=hk.same 16 (by decide);exact op_val (by simp [go_sem,ev' e16]) (hK _ hw)
  | 35,ho,hv =>
   cases ho;cases hv;refine .inl ⟨rfl,fun done a W hd hp hk hw K hK=>?_⟩;have e182:=hk.at_ 33 _ 182 _ rfl (by decide) _ rfl rfl rfl;have e183:=hk.at_ 34 _ 183 _ rfl (by decide) _ rfl rfl rfl;exact op_val (by simp [go_sem,ev' e182,ev' e183]) (hK _ hw)
  | 36,ho,hv =>
   cases ho;cases hv;refine .inl ⟨rfl,fun done a W hd hp hk hw K hK=>?_⟩;have e184:=hk.at_ 35 _ 184 _ rfl (by decide) _ rfl rfl rfl;exact op_val (by simp [go_sem,ev' e184]) (hK _ hw)
  | 37,ho,hv =>
   cases ho;cases hv;refine .inl ⟨rfl,fun done a W hd hp hk hw K hK=>?_⟩;have e17:=hk.same 17 (by decide);exact op_val (by simp [go_sem,ev' e17]) (hK _ hw)
  | 38,ho,hv =>
   cases ho;cases hv;refine .inl ⟨rfl,fun done a W hd hp hk hw K hK=>?_⟩;have e186:=hk.at_ 37 _ 186 _ rfl (by decide) _ rfl rfl rfl;exact op_val (by simp [go_sem,ev' e186]) (hK _ hw)
  | 39,ho,hv =>
   cases ho;cases hv;refine .inl ⟨rfl,fun done a W hd hp hk hw K hK=>?_⟩;have e185:=hk.at_ 36 _ 185 _ rfl (by decide) _ rfl rfl rfl;have e187:=hk.at_ 38 _ 187 _ rfl (by decide) _ rfl rfl rfl;exact op_val (by simp [go_sem,ev' e185,ev' e187]) (hK _ hw)
  | _ + 40,_,hv=>cases hv
 intro done W hd hw;simp only [List.drop_succ_cons,List.drop_zero,List.zip_cons_cons,List.zip_nil_right,putAll];simp only [Act.put,List.setIfInBounds_toArray,List.set];clear hd;have HAW:=Lib.hid (HA.out.trans hw);clear hw;go_wp2_with fail
 go_ret;exact ⟨rfl,HAW.out⟩
end Go.Proofs
end
