/- Own texts, merged: PTd PRk Sn Si Pp Rn4 Sr. -/
import Derived.Test.YthegmhnaiabcpaaGreatF04
set_option linter.unusedSimpArgs false
set_option linter.unusedVariables false
set_option linter.unnecessarySimpa false
section
/- Plain: which sheets are tied. -/
namespace Sheet
variable {E:List Edge} {n:Nat}
structure TiedIs (E:List Edge) (n:Nat) (out:Nat -> Nat):Prop where
 has:∀ a,a < n -> ∃ k s,Wk E a (out a) k s
 le:∀ a b k s,a < n -> Wk E a b k s -> out a <= b
theorem Wk.first {a b l:Nat} {s:Int} (h:Wk E a b (l + 1) s):∃ c w t,(a,c,w) ∈ E /\ Wk E c b l t:=by
 obtain ⟨v,u,v0,vk,u0,uk,he⟩:=h.rows;refine ⟨v 1,_,u (1 + l) - u 1,by have:=he 0 (by omega);rw [v0] at this;exact this,?_⟩;have:=Wk.of_rows (E:=E) (v:=v) (u:=u) l 1 fun x _ h2=>he x (by omega)
 rw [show 1 + l = l + 1 by omega,vk] at this;rw [show 1 + l = l + 1 by omega];exact this
def Near (E:List Edge) (n k:Nat) (out:Nat -> Nat):Prop:=∀ a b l s,a < n -> l <= k -> Wk E a b l s -> out a <= b
theorem Near.start:Near E n 0 fun a=>a:=by
 intro a b l s _ hl hw;have:=(hw.none (by omega)).2;show a <= b;omega
theorem Near.round (hE:In E n) {k:Nat} {out out':Nat -> Nat} (h:Near E n k out) (h1:∀ a,a < n -> out' a <= out a) (h2:∀ a c w,(a,c,w) ∈ E -> out' a <= out c):Near E n (k + 1) out':=by
 intro a b l s ha hl hw;by_cases e:l <= k
 ·exact Nat.le_trans (h1 a ha) (h a b l s ha e hw)
 ·have el:l = (l - 1) + 1:=by omega
  rw [el] at hw
  obtain ⟨c,w,t,he,hw'⟩:=hw.first;exact Nat.le_trans (h2 a c w he) (h c b (l - 1) t (hE _ _ _ he).2 (by omega) hw')
theorem Near.tied (hE:In E n) (hn:0 < n) {out:Nat -> Nat} (h:Near E n n out) (h1:∀ a,a < n -> ∃ k s,Wk E a (out a) k s):TiedIs E n out:=by
 refine ⟨h1,fun a b k s ha hw=>?_⟩;obtain ⟨k',s',h2,-,h3,-⟩:=Wk.short (p:=0) (q:=0) hE hn (fun _ _ _ _ _=>by simp) k (Nat.le_refl _) hw;exact h a b k' s' ha (by omega) h3
theorem TiedIs.iff (hS:Sym E) {out:Nat -> Nat} (h:TiedIs E n out) {a b:Nat} (ha:a < n) (hb:b < n):out a = out b ↔ ∃ k s,Wk E a b k s:=by
 constructor
 ·intro e;obtain ⟨k,s,h1⟩:=h.has a ha;obtain ⟨k',s',h2⟩:=h.has b hb;rw [<- e] at h2;exact ⟨_,_,h1.append (h2.rev hS)⟩
 ·rintro ⟨k,s,hw⟩
  have h3:∀ {x y k s},x < n -> y < n -> Wk E x y k s -> out x <= out y:=fun hx hy hw=>by
   obtain ⟨k',s',h2⟩:=h.has _ hy;exact h.le _ _ _ _ hx (hw.append h2)
  exact Nat.le_antisymm (h3 ha hb hw) (h3 hb ha (hw.rev hS))
end Sheet
end
section
/- Plain: what the program's reckon tells: all rows calm: the play is enough,and rows tell how far sheets lie apart;or a round that does not allow the play. -/
namespace Sheet
variable {n:Nat} {J:List Jo} {D N:Int}
def Calms (n:Nat) (J:List Jo) (D N:Int) (ap:Nat -> Nat -> Int):Prop:=∀ a,a < n -> (∃ by_,RowI J D N a (ap a) by_) /\ ∀ b,Calm (sc D N (legs J)) (fun c=>opt (ap a c)) b
theorem Calms.noNeg (hJ:Ok n J) {ap:Nat -> Nat -> Int} (h:Calms n J D N ap):NoNeg (sc D N (legs J)):=by
 intro a k s hw;by_cases hk:k = 0
 ·have:=(hw.none hk).1;omega
 ·have ha:a < n:=by
   obtain ⟨c,w,t,he,-⟩:=Wk.first (hw.of_eq (show k = (k - 1) + 1 by omega) rfl);exact (hJ.in_sc _ _ _ he).1
  obtain ⟨⟨by_,h1⟩,h2⟩:=h a ha;exact calm_round (d:=fun c=>opt (ap a c)) h2 hw (opt_some.2 ⟨rfl,h1.home⟩)
theorem Calms.most (hJ:Ok n J) {ap:Nat -> Nat -> Int} (h:Calms n J D N ap):AtMost (legs J) N D:=(noNeg_iff (legs_sym J)).1 (h.noNeg hJ)
theorem Calms.dist {ap:Nat -> Nat -> Int} (h:Calms n J D N ap) {a:Nat} (ha:a < n) (b:Nat):Dist (sc D N (legs J)) a b (opt (ap a b)):=by
 obtain ⟨⟨by_,h1⟩,h2⟩:=h a ha;exact h1.core.dist h2 b
def Clash (n:Nat) (J:List Jo) (D N:Int) (l:List (Nat × Bool)):Prop:=0 < l.length /\ l.length <= n /\ ∃ c,IsWalk J c l c /\ sumN J l * D + (l.length:Int) * N < 0
theorem Clash.not {l:List (Nat × Bool)} (h:Clash n J D N l):¬ AtMost (legs J) N D:=by
 intro hm;obtain ⟨h0,-,c,hw,hlt⟩:=h;have:=(noNeg_iff (legs_sym J)).2 hm c l.length _ (hw.wk.sc (D:=D) (N:=N));omega
theorem least_step {l:List (Nat × Bool)} (hp:Proved (legs J) n N D) (h:Clash n J D N l):sumN J l < 0 /\ Proved (legs J) n (low (-(sumN J l)) l.length).1 (low (-(sumN J l)) l.length).2 /\ N * (low (-(sumN J l)) l.length).2 < (low (-(sumN J l)) l.length).1 * D:=by
 obtain ⟨h0,hn,c,hw,hlt⟩:=h;exact Proved.step (legs_sym J) hp.1 hp.2.1 hw.wk h0 hn hlt
end Sheet
end
section
/- Walks: ways,ends,number. -/
namespace Go.Proofs
open Go.RowKit
attribute [local go_sem] Oper.semAt_some
def way1 (north:Bool) (j:Q4):Int:=if north then j.y else j.x
def joOf (north:Bool) (J:List Q4):List Sheet.Jo:=J.map fun j=>(j.a.toNat,j.b.toNat,way1 north j)
structure SetOk (S:SetL):Prop where
 n1:1 <= S.n
 n2:S.n <= 12
 few:S.J.length <= 40
 ends:∀ j ∈ S.J,(0 <= j.a /\ j.a < S.n) /\ (0 <= j.b /\ j.b < S.n) /\ j.a ≠ j.b
 nums:∀ j ∈ S.J,(-1000000 <= j.x /\ j.x <= 1000000) /\ (-1000000 <= j.y /\ j.y <= 1000000)
theorem setE_ok {S:SetL} (h:setE S = 0):SetOk S:=by
 unfold setE at h;split at h
 ·cases h
 rename_i h1
 split at h
 ·cases h
 rename_i h2
 split at h
 ·cases h
 rename_i h3
 simp only [Bool.or_eq_true,Bool.not_eq_true',decide_eq_true_eq,not_or,Bool.not_eq_false] at h1 h2 h3;have a:=fromB_iff.1 h1.1;refine ⟨a.1,a.2,by omega,fun j hj=>?_,fun j hj=>?_⟩
 ·have:=List.all_eq_true.1 h2 j hj;unfold okJ at this;simp only [Bool.and_eq_true,fromB_iff,bne_iff_ne,ne_eq] at this;exact ⟨by omega,by omega,this.2⟩
 ·have:=List.all_eq_true.1 h3 j hj;unfold numJ at this;simp only [Bool.and_eq_true,fromB_iff] at this;exact this
theorem SetOk.e {S:SetL} (h:SetOk S):setE S = 0:=by
 refine setE_fine (fromB_iff.2 ⟨h.n1,h.n2⟩) (by have:=h.few;omega) (List.all_eq_true.2 fun j hj=>?_) (List.all_eq_true.2 fun j hj=>?_)
 ·have:=h.ends j hj;unfold okJ;simp only [Bool.and_eq_true,fromB_iff,bne_iff_ne,ne_eq];exact ⟨⟨by omega,by omega⟩,this.2.2⟩
 ·have:=h.nums j hj;unfold numJ;simp only [Bool.and_eq_true,fromB_iff];exact this
theorem SetOk.ok {S:SetL} (h:SetOk S) (north:Bool):Sheet.Ok S.n.toNat (joOf north S.J):=by
 intro j hj;obtain ⟨q,hq,rfl⟩:=List.mem_map.1 hj;have:=h.ends q hq;have:=h.n1;dsimp only;omega
theorem joOf_len (north:Bool) (J:List Q4):(joOf north J).length = J.length:=by unfold joOf;rw [List.length_map]
theorem jo_of (north:Bool) (J:List Q4) {i:Nat} (h:i < J.length):Sheet.jo (joOf north J) i = (J[i].a.toNat,J[i].b.toNat,way1 north J[i]):=by
 unfold Sheet.jo joOf;rw [List.getD_eq_getElem?_getD,List.getElem?_map,List.getElem?_eq_getElem h];rfl
theorem of81 (a b x y:Int) (w:World):Calls Tryz.prog 95 #[.agg #[.int .i64 a,.int .i64 b,.int .i64 x,.int .i64 y]] w fun e w'=>e = .returned (.int .i64 x) /\ w' = w.alloc (.cells #[.int .i64 a,.int .i64 b,.int .i64 x,.int .i64 y] 72):=by
 go_enter Tryz.func95,Tryz.ntmps95;go_wp2;go_ret;exact ⟨rfl,rfl⟩
theorem of82 (a b x y:Int) (w:World):Calls Tryz.prog 96 #[.agg #[.int .i64 a,.int .i64 b,.int .i64 x,.int .i64 y]] w fun e w'=>e = .returned (.int .i64 y) /\ w' = w.alloc (.cells #[.int .i64 a,.int .i64 b,.int .i64 x,.int .i64 y] 72):=by
 go_enter Tryz.func96,Tryz.ntmps96;go_wp2;go_ret;exact ⟨rfl,rfl⟩
theorem both_any (w:World):Calls Tryz.prog 37 #[] w fun e w'=>e = .returned (.agg #[.func (.func 95) #[] #[],.func (.func 96) #[] #[]]) /\ Aft w w':=by
 have h0:=Lib.hid (Aft.alloc w (.cells #[.func (.func 95) #[] #[],.func (.func 96) #[] #[]] 102));go_enter Tryz.func37,Tryz.ntmps37;go_wp2;refine bodyPost_ret (v:=.agg #[.func (.func 95) #[] #[],.func (.func 96) #[] #[]]) (by simp [results,Tryz.results37,go_sem]) rfl ⟨rfl,h0.out⟩
structure WayOk (K:FuncId) (north:Bool):Prop where
 runs:∀ args w,(callFunc K args).run Tryz.prog w = .ok (.enter K args) w
 of:∀ (a b x y:Int) w,Calls Tryz.prog K #[.agg #[.int .i64 a,.int .i64 b,.int .i64 x,.int .i64 y]] w fun e w'=>e = .returned (.int .i64 (way1 north ⟨a,b,x,y⟩)) /\ w' = w.alloc (.cells #[.int .i64 a,.int .i64 b,.int .i64 x,.int .i64 y] 72)
theorem way81:WayOk 95 false:=⟨fun args w=>by simp [go_sem],fun a b x y w=>of81 a b x y w⟩
theorem way82:WayOk 96 true:=⟨fun args w=>by simp [go_sem],fun a b x y w=>of82 a b x y w⟩
def fromI (j:Q4) (bk:Bool):Int:=if bk then j.b else j.a
def intoI (j:Q4) (bk:Bool):Int:=if bk then j.a else j.b
def numI (north:Bool) (j:Q4) (bk:Bool):Int:=if bk then -(way1 north j) else way1 north j
set_option maxRecDepth 100000 in
set_option maxHeartbeats 2000000 in
theorem ends_any (S:SetL) (A:Option Addr) (c d:Nat) (ap:Nat -> Int) (bf:Nat -> Nat × Bool) (w0 w:World) (g:Nat) (bk:Bool) (hW:WorkAt w0 w d S A c ap bf) (hg:g < S.J.length) :
  Calls Tryz.prog 36 #[.pointer (some ⟨d,0,none⟩),.agg #[.int .i64 (g:Nat),.bool bk]] w fun e w'=>e = .returned (.tuple #[.int .i64 (fromI S.J[g] bk),.int .i64 (intoI S.J[g] bk)]) /\ Aft w w':=by
 have hlen:=hW.js.len;obtain ⟨b,o,rfl,hb,hc⟩:=hW.js.at hg;obtain ⟨x0,x1,x2,x3⟩:=hc g hg;have hin:(0:Int) <= (g:Int) /\ (g:Int) < (S.J.length:Int):=by omega
 obtain ⟨W1,hW1⟩:∃ W1,w.alloc (.cells #[.int .i64 (g:Nat),.bool bk] 34) = W1:=⟨_,rfl⟩;have h1:Aft w W1:=hW1 ▸ Aft.alloc _ _;have HB:=Lib.hid (hW1 ▸ Blk.new w 34 #[.int .i64 (g:Nat),.bool bk]);have H1:=Lib.hid h1;have HK:Hid (∀ W,Aft W1 W -> W.cell? ⟨d,1,none⟩ = some (.slice (some ⟨b,o,none⟩) S.J.length c)):=Lib.hid fun W h=>cellA hW.k1 hW.lt (h1.trans h)
 have HX:Hid (∀ W,Aft W1 W -> W.cell? ⟨b,o + g * 4,none⟩ = some (.int .i64 S.J[g].a) /\ W.cell? ⟨b,o + g * 4 + 1,none⟩ = some (.int .i64 S.J[g].b) /\ W.cell? ⟨b,o + g * 4 + 2,none⟩ = some (.int .i64 S.J[g].x) /\ W.cell? ⟨b,o + g * 4 + 3,none⟩ = some (.int .i64 S.J[g].y)) :=
  Lib.hid fun W h=>⟨cellA x0 hb (h1.trans h),cellA x1 hb (h1.trans h),cellA x2 hb (h1.trans h),cellA x3 hb (h1.trans h)⟩
 unfold fromI intoI;generalize S.J[g] = q at *;obtain ⟨qa,qb,qx,qy⟩:=q;dsimp only at HX ⊢;clear x0 x1 x2 x3 hc hW h1;go_enter Tryz.func36,Tryz.ntmps36;go_upto_region 1 with fail
 generalize hs:w.heap.size = z at *;clear hW1 hs;refine wp_region_valsT (by kernel_rfl) 10 26 rfl (by kernel_rfl) (by kernel_rfl) (by kernel_rfl) [.pointer (some ⟨d,0,none⟩),.pointer (some ⟨d,0,none⟩),.pointer (some ⟨d,0,none⟩),.pointer (some ⟨d,1,none⟩),.slice (some ⟨b,o,none⟩) S.J.length c,.pointer (some ⟨z,0,none⟩),.int .i64 (g:Nat),.pointer (some ⟨b,o + g * 4,none⟩),.agg #[.int .i64 qa,.int .i64 qb,.int .i64 qx,.int .i64 qy],.pointer (some ⟨W1.heap.size,0,none⟩)] rfl (fun done W=>Aft W1 W /\ (if done 9 = true then W = W1.drew.alloc (.cells #[.int .i64 0,.int .i64 0,.int .i64 0,.int .i64 0] 72) else W = W1.drew)) (⟨Aft.drew _,by simp⟩) ?st1 ?fi1
 case st1 =>
  intro i o v ho hv
  match i,ho,hv with
  | 0,ho,hv =>
   cases ho;cases hv;refine .inl ⟨rfl,fun done a W hd hp hk hw K hK=>?_⟩;have e0:=hk.same 0 (by decide);exact op_val (by simp [go_sem,ev' e0]) (hK _ (⟨hw.1,by rw [upd_ne' (by decide)];exact hw.2⟩))
  | 1,ho,hv =>
   cases ho;cases hv;refine .inl ⟨rfl,fun done a W hd hp hk hw K hK=>?_⟩;have e7:=hk.at_ 0 _ 7 _ rfl (by decide) _ rfl rfl rfl;exact op_val (by simp [go_sem,ev' e7]) (hK _ (⟨hw.1,by rw [upd_ne' (by decide)];exact hw.2⟩))
  | 2,ho,hv =>
   cases ho;cases hv;refine .inl ⟨rfl,fun done a W hd hp hk hw K hK=>?_⟩;have e8:=hk.at_ 1 _ 8 _ rfl (by decide) _ rfl rfl rfl;exact op_val (by simp [go_sem,ev' e8]) (hK _ (⟨hw.1,by rw [upd_ne' (by decide)];exact hw.2⟩))
  | 3,ho,hv =>
   cases ho;cases hv;refine .inl ⟨rfl,fun done a W hd hp hk hw K hK=>?_⟩;have e9:=hk.at_ 2 _ 9 _ rfl (by decide) _ rfl rfl rfl;exact op_val (by simp [go_sem,ev' e9]) (hK _ (⟨hw.1,by rw [upd_ne' (by decide)];exact hw.2⟩))
  | 4,ho,hv =>
   cases ho;cases hv;refine .inl ⟨rfl,fun done a W hd hp hk hw K hK=>?_⟩;have e10:=hk.at_ 3 _ 10 _ rfl (by decide) _ rfl rfl rfl;exact op_val (by simp [go_sem,ev' e10,HK.out W hw.1]) (hK _ (⟨hw.1,by rw [upd_ne' (by decide)];exact hw.2⟩))
  | 5,ho,hv =>
   cases ho;cases hv;refine .inl ⟨rfl,fun done a W hd hp hk hw K hK=>?_⟩;have e3:=hk.same 3 (by decide);exact op_val (by simp [go_sem,ev' e3]) (hK _ (⟨hw.1,by rw [upd_ne' (by decide)];exact hw.2⟩))
  | 6,ho,hv =>
   cases ho;cases hv;refine .inl ⟨rfl,fun done a W hd hp hk hw K hK=>?_⟩;have e12:=hk.at_ 5 _ 12 _ rfl (by decide) _ rfl rfl rfl;exact op_val (by simp [go_sem,ev' e12,(HB.out.aft hw.1).cell 0]) (hK _ (⟨hw.1,by rw [upd_ne' (by decide)];exact hw.2⟩))
  | 7,ho,hv =>
   cases ho;cases hv;refine .inl ⟨rfl,fun done a W hd hp hk hw K hK=>?_⟩;have e11:=hk.at_ 4 _ 11 _ rfl (by decide) _ rfl rfl rfl;have e13:=hk.at_ 6 _ 13 _ rfl (by decide) _ rfl rfl rfl;exact op_val (by simp [go_sem,ev' e11,ev' e13,hin]) (hK _ (⟨hw.1,by rw [upd_ne' (by decide)];exact hw.2⟩))
  | 8,ho,hv =>
   cases ho;cases hv;refine .inl ⟨rfl,fun done a W hd hp hk hw K hK=>?_⟩;have e14:=hk.at_ 7 _ 14 _ rfl (by decide) _ rfl rfl rfl;exact op_val (by simp [go_sem,ev' e14,(HX.out W hw.1).1,(HX.out W hw.1).2.1,(HX.out W hw.1).2.2.1,(HX.out W hw.1).2.2.2]) (hK _ (⟨hw.1,by rw [upd_ne' (by decide)];exact hw.2⟩))
  | 9,ho,hv =>
   cases ho;cases hv;refine .inl ⟨rfl,fun done a W hd hp hk hw K hK=>?_⟩;have h2:=hw.2;rw [hd] at h2;simp only [Bool.false_eq_true,if_false] at h2;subst h2;exact op_valW (v:=.pointer (some ⟨W1.heap.size,0,none⟩)) (w':=W1.drew.alloc (.cells #[.int .i64 0,.int .i64 0,.int .i64 0,.int .i64 0] 72)) (by simp [go_sem]) (hK _ ⟨(Aft.drew W1).then_alloc _,by rw [upd_same',if_pos rfl]⟩)
  | _ + 10,_,hv=>cases hv
 intro done W hd hw;simp only [List.drop_succ_cons,List.drop_zero,List.zip_cons_cons,List.zip_nil_right,putAll];simp only [Act.put,List.setIfInBounds_toArray,List.set];have hw2:=hw.2;rw [if_pos (hd 9 (by decide))] at hw2;clear hw hd;subst hw2;have k0:=HB.out.cell 0;have k1:=HB.out.cell 1;have hzlt:=HB.out.lt;simp only [List.getElem?_toArray,List.getElem?_cons_zero,List.getElem?_cons_succ] at k0 k1;clear HB HK HX;cases bk
 ·go_wp2_with fail
  go_quiet (fail);go_wp2_with fail
  go_ret2;exact ⟨rfl,(H1.out.then_alloc _).then_drewN _⟩
 ·go_wp2_with fail
  go_quiet (fail);go_wp2_with fail
  go_ret2;exact ⟨rfl,(H1.out.then_alloc _).then_drewN _⟩
set_option maxRecDepth 100000 in
set_option maxHeartbeats 2000000 in
theorem number_any {K:FuncId} {north:Bool} (hK:WayOk K north) (S:SetL) (A:Option Addr) (c d:Nat) (ap:Nat -> Int) (bf:Nat -> Nat × Bool) (w0 w:World) (g:Nat) (bk:Bool) (hW:WorkAt w0 w d S A c ap bf) (hg:g < S.J.length) (hnum:∀ j ∈ S.J,-1000000 <= way1 north j /\ way1 north j <= 1000000) :
  Calls Tryz.prog 97 #[.pointer (some ⟨d,0,none⟩),.agg #[.int .i64 (g:Nat),.bool bk],.agg #[.func (.func K) #[] #[]]] w fun e w'=>e = .returned (.int .i64 (numI north S.J[g] bk)) /\ Aft w w':=by
 have hlen:=hW.js.len;have hrun:=hK.runs;have hbd:=hnum _ (List.getElem_mem hg);obtain ⟨b,o,rfl,hb,hc⟩:=hW.js.at hg;obtain ⟨x0,x1,x2,x3⟩:=hc g hg;have hin:(0:Int) <= (g:Int) /\ (g:Int) < (S.J.length:Int):=by omega
 obtain ⟨W2,hW2⟩:∃ W2,(w.alloc (.cells #[.int .i64 (g:Nat),.bool bk] 34)).alloc (.cells #[.func (.func K) #[] #[]] 101) = W2:=⟨_,rfl⟩;have h2:Aft w W2:=hW2 ▸ (Aft.alloc _ _).then_alloc _;have HB:=Lib.hid (hW2 ▸ (Blk.new w 34 #[.int .i64 (g:Nat),.bool bk]).alloc (.cells #[.func (.func K) #[] #[]] 101));have hY:=Blk.new (w.alloc (.cells #[.int .i64 (g:Nat),.bool bk] 34)) 101 #[.func (.func K) #[] #[]];rw [hW2,World.size_alloc] at hY;have HY:=Lib.hid hY;have H2:=Lib.hid h2;have HK:Hid (∀ W,Aft W2 W -> W.cell? ⟨d,1,none⟩ = some (.slice (some ⟨b,o,none⟩) S.J.length c)):=Lib.hid fun W h=>cellA hW.k1 hW.lt (h2.trans h)
 have HX:Hid (∀ W,Aft W2 W -> W.cell? ⟨b,o + g * 4,none⟩ = some (.int .i64 S.J[g].a) /\ W.cell? ⟨b,o + g * 4 + 1,none⟩ = some (.int .i64 S.J[g].b) /\ W.cell? ⟨b,o + g * 4 + 2,none⟩ = some (.int .i64 S.J[g].x) /\ W.cell? ⟨b,o + g * 4 + 3,none⟩ = some (.int .i64 S.J[g].y)) :=
  Lib.hid fun W h=>⟨cellA x0 hb (h2.trans h),cellA x1 hb (h2.trans h),cellA x2 hb (h2.trans h),cellA x3 hb (h2.trans h)⟩
 unfold numI;generalize S.J[g] = q at *;obtain ⟨qa,qb,qx,qy⟩:=q;dsimp only at HX ⊢;have HOF:=Lib.hid (hK.of qa qb qx qy);obtain ⟨r,hr⟩:∃ r,way1 north ⟨qa,qb,qx,qy⟩ = r:=⟨_,rfl⟩;rw [hr] at hbd HOF ⊢;obtain ⟨z1,hz1⟩:∃ z1,w.heap.size + 1 = z1:=⟨_,rfl⟩;rw [hz1] at HY;have k1:=(HB.out.cell 1);have hzlt:=HB.out.lt;simp only [List.getElem?_toArray,List.getElem?_cons_zero,List.getElem?_cons_succ] at k1;clear x0 x1 x2 x3 hc hW h2 hY hnum hr hK;cases bk
 ·go_enter Tryz.func97,Tryz.ntmps97;go_upto_region 1 with fail
  generalize hs:w.heap.size = z at *;clear hW2 hs hz1;go_upto_region 3 with fail
  clear k1;refine wp_region_valsT (by kernel_rfl) 11 34 rfl (by kernel_rfl) (by kernel_rfl) (by kernel_rfl) [.pointer (some ⟨z1,0,none⟩),.func (.func K) #[] #[],.pointer (some ⟨d,0,none⟩),.pointer (some ⟨d,0,none⟩),.pointer (some ⟨d,0,none⟩),.pointer (some ⟨d,1,none⟩),.slice (some ⟨b,o,none⟩) S.J.length c,.pointer (some ⟨z,0,none⟩),.int .i64 (g:Nat),.pointer (some ⟨b,o + g * 4,none⟩),.agg #[.int .i64 qa,.int .i64 qb,.int .i64 qx,.int .i64 qy]] rfl (fun _ W=>Aft W2 W) (Aft.drew _) ?st2 ?fi2
  case st2 =>
   intro i o v ho hv
   match i,ho,hv with
   | 0,ho,hv =>
    cases ho;cases hv;refine .inl ⟨rfl,fun done a W hd hp hk hw K hK=>?_⟩;have e5:=hk.same 5 (by decide);exact op_val (by simp [go_sem,ev' e5]) (hK _ hw)
   | 1,ho,hv =>
    cases ho;cases hv;refine .inl ⟨rfl,fun done a W hd hp hk hw K hK=>?_⟩;have e22:=hk.at_ 0 _ 22 _ rfl (by decide) _ rfl rfl rfl;exact op_val (by simp [go_sem,ev' e22,(HY.out.aft hw).cell 0]) (hK _ hw)
   | 2,ho,hv =>
    cases ho;cases hv;refine .inl ⟨rfl,fun done a W hd hp hk hw K hK=>?_⟩;have e0:=hk.same 0 (by decide);exact op_val (by simp [go_sem,ev' e0]) (hK _ hw)
   | 3,ho,hv =>
    cases ho;cases hv;refine .inl ⟨rfl,fun done a W hd hp hk hw K hK=>?_⟩;have e24:=hk.at_ 2 _ 24 _ rfl (by decide) _ rfl rfl rfl;exact op_val (by simp [go_sem,ev' e24]) (hK _ hw)
   | 4,ho,hv =>
    cases ho;cases hv;refine .inl ⟨rfl,fun done a W hd hp hk hw K hK=>?_⟩;have e25:=hk.at_ 3 _ 25 _ rfl (by decide) _ rfl rfl rfl;exact op_val (by simp [go_sem,ev' e25]) (hK _ hw)
   | 5,ho,hv =>
    cases ho;cases hv;refine .inl ⟨rfl,fun done a W hd hp hk hw K hK=>?_⟩;have e26:=hk.at_ 4 _ 26 _ rfl (by decide) _ rfl rfl rfl;exact op_val (by simp [go_sem,ev' e26]) (hK _ hw)
   | 6,ho,hv =>
    cases ho;cases hv;refine .inl ⟨rfl,fun done a W hd hp hk hw K hK=>?_⟩;have e27:=hk.at_ 5 _ 27 _ rfl (by decide) _ rfl rfl rfl;exact op_val (by simp [go_sem,ev' e27,HK.out W hw]) (hK _ hw)
   | 7,ho,hv =>
    cases ho;cases hv;refine .inl ⟨rfl,fun done a W hd hp hk hw K hK=>?_⟩;have e4:=hk.same 4 (by decide);exact op_val (by simp [go_sem,ev' e4]) (hK _ hw)
   | 8,ho,hv =>
    cases ho;cases hv;refine .inl ⟨rfl,fun done a W hd hp hk hw K hK=>?_⟩;have e29:=hk.at_ 7 _ 29 _ rfl (by decide) _ rfl rfl rfl;exact op_val (by simp [go_sem,ev' e29,(HB.out.aft hw).cell 0]) (hK _ hw)
   | 9,ho,hv =>
    cases ho;cases hv;refine .inl ⟨rfl,fun done a W hd hp hk hw K hK=>?_⟩;have e28:=hk.at_ 6 _ 28 _ rfl (by decide) _ rfl rfl rfl;have e30:=hk.at_ 8 _ 30 _ rfl (by decide) _ rfl rfl rfl;exact op_val (by simp [go_sem,ev' e28,ev' e30,hin]) (hK _ hw)
   | 10,ho,hv =>
    cases ho;cases hv;refine .inl ⟨rfl,fun done a W hd hp hk hw K hK=>?_⟩;have e31:=hk.at_ 9 _ 31 _ rfl (by decide) _ rfl rfl rfl;exact op_val (by simp [go_sem,ev' e31,(HX.out W hw).1,(HX.out W hw).2.1,(HX.out W hw).2.2.1,(HX.out W hw).2.2.2]) (hK _ hw)
   | _ + 11,_,hv=>cases hv
  intro done W hd hw;simp only [List.drop_succ_cons,List.drop_zero,List.zip_cons_cons,List.zip_nil_right,putAll];simp only [Act.put,List.setIfInBounds_toArray,List.set];clear hd;have h9:=H2.out.trans hw;have H9:=Lib.hid h9;clear hw h9 HB HX HK HY;go_wp2_with (refine (HOF.out _).mono ?_;rintro e w9 ⟨rfl,rfl⟩)
  go_ret;exact ⟨rfl,H9.out.then_alloc _⟩
 ·go_enter Tryz.func97,Tryz.ntmps97;go_upto_region 1 with fail
  generalize hs:w.heap.size = z at *;clear hW2 hs hz1;go_upto_region 2 with fail
  clear k1;refine wp_region_valsT (by kernel_rfl) 11 34 rfl (by kernel_rfl) (by kernel_rfl) (by kernel_rfl) [.pointer (some ⟨z1,0,none⟩),.func (.func K) #[] #[],.pointer (some ⟨d,0,none⟩),.pointer (some ⟨d,0,none⟩),.pointer (some ⟨d,0,none⟩),.pointer (some ⟨d,1,none⟩),.slice (some ⟨b,o,none⟩) S.J.length c,.pointer (some ⟨z,0,none⟩),.int .i64 (g:Nat),.pointer (some ⟨b,o + g * 4,none⟩),.agg #[.int .i64 qa,.int .i64 qb,.int .i64 qx,.int .i64 qy]] rfl (fun _ W=>Aft W2 W) (Aft.drew _) ?st3 ?fi3
  case st3 =>
   intro i o v ho hv
   match i,ho,hv with
   | 0,ho,hv =>
    cases ho;cases hv;refine .inl ⟨rfl,fun done a W hd hp hk hw K hK=>?_⟩;have e5:=hk.same 5 (by decide);exact op_val (by simp [go_sem,ev' e5]) (hK _ hw)
   | 1,ho,hv =>
    cases ho;cases hv;refine .inl ⟨rfl,fun done a W hd hp hk hw K hK=>?_⟩;have e9:=hk.at_ 0 _ 9 _ rfl (by decide) _ rfl rfl rfl;exact op_val (by simp [go_sem,ev' e9,(HY.out.aft hw).cell 0]) (hK _ hw)
   | 2,ho,hv =>
    cases ho;cases hv;refine .inl ⟨rfl,fun done a W hd hp hk hw K hK=>?_⟩;have e0:=hk.same 0 (by decide);exact op_val (by simp [go_sem,ev' e0]) (hK _ hw)
   | 3,ho,hv =>
    cases ho;cases hv;refine .inl ⟨rfl,fun done a W hd hp hk hw K hK=>?_⟩;have e11:=hk.at_ 2 _ 11 _ rfl (by decide) _ rfl rfl rfl;exact op_val (by simp [go_sem,ev' e11]) (hK _ hw)
   | 4,ho,hv =>
    cases ho;cases hv;refine .inl ⟨rfl,fun done a W hd hp hk hw K hK=>?_⟩;have e12:=hk.at_ 3 _ 12 _ rfl (by decide) _ rfl rfl rfl;exact op_val (by simp [go_sem,ev' e12]) (hK _ hw)
   | 5,ho,hv =>
    cases ho;cases hv;refine .inl ⟨rfl,fun done a W hd hp hk hw K hK=>?_⟩;have e13:=hk.at_ 4 _ 13 _ rfl (by decide) _ rfl rfl rfl;exact op_val (by simp [go_sem,ev' e13]) (hK _ hw)
   | 6,ho,hv =>
    cases ho;cases hv;refine .inl ⟨rfl,fun done a W hd hp hk hw K hK=>?_⟩;have e14:=hk.at_ 5 _ 14 _ rfl (by decide) _ rfl rfl rfl;exact op_val (by simp [go_sem,ev' e14,HK.out W hw]) (hK _ hw)
   | 7,ho,hv =>
    cases ho;cases hv;refine .inl ⟨rfl,fun done a W hd hp hk hw K hK=>?_⟩;have e4:=hk.same 4 (by decide);exact op_val (by simp [go_sem,ev' e4]) (hK _ hw)
   | 8,ho,hv =>
    cases ho;cases hv;refine .inl ⟨rfl,fun done a W hd hp hk hw K hK=>?_⟩;have e16:=hk.at_ 7 _ 16 _ rfl (by decide) _ rfl rfl rfl;exact op_val (by simp [go_sem,ev' e16,(HB.out.aft hw).cell 0]) (hK _ hw)
   | 9,ho,hv =>
    cases ho;cases hv;refine .inl ⟨rfl,fun done a W hd hp hk hw K hK=>?_⟩;have e15:=hk.at_ 6 _ 15 _ rfl (by decide) _ rfl rfl rfl;have e17:=hk.at_ 8 _ 17 _ rfl (by decide) _ rfl rfl rfl;exact op_val (by simp [go_sem,ev' e15,ev' e17,hin]) (hK _ hw)
   | 10,ho,hv =>
    cases ho;cases hv;refine .inl ⟨rfl,fun done a W hd hp hk hw K hK=>?_⟩;have e18:=hk.at_ 9 _ 18 _ rfl (by decide) _ rfl rfl rfl;exact op_val (by simp [go_sem,ev' e18,(HX.out W hw).1,(HX.out W hw).2.1,(HX.out W hw).2.2.1,(HX.out W hw).2.2.2]) (hK _ hw)
   | _ + 11,_,hv=>cases hv
  intro done W hd hw;simp only [List.drop_succ_cons,List.drop_zero,List.zip_cons_cons,List.zip_nil_right,putAll];simp only [Act.put,List.setIfInBounds_toArray,List.set];clear hd;have h9:=H2.out.trans hw;have H9:=Lib.hid h9;clear hw h9 HB HX HK HY;go_wp2_with (refine (HOF.out _).mono ?_;rintro e w9 ⟨rfl,rfl⟩)
  go_ret;exact ⟨rfl,H9.out.then_alloc _⟩
end Go.Proofs
end
section
/- Walks: legs,the iterator over the legs that begin at a sheet. -/
namespace Go.Proofs
open Go.RowKit
attribute [local go_sem] Oper.semAt_some
def fromQ (J:List Q4) (g:Nat × Bool):Int:=match J[g.1]? with | some j=>fromI j g.2 | none=>-1
def gOf (m:Nat):Nat × Bool:=(m / 2,decide (m % 2 = 1))
def gB (J:List Q4) (s:Int) (g:Nat × Bool):Bool:=decide (fromQ J g = s)
def legsTo (J:List Q4) (s:Int) (m:Nat):List (Nat × Bool):=((List.range m).map gOf).filter (gB J s)
def legsOf (J:List Q4) (s:Int):List (Nat × Bool):=legsTo J s (2 * J.length)
theorem legsTo_succ (J:List Q4) (s:Int) (m:Nat):legsTo J s (m + 1) = legsTo J s m ++ if gB J s (gOf m) then [gOf m] else []:=by
 unfold legsTo;rw [List.range_succ,List.map_append,List.filter_append]
 congr 1
 by_cases e:gB J s (gOf m) = true
 ·simp [e]
 ·simp [e]
theorem legsTo_get (J:List Q4) (s:Int) (m:Nat) (h:m < 2 * J.length) (he:gB J s (gOf m) = true):(legsOf J s)[(legsTo J s m).length]? = some (gOf m):=by
 have e:∀ n,m + 1 <= n -> ∃ r,legsTo J s n = legsTo J s (m + 1) ++ r:=by
  intro n hn
  induction n with
  | zero=>omega
  | succ n ih =>
   by_cases e:m + 1 = n + 1
   ·exact ⟨[],by rw [e,List.append_nil]⟩
   ·obtain ⟨r,hr⟩:=ih (by omega);exact ⟨r ++ _,by rw [legsTo_succ,hr,List.append_assoc]⟩
 obtain ⟨r,hr⟩:=e (2 * J.length) (by omega);unfold legsOf;rw [hr,legsTo_succ,if_pos he,List.append_assoc,List.getElem?_append_right (Nat.le_refl _),Nat.sub_self];rfl
theorem gOf_even (i:Nat):gOf (2 * i) = (i,false):=by unfold gOf;rw [Nat.mul_div_cancel_left _ (by decide),Nat.mul_mod_right];rfl
theorem gOf_odd (i:Nat):gOf (2 * i + 1) = (i,true):=by
 unfold gOf;rw [show (2 * i + 1) / 2 = i by omega,show (2 * i + 1) % 2 = 1 by omega];rfl
theorem mem_legsOf {J:List Q4} {s:Int} {g:Nat × Bool}:g ∈ legsOf J s ↔ g.1 < J.length /\ fromQ J g = s:=by
 unfold legsOf legsTo gB;rw [List.mem_filter,List.mem_map,decide_eq_true_eq];constructor
 ·rintro ⟨⟨m,hm,rfl⟩,h⟩;rw [List.mem_range] at hm;exact ⟨by show m / 2 < _;omega,h⟩
 ·rintro ⟨h1,h2⟩;refine ⟨?_,h2⟩;obtain ⟨i,b⟩:=g;cases b
  ·exact ⟨2 * i,List.mem_range.2 (by show 2 * i < _;have:i < _:=h1;omega),gOf_even i⟩
  ·exact ⟨2 * i + 1,List.mem_range.2 (by have:i < _:=h1;omega),gOf_odd i⟩
def RepL (w0:World) (bw bs d:Nat) (S:SetL) (A:Option Addr) (c:Nat) (s:Int) (W:World):Prop :=
 W.cell? ⟨bw,0,none⟩ = some (.pointer (some ⟨d,0,none⟩)) /\ W.cell? ⟨bs,0,none⟩ = some (.int .i64 s) /\ bw < W.heap.size /\ bs < W.heap.size /\ ∃ ap bf,WorkAt w0 W d S A c ap bf
def gV (g:Nat × Bool):Value:=.agg #[.int .i64 (g.1:Nat),.bool g.2]
def GivesL (L:List (Nat × Bool)) (k:Nat) (_ _:World) (v:Value):Prop:=∃ g,L[k]? = some g /\ v = gV g
def YieldL (J:Nat -> World -> Prop) (Jx:World -> Prop) (B k:Nat) (W1:World) (e:Ending) (W':World):Prop :=
 (e = .returned (.bool true) /\ J (k + 1) W' /\ W'.heap[B + 2]? = W1.heap[B + 2]? /\ W1.heap.size <= W'.heap.size) \/ (e = .returned (.bool false) /\ Jx W')
def IterL (J:Nat -> World -> Prop) (Jx:World -> Prop) (N:Nat) (e:Ending) (W:World):Prop:=(∃ v,e = .returned v) /\ (J N W \/ Jx W)
theorem legs_any (d:Nat) (s:Int) (w:World) :
  Calls Tryz.prog 119 #[.pointer (some ⟨d,0,none⟩),.int .i64 s] w fun e w'=>e = .returned (.func (.func 131) #[] #[.pointer (some ⟨w.heap.size,0,none⟩),.pointer (some ⟨w.heap.size + 1,0,none⟩)]) /\ w' = (w.alloc (.cells #[.pointer (some ⟨d,0,none⟩)] 91)).alloc (.cells #[.int .i64 s] 3):=by
 go_enter Tryz.func119,Tryz.ntmps119;go_wp2_with fail
 go_ret;exact ⟨rfl,rfl⟩
theorem runs_120 (args:Array Value) (w:World):(callFunc 131 args).run Tryz.prog w = .ok (.enter 131 args) w:=by simp [go_sem]
theorem idx186a (i:Nat) (w:World):(Instr.index 198 (.agg #[.int .i64 i,.bool false,.int .i64 i,.bool true]) (.int .i64 0)).run Tryz.prog w = .ok (.agg #[.int .i64 i,.bool false]) w:=by kernel_rfl
theorem idx186b (i:Nat) (w:World):(Instr.index 198 (.agg #[.int .i64 i,.bool false,.int .i64 i,.bool true]) (.int .i64 1)).run Tryz.prog w = .ok (.agg #[.int .i64 i,.bool true]) w:=by kernel_rfl
theorem idx186 (i:Nat) (k:Nat) (hk:k < 2) (w:World):(Instr.index 198 (.agg #[.int .i64 i,.bool false,.int .i64 i,.bool true]) (.int .i64 k)).run Tryz.prog w = .ok (.agg #[.int .i64 i,.bool (decide (k = 1))]) w:=by
 have h:k = 0 \/ k = 1:=by omega
 rcases h with rfl | rfl
 ·exact idx186a i w
 ·exact idx186b i w
theorem gOf_add (i k:Nat) (hk:k < 2):gOf (2 * i + k) = (i,decide (k = 1)):=by
 match k,hk with
 | 0,_=>exact gOf_even i
 | 1,_=>exact gOf_odd i
set_option maxRecDepth 100000 in
set_option maxHeartbeats 4000000 in
theorem iter120 (fu:Nat) (w0:World) (bw bs d B:Nat) (S:SetL) (A:Option Addr) (c:Nat) (s:Int) :
  IterOk fu 131 #[.pointer (some ⟨bw,0,none⟩),.pointer (some ⟨bs,0,none⟩)] B (legsOf S.J s).length (GivesL (legsOf S.J s)) (RepL w0 bw bs d S A c s):=by
 intro l J Jx W hsz hJ hrep hY h0;obtain ⟨k1,k2,k3,k4,f0,r0,hD⟩:=hrep 0 W h0;have hll:=hD.js.len;have d1:=hD.k1;have d2:=hD.lt;have HJ:=Lib.hid hJ;have HR:=Lib.hid hrep;have HY:Hid (∀ k v W0 W1,k < (legsOf S.J s).length -> J k W0 -> Aft W0 W1 -> B + 3 <= W0.heap.size -> GivesL (legsOf S.J s) k W0 W1 v -> YieldAt Fence.wide (fu - 1) Tryz.prog l #[v] W1 (YieldL J Jx B k W1)):=Lib.hid hY;have H0:=Lib.hid h0;have HT0:=Lib.hid (show legsTo S.J s (2 * 0) = [] from rfl);have HTE:=Lib.hid (show legsTo S.J s (2 * S.J.length) = legsOf S.J s from rfl);clear hJ hrep hY h0 hD;refine callsIn_wide.2 ?_;show Calls Tryz.prog 131 #[.func (.yield l) #[] #[],.pointer (some ⟨bw,0,none⟩),.pointer (some ⟨bs,0,none⟩)] W (IterL J Jx (legsOf S.J s).length);go_enter Tryz.func131,Tryz.ntmps131;go_wp2_with fail
 clear k1 k2 k3 k4 d1 d2;go_loopw [15] (fun i wr=>∃ k:Nat,i = .int .i64 k /\ k <= S.J.length /\ J (legsTo S.J s (2 * k)).length wr /\ B + 2 <= wr.heap.size) (fun i _=>S.J.length - (intOf i).toNat)
 case atStart=>exact ⟨0,rfl,by omega,by rw [HT0.out];exact H0.out,by omega⟩
 case round =>
  obtain ⟨i,rfl,hi,hj,hsz2⟩:=hrel;have HJK:=Lib.hid hj;clear hj;by_cases hil:i < S.J.length
  ·have HIL:=Lib.hid hil;go_upto_block 2 with fail
   refine wp_block ?_;obtain ⟨wo,rfl⟩:∃ wo:World,wo = wr:=⟨_,rfl⟩;go_loopw [23] (fun j wr=>∃ k:Nat,j = .int .i64 k /\ k <= 2 /\ J (legsTo S.J s (2 * i + k)).length wr /\ B + 2 <= wr.heap.size) (fun j _=>2 - (intOf j).toNat)
   case atStart=>exact ⟨0,rfl,by omega,HJK.out,hsz2⟩
   case round =>
    obtain ⟨k,rfl,hk,hj,hsz3⟩:=hrel;have HJ2:=Lib.hid hj;clear hj HJK;by_cases hk2:k < 2
    ·have hix:=idx186 i k hk2;have HSU:=Lib.hid (legsTo_succ S.J s (2 * i + k));have HGE:=Lib.hid (legsTo_get S.J s (2 * i + k) (by omega));have hgo:=gOf_add i k hk2;rw [hgo] at HSU HGE;clear hgo;obtain ⟨bk,hbk⟩:∃ bk,decide (k = 1) = bk:=⟨_,rfl⟩;rw [hbk] at hix HSU HGE;clear hbk;have hfr:fromQ S.J (i,bk) = fromI S.J[i] bk:=by unfold fromQ;rw [List.getElem?_eq_getElem hil];rfl
     have HFR:=Lib.hid hfr;obtain ⟨X0,hX0⟩:∃ X0,wr.alloc (.cells #[.int .i64 i,.bool bk] 34) = X0:=⟨_,rfl⟩;have hx0:Aft wr X0:=hX0 ▸ Aft.alloc _ _;have hsx:B + 3 <= X0.heap.size:=by rw [<- hX0,World.size_alloc];omega
     have HBX:=Lib.hid (hX0 ▸ Blk.new wr 34 #[.int .i64 i,.bool bk]);have HX0:=Lib.hid hx0
     have HRX:Hid (∀ X,Aft X0 X -> RepL w0 bw bs d S A c s X /\ J (legsTo S.J s (2 * i + k)).length X):=Lib.hid fun X h=>by
      have hj2:=HJ.out _ _ _ HJ2.out (only_of_aft (HX0.out.trans h) (some (B + 2)));exact ⟨HR.out _ _ hj2,hj2⟩
     have HEN:Hid (Calls Tryz.prog 36 #[.pointer (some ⟨d,0,none⟩),.agg #[.int .i64 (i:Nat),.bool bk]] X0 fun e w'=>e = .returned (.tuple #[.int .i64 (fromI S.J[i] bk),.int .i64 (intoI S.J[i] bk)]) /\ Aft X0 w'):=Lib.hid (by
      obtain ⟨ap,bf,hw⟩:=(HRX.out _ (Aft.refl _)).1.2.2.2.2;exact ends_any S A c d ap bf w0 X0 i bk hw hil)
     obtain ⟨k1,k2,k3,k4,-⟩:=(HRX.out _ (Aft.refl _)).1;have k5:=HBX.out.cell 0;have k6:=HBX.out.cell 1;have k7:=HBX.out.lt;simp only [List.getElem?_toArray,List.getElem?_cons_zero,List.getElem?_cons_succ] at k5 k6;obtain ⟨fr,hfr2⟩:∃ fr,fromI S.J[i] bk = fr:=⟨_,rfl⟩;obtain ⟨into,hin2⟩:∃ into,intoI S.J[i] bk = into:=⟨_,rfl⟩;rw [hfr2] at HFR HEN;rw [hin2] at HEN;clear hfr hfr2 hin2 hx0 hil;go_upto_region 6 with fail
     generalize hz:wr.heap.size = z at *;clear hX0 hz;go_upto_region 7 with (go_at_call 36;refine HEN.out.mono ?_;rintro e X ⟨rfl,u,rfl⟩)
     have hax:Aft X0 (X0.lat u):=⟨u,rfl⟩;have HXX:=Lib.hid (HRX.out _ hax);have hsX:B + 3 <= (X0.lat u).heap.size:=Nat.le_trans hsx hax.size;clear hax HEN HRX;by_cases hfs:fr = s
     ·have t1:(fr == s) = true:=by simpa using hfs
      have hgb:gB S.J s (i,bk) = true:=by unfold gB;rw [HFR.out];simpa using hfs
      have HSU2:Hid (legsTo S.J s (2 * i + k + 1) = legsTo S.J s (2 * i + k) ++ [(i,bk)]):=Lib.hid (by rw [HSU.out,if_pos hgb]);have HGE2:=Lib.hid (HGE.out hgb);have hlt3:(legsTo S.J s (2 * i + k)).length < (legsOf S.J s).length:=(List.getElem?_eq_some_iff.1 HGE2.out).1;obtain ⟨fn,tmps,assign,body,hy,hR⟩:=HY.out _ (.agg #[.int .i64 (i:Nat),.bool bk]) (X0.lat u) (X0.lat u) hlt3 HXX.out.2 (Aft.refl _) hsX ⟨(i,bk),HGE2.out,rfl⟩;have HRR:=Lib.hid hR;clear hR HSU HGE hgb hfs HGE2;refine (wpIn_wide (n:=fu)).1 ?_;gi_wp2_with fail
      refine ⟨(fun h=>by cases h),HRR.out.mono ?_⟩;rintro e W3 (⟨rfl,hJ3,hk3,hs3⟩ | ⟨rfl,hJx3⟩)
      ·have hs3':B + 3 <= W3.heap.size:=Nat.le_trans hsX hs3;have HJ4:Hid (J (legsTo S.J s (2 * i + k + 1)).length W3):=Lib.hid (by rw [HSU2.out,List.length_append];exact hJ3);clear hy HRR hJ3 hk3 hs3;gi_wp2_with fail
       go_wp2_with fail
       exact ⟨⟨k + 1,by go_num,by omega,HJ4.out,by omega⟩,by simp [intOf];omega⟩
      ·clear hy HRR;gi_wp2_with fail
       go_wp2_with fail
       go_end0;exact ⟨⟨_,rfl⟩,.inr hJx3⟩
     ·have t1:(fr == s) = false:=by simpa using hfs
      have HSU2:Hid (legsTo S.J s (2 * i + k + 1) = legsTo S.J s (2 * i + k)):=Lib.hid (by
       have hgb:gB S.J s (i,bk) = false:=by unfold gB;rw [HFR.out];simpa using hfs
       rw [HSU.out,hgb];simp)
      clear HSU HGE hfs;go_wp2_with fail
      exact ⟨⟨k + 1,by go_num,by omega,by rw [<- Nat.add_assoc,HSU2.out];exact HXX.out.2,by omega⟩,by simp [intOf];omega⟩
    ·obtain rfl:k = 2:=by omega
     have HJ3:Hid (J (legsTo S.J s (2 * (i + 1))).length wr):=HJ2;clear hk2;go_wp2_with fail
     exact ⟨⟨i + 1,by go_num,by omega,HJ3.out,by omega⟩,by simp [intOf];omega⟩
  ·obtain rfl:i = S.J.length:=by omega
   rw [HTE.out] at HJK;go_wp2_with fail
   go_end0;exact ⟨⟨_,rfl⟩,.inl HJK.out⟩
end Go.Proofs
end
section
/- Plain: a set's numbers as the program keeps them: rows of twelve. -/
namespace Go.Proofs
open Go.RowKit
def rowOf (n:Nat) (ap:Nat -> Int) (a:Nat) (c:Nat):Int:=if c < n then ap (12 * a + c) else Sheet.far
def byOf (bf:Nat -> Nat × Bool) (a:Nat) (c:Nat):Nat × Bool:=bf (12 * a + c)
theorem rowOf_set {n:Nat} {ap:Nat -> Int} {a c:Nat} (hc:c < n) (x:Int):rowOf n (updF ap (12 * a + c) x) a = Sheet.upd (rowOf n ap a) c x:=by
 funext i
 unfold rowOf updF Sheet.upd;by_cases e:i = c
 ·subst e;simp [hc]
 ·simp [e,show ¬ (12 * a + i = 12 * a + c) by omega]
theorem byOf_set {bf:Nat -> Nat × Bool} {a c:Nat} (g:Nat × Bool):byOf (updF bf (12 * a + c) g) a = Sheet.upd (byOf bf a) c g:=by
 funext i
 unfold byOf updF Sheet.upd;by_cases e:i = c
 ·subst e;simp
 ·simp [e,show ¬ (12 * a + i = 12 * a + c) by omega]
section
variable {S:SetL} {north:Bool}
theorem from_of (h:SetOk S) {g:Nat × Bool} (hg:g.1 < S.J.length):(Sheet.from_ (joOf north S.J) g:Int) = fromQ S.J g /\ Sheet.from_ (joOf north S.J) g < S.n.toNat:=by
 have h1:=h.ends _ (List.getElem_mem hg);have hq:fromQ S.J g = fromI S.J[g.1] g.2:=by unfold fromQ;rw [List.getElem?_eq_getElem hg]
 rw [hq];unfold Sheet.from_ fromI;rw [jo_of north S.J hg];cases g.2 <;> simp <;> omega
theorem into_of (h:SetOk S) {g:Nat × Bool} (hg:g.1 < S.J.length):(Sheet.into (joOf north S.J) g:Int) = intoI S.J[g.1] g.2 /\ Sheet.into (joOf north S.J) g < S.n.toNat:=by
 have h1:=h.ends _ (List.getElem_mem hg);unfold Sheet.into intoI;rw [jo_of north S.J hg];cases g.2 <;> simp <;> omega
theorem num_of {g:Nat × Bool} (hg:g.1 < S.J.length):Sheet.num (joOf north S.J) g = numI north S.J[g.1] g.2:=by
 unfold Sheet.num numI;rw [jo_of north S.J hg]
theorem way_le (h:SetOk S) (north:Bool):∀ j ∈ S.J,-1000000 <= way1 north j /\ way1 north j <= 1000000:=by
 intro j hj;have:=h.nums j hj;unfold way1;cases north
 ·exact this.1
 ·exact this.2
theorem num_le (h:SetOk S) {g:Nat × Bool} (hg:g.1 < S.J.length):-1000000 <= numI north S.J[g.1] g.2 /\ numI north S.J[g.1] g.2 <= 1000000:=by
 have:=way_le h north _ (List.getElem_mem hg);unfold numI;cases g.2 <;> simp <;> omega
structure PlayOk (N D:Int):Prop where
 d1:1 <= D
 d2:D <= 1000
 n1:0 <= N
 n2:N <= 1000000000
theorem wt_le (h:SetOk S) {N D:Int} (hp:PlayOk N D) {g:Nat × Bool} (hg:g.1 < S.J.length):-2000000000 <= Sheet.wt (joOf north S.J) D N g /\ Sheet.wt (joOf north S.J) D N g <= 2000000000:=by
 have h1:=num_le (north:=north) h hg;unfold Sheet.wt;rw [num_of hg];generalize numI north S.J[g.1] g.2 = x at *;have h2:x * D <= 1000000 * D:=Int.mul_le_mul_of_nonneg_right h1.2 (by have:=hp.d1;omega);have h3:-1000000 * D <= x * D:=Int.mul_le_mul_of_nonneg_right h1.1 (by have:=hp.d1;omega);have:=hp.d1;have:=hp.d2;have:=hp.n1;have:=hp.n2;omega
structure PsW (S:SetL) (north:Bool) (D N:Int) (a:Nat) (B0:Nat) (row0:Nat -> Int) (by0:Nat -> Nat × Bool) (ap0:Nat -> Int) (b:Nat) (tr:Nat × Bool -> Prop) (x:Int) (ap:Nat -> Int) (bf:Nat -> Nat × Bool):Prop where
 ps:Sheet.Ps S.n.toNat (joOf north S.J) D N a row0 by0 (rowOf S.n.toNat ap a) (byOf bf a) b tr
 at_:(x = -1 /\ rowOf S.n.toNat ap a = row0) \/ ∃ c:Nat,c < S.n.toNat /\ x = c /\ Sheet.opt (rowOf S.n.toNat ap a c) ≠ Sheet.opt (row0 c)
 rest:∀ i,i / 12 ≠ a -> ap i = ap0 i
 lens:Sheet.Lens (joOf north S.J) D N a (rowOf S.n.toNat ap a) B0
variable {D N:Int} {a B0:Nat} {row0:Nat -> Int} {by0:Nat -> Nat × Bool} {ap0:Nat -> Int} {b:Nat} {tr:Nat × Bool -> Prop} {x:Int} {ap:Nat -> Int} {bf:Nat -> Nat × Bool}
theorem PsW.small (h:PsW S north D N a B0 row0 by0 ap0 b tr x ap bf) (hS:SetOk S) (hp:PlayOk N D) (hB:B0 <= 200) {c:Nat} (hc:rowOf S.n.toNat ap a c ≠ Sheet.far):-400000000000 <= rowOf S.n.toNat ap a c /\ rowOf S.n.toNat ap a c <= 400000000000:=by
 have:=h.lens.small (M:=2000000000) (fun g hg=>wt_le hS hp (by rwa [joOf_len] at hg)) (by decide) hc;omega
theorem PsW.leave (h:PsW S north D N a B0 row0 by0 ap0 b tr x ap bf) {g:Nat × Bool} (hle:rowOf S.n.toNat ap a (Sheet.into (joOf north S.J) g) <= rowOf S.n.toNat ap a b + Sheet.wt (joOf north S.J) D N g):PsW S north D N a B0 row0 by0 ap0 b (fun y=>tr y \/ y = g) x ap bf :=
 ⟨h.ps.leave hle,h.at_,h.rest,h.lens⟩
theorem PsW.take (h:PsW S north D N a (B0 + 1) row0 by0 ap0 b tr x ap bf) (hS:SetOk S) {g:Nat × Bool} (hg:g.1 < S.J.length) (hf:Sheet.from_ (joOf north S.J) g = b) (hb:rowOf S.n.toNat ap a b ≠ Sheet.far)
  (hlt:rowOf S.n.toNat ap a b + Sheet.wt (joOf north S.J) D N g < rowOf S.n.toNat ap a (Sheet.into (joOf north S.J) g)) (hfar:rowOf S.n.toNat ap a b + Sheet.wt (joOf north S.J) D N g < Sheet.far)
  (hw:∃ l,l <= B0 /\ Sheet.Wk (Sheet.sc D N (Sheet.legs (joOf north S.J))) a b l (rowOf S.n.toNat ap a b)) :
  PsW S north D N a (B0 + 1) row0 by0 ap0 b (fun y=>tr y \/ y = g) (Sheet.into (joOf north S.J) g:Nat) (updF ap (12 * a + Sheet.into (joOf north S.J) g) (rowOf S.n.toNat ap a b + Sheet.wt (joOf north S.J) D N g)) (updF bf (12 * a + Sheet.into (joOf north S.J) g) g) /\
   rowOf S.n.toNat (updF ap (12 * a + Sheet.into (joOf north S.J) g) (rowOf S.n.toNat ap a b + Sheet.wt (joOf north S.J) D N g)) a b = rowOf S.n.toNat ap a b:=by
 have hi:=into_of (north:=north) hS hg;have hn2:=hS.n2;obtain ⟨h1,h2⟩:=h.ps.take (hS.ok north) (by rwa [joOf_len]) hf hb hlt hfar;have e:=rowOf_set (ap:=ap) (a:=a) hi.2 (rowOf S.n.toNat ap a b + Sheet.wt (joOf north S.J) D N g);have hne:=(hS.ok north).ne (g:=g) (by rwa [joOf_len]);refine ⟨⟨by rw [e,byOf_set];exact h1,.inr ⟨_,hi.2,rfl,by rw [e];exact h2⟩,fun i hi'=>?_,?_⟩,?_⟩
 ·unfold updF;rw [if_neg]
  ·exact h.rest i hi'
  ·intro e2;apply hi';omega
 ·rw [e];subst hf;exact h.lens.take (by rwa [joOf_len]) hw
 ·rw [e];unfold Sheet.upd;rw [if_neg];rw [<- hf];exact hne
theorem PsW.next (h:PsW S north D N a B0 row0 by0 ap0 b tr x ap bf) (hS:SetOk S) (hp:PlayOk N D) (hB:B0 <= 200) (hall:rowOf S.n.toNat ap a b ≠ Sheet.far -> ∀ g,g ∈ legsOf S.J b -> tr g):PsW S north D N a B0 row0 by0 ap0 (b + 1) (fun _=>False) x ap bf:=by
 refine ⟨h.ps.next fun hne=>⟨fun g hg hf=>hall hne g ?_,fun g hg hf=>?_⟩,h.at_,h.rest,h.lens⟩
 ·rw [joOf_len] at hg;have:=(from_of (north:=north) hS hg).1;rw [hf] at this;exact mem_legsOf.2 ⟨hg,this.symm⟩
 ·rw [joOf_len] at hg;have h1:=wt_le (north:=north) hS hp hg;have h2:=h.small hS hp hB hne;show _ < (36028797018963968:Int);omega
theorem PsW.more (h:PsW S north D N a B0 row0 by0 ap0 b tr x ap bf) {B:Nat} (hB:B0 <= B):PsW S north D N a B row0 by0 ap0 b tr x ap bf:=⟨h.ps,h.at_,h.rest,h.lens.more hB⟩
theorem PsW.start (h:Sheet.RowI (joOf north S.J) D N a (rowOf S.n.toNat ap a) (byOf bf a)) (hl:Sheet.Lens (joOf north S.J) D N a (rowOf S.n.toNat ap a) B0):PsW S north D N a B0 (rowOf S.n.toNat ap a) (byOf bf a) ap 0 (fun _=>False) (-1) ap bf :=
 ⟨Sheet.Ps.start h,.inl ⟨rfl,rfl⟩,fun _ _=>rfl,hl⟩
theorem PsW.congr (h:PsW S north D N a B0 row0 by0 ap0 b tr x ap bf) {tr':Nat × Bool -> Prop} (ht:∀ g,tr' g -> tr g):PsW S north D N a B0 row0 by0 ap0 b tr' x ap bf :=
 ⟨⟨h.ps.core,h.ps.mid,fun g hg=>h.ps.tried g (ht g hg)⟩,h.at_,h.rest,h.lens⟩
end
end Go.Proofs
end
section
/- Words: a range over an iterator,each round of which begins by laying memory. -/
namespace Go.Proofs
open Go.RowKit
theorem wpIn_range4 {g:Operand} {p:Tmp} {assign body:Code} {Q:Exit -> Act -> World -> Prop} {a:Act} {w:World} {n:Nat} {gf:Nat} {lb:Array Value} (hg:a.eval g = .func (.func gf) #[] lb) (eg:∀ args w,(callFunc gf args).run Tryz.prog w = .ok (.enter gf args) w)
  {N:Nat} {Gv:Nat -> World -> World -> Value -> Prop} {Rep:World -> Prop} (hseq:IterOk (n - 1) gf lb w.heap.size N Gv Rep)
  (I:Nat -> World -> Prop) (Ix:Code -> World -> Prop) (hI:Three w.heap.size I) (hIx:∀ c,Three w.heap.size (fun (_:Unit)=>Ix c)) (hrep:∀ k W,I k W -> Rep W) (h0:I 0 w) (a₁:World -> Value -> Act) (aw:World -> Value -> World) (haw:∀ W v,Aft W (aw W v))
  (hassign:∀ (l k:Nat) (v:Value) (W0 W:World) (K:Act -> World -> Prop),Gv k W0 W v -> K (a₁ W v) (aw W v) ->
   assign.wpIn (Fence.wide.inRound l) (n - 1 - 1) Tryz.prog (Exit.then K (fun _ _ _=>False)) { tmps:=a.tmps.setIfInBounds p v,defers:=[] } W)
  (hbody:∀ (l k:Nat) (v:Value) (W0 W:World),k < N -> I k W0 -> Aft W0 W -> w.heap.size + 3 <= W0.heap.size -> Gv k W0 W v -> ∀ X,(∃ o,X = (aw W v).putObj (w.heap.size + 1) o) -> body.wpIn (Fence.wide.inRound l) (n - 1 - 1) Tryz.prog (post3 w.heap.size I Ix (k + 1) X) (a₁ W v) X)
  (hdone:∀ (D:Nat) (W:World),w.heap.size = D -> I N W -> W.heap[D]? = some (.deferred (some [])) -> Q .normal { a with defers:={ target:=.collected D,args:=#[] } :: a.defers } W)
  (hstop:∀ (D:Nat) (c:Code) (W:World),w.heap.size = D -> Ix c W -> W.heap[D]? = some (.deferred (some [])) -> c.wpIn Fence.wide n Tryz.prog Q { a with defers:={ target:=.collected D,args:=#[] } :: a.defers } W) :
  (Code.rangeFunc g #[p] assign body).wpIn Fence.wide n Tryz.prog Q a w:=by
 refine wpIn_rangeFunc ?_;intro fn hfn;obtain ⟨rec,hrec⟩:∃ rec:LoopState -> Option Code -> Loop,rec = fun st pe=>{ state:=st,pending:=pe,fn,tmps:=a.tmps,params:=#[p],assign,body,defers:=w.heap.size }:=⟨_,rfl⟩
 obtain ⟨W1,hW1⟩:∃ W1,(w.alloc (.deferred (some []))).alloc (.loop (rec .ready none)) = W1:=⟨_,rfl⟩
 have hL1:W1.heap[w.heap.size + 1]? = some (.loop (rec .ready none)):=by
  rw [<- hW1];have:=World.alloc_heap_new (w.alloc (.deferred (some []))) (.loop (rec .ready none));rwa [World.size_alloc] at this
 have hK1:W1.heap[w.heap.size]? = some (.deferred (some [])):=by
  rw [<- hW1];exact (Below.heap_alloc _ _ _ (by simp)).trans (World.alloc_heap_new w _)
 have hs1:W1.heap.size = w.heap.size + 2:=by rw [<- hW1];simp
 have hI1:I 0 W1:=by
  have:=only_of_aft ((Aft.alloc w (.deferred (some []))).then_alloc (.loop (rec .ready none))) (some w.heap.size);rw [hW1] at this;exact hI _ _ _ _ h0 this (Nat.le_refl _) (by omega)
 refine ⟨w.heap.size + 1,[{ target:=.collected w.heap.size,args:=#[] }],W1,{ target:=.fn (.func gf) lb,args:=#[.func (.yield (w.heap.size + 1)) #[] #[]] },W1,gf,
  #[.func (.yield (w.heap.size + 1)) #[] #[]] ++ lb,W1,?_,?_,?_,?_,(fun h=>by cases h),?_⟩
 ·rw [<- hW1,hrec];exact run_enterLoop_outer _ _ _ _ _
 ·simp only [resolve,hg];simp [go_sem]
 ·intro f' hf';trivial
 ·simp [invoke,go_sem,eg]
 ·refine (hseq (w.heap.size + 1)
   (fun k W=>I k W /\ W.heap[w.heap.size + 1]? = some (.loop (rec .ready none)) /\ W.heap[w.heap.size]? = some (.deferred (some [])))
   (fun W=>∃ c,Ix c W /\ W.heap[w.heap.size + 1]? = some (.loop (rec .done (some c))) /\ W.heap[w.heap.size]? = some (.deferred (some [])))
   W1 hs1 ?_ (fun k W h=>hrep k W h.1) ?_ ⟨hI1,hL1,hK1⟩).mono ?_
  ·rintro k W W' ⟨hi,hl,hk⟩ hg';have hl1:=(Array.getElem?_eq_some_iff.1 hl).1;have hl0:=(Array.getElem?_eq_some_iff.1 hk).1;exact ⟨hI _ _ _ _ hi hg' (by omega) (Nat.le_refl _),(hg'.block _ hl1 (by simp)).trans hl,(hg'.block _ hl0 (by simp)).trans hk⟩
  ·rintro k v W0 W hkN ⟨hi,hl',hk'⟩ ha hB hgv;have hl:W.heap[w.heap.size + 1]? = some (.loop (rec .ready none)):=(ha.below.block _ (by omega)).trans hl';have hk:W.heap[w.heap.size]? = some (.deferred (some [])):=(ha.below.block _ (by omega)).trans hk';have hlt:w.heap.size + 1 < W.heap.size:=(Array.getElem?_eq_some_iff.1 hl).1;have hy:=run_yield (P:=Tryz.prog) (args:=#[v]) hl (by rw [hrec];rfl);rw [hrec] at hy;have hz:((#[p]:Array Tmp).zip #[v]).foldl (fun tmps (t,a)=>tmps.setIfInBounds t a) a.tmps = a.tmps.setIfInBounds p v:=by simp
   dsimp only at hy;rw [hz] at hy;refine ⟨fn,_,assign,body,hy,?_⟩;refine roundIn_of_wpIn hfn ?_;refine hassign _ k v W0 W _ hgv ?_;have hs0:=(haw W v).size;have hl'':(aw W v).heap[w.heap.size + 1]? = some (.loop (rec .ready none)):=((haw W v).below.block _ hlt).trans hl;have hk'':(aw W v).heap[w.heap.size]? = some (.deferred (some [])):=((haw W v).below.block _ (by omega)).trans hk;have h2'':(aw W v).heap[w.heap.size + 2]? = W.heap[w.heap.size + 2]?:=(haw W v).below.block _ (by have:=ha.size;omega);have hbody2:=hbody (w.heap.size + 1) k v W0 W;obtain ⟨Wa,hWa⟩:∃ Wa,aw W v = Wa:=⟨_,rfl⟩;rw [hWa] at hl'' hk'' h2'' hs0 hbody2 ⊢;have hlta:w.heap.size + 1 < Wa.heap.size:=(Array.getElem?_eq_some_iff.1 hl'').1;refine ⟨_,run_beginRound hl'' (by rw [hrec]),?_⟩;have hl2:(Wa.putObj (w.heap.size + 1) (.loop { rec .ready none with state:=.busy })).heap[w.heap.size + 1]? = some (.loop { rec .ready none with state:=.busy }):=World.putObj_heap_same hlta;have hk2:(Wa.putObj (w.heap.size + 1) (.loop { rec .ready none with state:=.busy })).heap[w.heap.size]? = some (.deferred (some [])):=(World.putObj_heap_other (by omega)).trans hk'';have hsz2:(Wa.putObj (w.heap.size + 1) (.loop { rec .ready none with state:=.busy })).heap.size = Wa.heap.size:=by simp [World.putObj]
   refine wpIn_mono (hbody2 hkN hi ha hB hgv _ ⟨_,rfl⟩) ?_;have fin:∀ (jump:Option Code) (W3:World),Kept3 w.heap.size (Wa.putObj (w.heap.size + 1) (.loop { rec .ready none with state:=.busy })) W3 ->
     (Instr.endRound (w.heap.size + 1) jump).run Tryz.prog W3 = .ok (.bool jump.isNone) (W3.putObj (w.heap.size + 1) (.loop (rec (if jump.isNone then .ready else .done) jump))) /\
     (W3.putObj (w.heap.size + 1) (.loop (rec (if jump.isNone then .ready else .done) jump))).heap[w.heap.size + 1]? = some (.loop (rec (if jump.isNone then .ready else .done) jump)) /\
     (W3.putObj (w.heap.size + 1) (.loop (rec (if jump.isNone then .ready else .done) jump))).heap[w.heap.size]? = some (.deferred (some [])) /\
     (W3.putObj (w.heap.size + 1) (.loop (rec (if jump.isNone then .ready else .done) jump))).heap[w.heap.size + 2]? = W.heap[w.heap.size + 2]? /\ W.heap.size <= (W3.putObj (w.heap.size + 1) (.loop (rec (if jump.isNone then .ready else .done) jump))).heap.size:=fun jump W3 hk3=>by
    have hl3:=(hk3.same _ (by omega) (by omega)).trans hl2;have:=run_endRound (P:=Tryz.prog) jump hl3;rw [hrec] at this ⊢;exact ⟨this,World.putObj_heap_same (Array.getElem?_eq_some_iff.1 hl3).1,(World.putObj_heap_other (by omega)).trans ((hk3.same _ (by omega) (by omega)).trans hk2),(World.putObj_heap_other (by omega)).trans (((hk3.same _ (by omega) (by omega)).trans (World.putObj_heap_other (by omega))).trans h2''),by have:=hk3.size;simp [World.putObj] at this ⊢;omega⟩
   rintro e a3 W3 hp
   cases e with
   | normal =>
    obtain ⟨hk3,hi3⟩:=hp;obtain ⟨hr,hl4,hk4,h5,h6⟩:=fin none W3 hk3;exact ⟨_,_,hr,.inl ⟨rfl,⟨hI _ _ _ _ hi3 (grownBy_putObj' _ _ _) (by omega) (by omega),hl4,hk4⟩,h5,h6⟩⟩
   | ret =>
    obtain ⟨hk3,hi3⟩:=hp;obtain ⟨hr,hl4,hk4,h5,h6⟩:=fin (some .ret) W3 hk3;exact ⟨_,_,hr,.inr ⟨rfl,.ret,hIx _ () _ _ _ hi3 (grownBy_putObj' _ _ _) (by omega) (by omega),hl4,hk4⟩⟩
   | exit id =>
    obtain ⟨hk3,hi3⟩:=hp;obtain ⟨hr,hl4,hk4,h5,h6⟩:=fin (some (.exit id)) W3 hk3;exact ⟨_,_,hr,.inr ⟨rfl,.exit id,hIx _ () _ _ _ hi3 (grownBy_putObj' _ _ _) (by omega) (by omega),hl4,hk4⟩⟩
   | goto t =>
    obtain ⟨hk3,hi3⟩:=hp;obtain ⟨hr,hl4,hk4,h5,h6⟩:=fin (some (.goto t)) W3 hk3;exact ⟨_,_,hr,.inr ⟨rfl,.goto t,hIx _ () _ _ _ hi3 (grownBy_putObj' _ _ _) (by omega) (by omega),hl4,hk4⟩⟩
   | panic ch=>exact hp.elim
   | outgrown=>exact hp.elim
  ·rintro e W2 ⟨⟨v,rfl⟩,(⟨hi,hl,hk⟩ | ⟨c,hi,hl,hk⟩)⟩
   ·exact ⟨none,_,by have:=run_endLoop (P:=Tryz.prog) hl (by rw [hrec];simp);rw [hrec] at this;exact this,hdone _ _ rfl (hI _ _ _ _ hi (grownBy_putObj' _ _ _) (by omega) (by omega)) ((World.putObj_heap_other (by omega)).trans hk)⟩
   ·exact ⟨some c,_,by have:=run_endLoop (P:=Tryz.prog) hl (by rw [hrec];simp);rw [hrec] at this;exact this,hstop _ c _ rfl (hIx c () _ _ _ hi (grownBy_putObj' _ _ _) (by omega) (by omega)) ((World.putObj_heap_other (by omega)).trans hk)⟩
end Go.Proofs
end
section
/- Words: own boxes beside a block that is written,and marks;a range over the legs of a sheet. -/
namespace Go
theorem leaves_marks {F:Fence} {n:Nat} {P:Program} {fn:Func} {tmps:Array Value} {R:Ending -> World -> Prop} (base:World):∀ (Ds:List Nat) (w:World),Aft base w -> (∀ D ∈ Ds,base.heap.size <= D /\ w.heap[D]? = some (.deferred (some []))) -> Ds.Nodup ->
  (∀ w',Aft base w' -> w'.heap.size = w.heap.size -> (∀ k,k ∉ Ds -> w'.heap[k]? = w.heap[k]?) -> ∃ v,(results fn tmps).run P w' = .ok v w' /\ R (.returned v) w') -> LeavesInM F n P fn tmps R (Ds.map fun D=>{ target:=.collected D,args:=#[] }) .returning w
 | [],w,ha,_,_,h=>h w ha rfl (fun _ _=>rfl)
 | D :: Ds,w,ha,hD,hn,h=>by
  have hd:=hD D List.mem_cons_self;have hsz:(w.putObj D (.deferred none)).heap.size = w.heap.size:=by simp [World.putObj]
  refine ⟨by simp,.inl ⟨D,_,rfl,run_takeDeferred hd.2,?_⟩⟩;refine leaves_marks base Ds (w.putObj D (.deferred none)) (ha.grown (grownBy_putObj' _ _ _) (fun k e=>by cases e;exact hd.1)) (fun D' hD'=>?_) (List.nodup_cons.1 hn).2 fun w' ha' hs' hw'=>h w' ha' (hs'.trans hsz) fun k hk=>?_
  ·have h1:=hD D' (List.mem_cons_of_mem _ hD');exact ⟨h1.1,(World.putObj_heap_other (fun e=>by subst e;exact (List.nodup_cons.1 hn).1 hD')).trans h1.2⟩
  ·rw [hw' k (fun h=>hk (List.mem_cons_of_mem _ h))];exact World.putObj_heap_other (fun e=>hk (by rw [e];exact List.mem_cons_self))
end Go
namespace Go.Proofs
open Go.RowKit
attribute [local go_sem] Oper.semAt_some
abbrev mark (D:Nat):Deferred:={ target:=.collected D,args:=#[] }
structure FrD (w:World) (d B:Nat) (bs:List (Nat × TypeId × Array Value)) (Ds:List Nat) (W:World):Prop where
 grow:w.grownBy W (some d)
 blks:∀ x ∈ bs,x.1 < B /\ w.heap.size <= x.1 /\ Blk W x.1 x.2.1 x.2.2
 size:B <= W.heap.size
 ge:w.heap.size <= B
 lt:d < w.heap.size
 marks:∀ D ∈ Ds,w.heap.size <= D /\ D < B /\ W.heap[D]? = some (.deferred (some []))
section
variable {w W W':World} {d B:Nat} {bs:List (Nat × TypeId × Array Value)} {Ds:List Nat}
theorem FrD.start (w:World) {d:Nat} (hd:d < w.heap.size):FrD w d w.heap.size [] [] w:=⟨only_refl _ _,(fun x hx=>by cases hx),Nat.le_refl _,Nat.le_refl _,hd,fun D hD=>by cases hD⟩
theorem FrD.alloc (h:FrD w d B bs Ds W) (hB:W.heap.size = B) (t:TypeId) (cs:Array Value):FrD w d (B + 1) (bs ++ [(B,t,cs)]) Ds (W.alloc (.cells cs t)) :=
 ⟨only_aft h.grow (Aft.alloc _ _),fun x hx=>by
  rcases List.mem_append.1 hx with hx | hx
  ·obtain ⟨h1,h2,h3⟩:=h.blks x hx;exact ⟨by omega,h2,h3.alloc _⟩
  ·rw [List.mem_singleton] at hx;subst hx;subst hB;exact ⟨by simp,h.ge,Blk.new _ _ _⟩,by rw [World.size_alloc];omega,by have:=h.ge;omega,h.lt,fun D hD=>let ⟨h1,h2,h3⟩:=h.marks D hD;⟨h1,by omega,(Below.heap_alloc _ _ D (Array.getElem?_eq_some_iff.1 h3).1).trans h3⟩⟩
theorem FrD.later (h:FrD w d B bs Ds W) (ha:Aft W W'):FrD w d B bs Ds W':=⟨only_aft h.grow ha,fun x hx=>let ⟨h1,h2,h3⟩:=h.blks x hx;⟨h1,h2,h3.aft ha⟩,Nat.le_trans h.size ha.size,h.ge,h.lt,fun D hD=>let ⟨h1,h2,h3⟩:=h.marks D hD;⟨h1,h2,(ha.below.block D (Array.getElem?_eq_some_iff.1 h3).1).trans h3⟩⟩
theorem only_trans2 {a b c:World} {d r:Nat} (h:a.grownBy b (some d)) (hg:b.grownBy c (some r)) (hr:r = d \/ a.heap.size <= r):a.grownBy c (some d) :=
 ⟨hg.os.trans h.os,hg.tape.trans h.tape,hg.output.trans h.output,Nat.le_trans h.size hg.size,fun i hi hne=>(hg.block i (Nat.lt_of_lt_of_le hi h.size) (fun e=>by
  rcases hr with rfl | hr
  ·exact hne e
  ·cases e;omega)).trans (h.block i hi hne)⟩
theorem FrD.grown (h:FrD w d B bs Ds W) {r:Nat} (hg:W.grownBy W' (some r)) (hr:r = d \/ B <= r):FrD w d B bs Ds W' :=
 ⟨only_trans2 h.grow hg (by rcases hr with h1 | h1;exact .inl h1;exact .inr (Nat.le_trans h.ge h1)),fun x hx=>let ⟨h1,h2,h3⟩:=h.blks x hx;⟨h1,h2,h3.grown hg (fun e=>by cases e;rcases hr with rfl | hr;(have:=h.lt;omega);omega)⟩,Nat.le_trans h.size hg.size,h.ge,h.lt,
  fun D hD=>let ⟨h1,h2,h3⟩:=h.marks D hD;⟨h1,h2,(hg.block D (Array.getElem?_eq_some_iff.1 h3).1 (fun e=>by cases e;rcases hr with rfl | hr;(have:=h.lt;omega);omega)).trans h3⟩⟩
theorem FrD.blk (h:FrD w d B bs Ds W) {g:Nat} {t:TypeId} {cs:Array Value} (hx:(g,t,cs) ∈ bs):Blk W g t cs:=(h.blks _ hx).2.2
theorem FrD.nth (h:FrD w d B bs Ds W) (i:Nat) {g:Nat} {t:TypeId} {cs:Array Value} (hx:bs[i]? = some (g,t,cs)):Blk W g t cs:=h.blk (List.mem_of_getElem? hx)
theorem FrD.sub (h:FrD w d B bs Ds W) {bs':List (Nat × TypeId × Array Value)} (hs:∀ x ∈ bs',x ∈ bs):FrD w d B bs' Ds W:=⟨h.grow,fun x hx=>h.blks x (hs x hx),h.size,h.ge,h.lt,h.marks⟩
theorem FrD.up (h:FrD w d B bs Ds W) {B':Nat} (hB:B <= B') (hs:B' <= W.heap.size):FrD w d B' bs Ds W :=
 ⟨h.grow,fun x hx=>⟨Nat.lt_of_lt_of_le (h.blks x hx).1 hB,(h.blks x hx).2⟩,hs,Nat.le_trans h.ge hB,h.lt,fun D hD=>let ⟨h1,h2,h3⟩:=h.marks D hD;⟨h1,by omega,h3⟩⟩
theorem FrD.store (h:FrD w d B bs Ds W) {g:Nat} {t:TypeId} {cs:Array Value} (hx:(g,t,cs) ∈ bs) (i:Nat) (v:Value) {bs':List (Nat × TypeId × Array Value)} (hs:∀ x ∈ bs',x = (g,t,cs.setIfInBounds i v) \/ (x ∈ bs /\ x.1 ≠ g)):FrD w d B bs' Ds (W.setCell ⟨g,i,none⟩ v) :=
 have hg:=only_setCell (only_refl W (some g)) (p:=⟨g,i,none⟩) (.inl rfl) v;have hx1:=h.blks _ hx
 ⟨only_trans2 h.grow hg (.inr hx1.2.1),fun x hx'=>by
  rcases hs x hx' with rfl | ⟨h1,h2⟩
  ·exact ⟨hx1.1,hx1.2.1,hx1.2.2.store i v⟩
  ·exact ⟨(h.blks _ h1).1,(h.blks _ h1).2.1,(h.blks _ h1).2.2.far (p:=⟨g,i,none⟩) h2 _⟩,by have:=h.size;simpa [World.setCell] using this,h.ge,h.lt,fun D hD=>by
  obtain ⟨h1,h2,h3⟩:=h.marks D hD;refine ⟨h1,h2,(Below.heap_setCell W ⟨g,i,none⟩ v D (fun e=>?_)).trans h3⟩;have e:D = g:=e;subst e;have:=hx1.2.2;unfold Blk at this;rw [h3] at this;cases this⟩
theorem FrD.cut {W0:World} {B0:Nat} {bs0:List (Nat × TypeId × Array Value)} {Ds0:List Nat} (h:FrD w d B bs Ds W) (h0:FrD w d B0 bs0 Ds0 W0) (hB:B0 <= B) (hs:∀ x ∈ bs,x.1 < B0):FrD w d B0 bs [] W :=
 ⟨h.grow,fun x hx=>⟨hs x hx,(h.blks x hx).2⟩,Nat.le_trans hB h.size,h0.ge,h.lt,fun D hD=>by cases hD⟩
theorem FrD.upM (h:FrD w d B bs [] W) {Ds:List Nat} (hm:∀ D ∈ Ds,w.heap.size <= D /\ W.heap[D]? = some (.deferred (some []))) {B':Nat} (hB:B <= B') (hs:W.heap.size = B'):FrD w d B' bs Ds W :=
 ⟨h.grow,fun x hx=>⟨Nat.lt_of_lt_of_le (h.blks x hx).1 hB,(h.blks x hx).2⟩,by omega,Nat.le_trans h.ge hB,h.lt,fun D hD=>⟨(hm D hD).1,by rw [<- hs];exact (Array.getElem?_eq_some_iff.1 (hm D hD).2).1,(hm D hD).2⟩⟩
end
def unI:Value -> Nat
 | .int _ n=>n.toNat
 | _=>0
def unB:Value -> Bool
 | .bool b=>b
 | _=>false
def unV:Value -> Nat × Bool
 | .agg c=>(unI (c.getD 0 undef),unB (c.getD 1 undef))
 | _=>(0,false)
theorem unV_gV (x:Nat × Bool):unV (gV x) = x:=by
 unfold gV unV;simp [unI,unB]
theorem wpIn_legs {g:Operand} {p:Tmp} {assign body:Code} {Q:Exit -> Act -> World -> Prop} {a:Act} {w:World} {n:Nat} {w0:World} {bw bs d:Nat} {S:SetL} {A:Option Addr} {c:Nat} {s:Int}
  (hg:a.eval g = .func (.func 131) #[] #[.pointer (some ⟨bw,0,none⟩),.pointer (some ⟨bs,0,none⟩)])
  (I:Nat -> World -> Prop) (hI:Three w.heap.size I) (hIa:∀ k W W',I k W -> Aft W W' -> I k W') (hrep:∀ k W,I k W -> RepL w0 bw bs d S A c s W) (h0:I 0 w) (a₁:Nat -> Nat × Bool -> Act)
  (hassign:∀ (l:Nat) (x:Nat × Bool) (W:World) (K:Act -> World -> Prop),K (a₁ W.heap.size x) (W.alloc (.cells #[.int .i64 (x.1:Nat),.bool x.2] 34)) ->
   assign.wpIn (Fence.wide.inRound l) (n - 1 - 1) Tryz.prog (Exit.then K (fun _ _ _=>False)) { tmps:=a.tmps.setIfInBounds p (.agg #[.int .i64 (x.1:Nat),.bool x.2]),defers:=[] } W)
  (hbody:∀ (l k:Nat) (x:Nat × Bool) (z:Nat) (W:World),(legsOf S.J s)[k]? = some x -> I k W -> w.heap.size + 3 <= z -> Blk W z 34 #[.int .i64 (x.1:Nat),.bool x.2] -> body.wpIn (Fence.wide.inRound l) (n - 1 - 1) Tryz.prog (post3 w.heap.size I (fun _ _=>False) (k + 1) W) (a₁ z x) W)
  (hdone:∀ (D:Nat) (W:World),w.heap.size = D -> I (legsOf S.J s).length W -> W.heap[D]? = some (.deferred (some [])) -> Q .normal { a with defers:={ target:=.collected D,args:=#[] } :: a.defers } W) :
  (Code.rangeFunc g #[p] assign body).wpIn Fence.wide n Tryz.prog Q a w:=by
 refine wpIn_range4 hg runs_120 (iter120 (n - 1) w0 bw bs d w.heap.size S A c s) I (fun _ _=>False) hI (fun _ _ _ _ _ h=>h.elim) hrep h0 (fun W v=>a₁ W.heap.size (unV v)) (fun W v=>W.alloc (.cells #[.int .i64 ((unV v).1:Nat),.bool (unV v).2] 34)) (fun W v=>Aft.alloc _ _)
  (fun l k v W0 W K hgv hK=>?_) (fun l k v W0 W hk hi ha hB hgv X hX=>?_) hdone (fun D c W _ h=>h.elim)
 ·obtain ⟨x,_,rfl⟩:=hgv;rw [unV_gV] at hK;exact hassign l x W K hK
 ·obtain ⟨x,hx,rfl⟩:=hgv;obtain ⟨o,rfl⟩:=hX;rw [unV_gV];have hz:w.heap.size + 3 <= W.heap.size:=Nat.le_trans hB ha.size;refine hbody l k x W.heap.size _ hx ?_ hz ?_
  ·exact hI _ _ _ _ (hIa _ _ _ hi (ha.then_alloc _)) (grownBy_putObj' _ _ _) (by omega) (by omega)
  ·exact (World.putObj_heap_other (by omega)).trans (Blk.new W 34 _)
end Go.Proofs
end
