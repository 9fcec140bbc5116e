/- Own texts, merged: Tk Tl Tm0. -/
import Derived.Test.YthegmhnaiabcpaaGreatF22
set_option linter.unusedSimpArgs false
set_option linter.unusedVariables false
set_option linter.unnecessarySimpa false
section
/- Walks: a range over pairs;levels. -/
namespace Go.Proofs
open Go.RowKit
attribute [local go_sem] Oper.semAt_some
def unP:Value -> Nat × Nat
 | .agg c=>(unI (c.getD 0 undef),unI (c.getD 1 undef))
 | _=>(0,0)
theorem unP_prV (i j:Nat):unP (.agg #[.int .i64 (i:Nat),.int .i64 (j:Nat)]) = (i,j):=by
 unfold unP;simp [unI]
theorem lt_of_idx {i j N M k:Nat} (e:k = i * M + j) (hk:k < N * M):i < N:=by
 refine Classical.byContradiction fun h=>?_
 have:=Nat.mul_le_mul_right M (show N <= i by omega);omega
theorem wpIn_pairs {g:Operand} {p:Tmp} {assign body:Code} {Q:Exit -> Act -> World -> Prop} {a:Act} {w:World} {n b1 b2 N M:Nat} (hN:N <= 1000) (hM:M <= 1000)
  (hg:a.eval g = .func (.func 111) #[] #[.pointer (some ⟨b1,0,none⟩),.pointer (some ⟨b2,0,none⟩)])
  (I:Nat -> World -> Prop) (Ix:Code -> World -> Prop) (hI:Two w.heap.size I) (hIx:∀ c,Two w.heap.size (fun (_:Unit)=>Ix c)) (hIa:∀ k W W',I k W -> Aft W W' -> I k W') (hrep:∀ k W,I k W -> RepP b1 b2 N M W) (h0:I 0 w) (a₁:Nat -> Nat -> Nat -> Act)
  (hassign:∀ (l i j:Nat) (W:World) (K:Act -> World -> Prop),K (a₁ W.heap.size i j) (W.alloc (.cells #[.int .i64 (i:Nat),.int .i64 (j:Nat)] 67)) ->
   assign.wpIn (Fence.wide.inRound l) (n - 1 - 1) Tryz.prog (Exit.then K (fun _ _ _=>False)) { tmps:=a.tmps.setIfInBounds p (.agg #[.int .i64 (i:Nat),.int .i64 (j:Nat)]),defers:=[] } W)
  (hbody:∀ (l i j z:Nat) (W:World),i < N -> j < M -> I (i * M + j) W -> w.heap.size + 2 <= z -> z < W.heap.size -> Blk W z 67 #[.int .i64 (i:Nat),.int .i64 (j:Nat)] -> l = w.heap.size + 1 -> (∃ r,W.heap[l]? = some (.loop r)) -> body.wpIn (Fence.wide.inRound l) (n - 1 - 1) Tryz.prog (post2 w.heap.size I Ix (i * M + j + 1) W) (a₁ z i j) W)
  (hdone:∀ (D:Nat) (W:World),w.heap.size = D -> I (N * M) W -> W.heap[D]? = some (.deferred (some [])) -> Q .normal { a with defers:={ target:=.collected D,args:=#[] } :: a.defers } W)
  (hstop:∀ (D:Nat) (c:Code) (W:World),w.heap.size = D -> Ix c W -> W.heap[D]? = some (.deferred (some [])) -> c.wpIn Fence.wide n Tryz.prog Q { a with defers:={ target:=.collected D,args:=#[] } :: a.defers } W) :
  (Code.rangeFunc g #[p] assign body).wpIn Fence.wide n Tryz.prog Q a w:=by
 refine wpIn_range5r hg runs_97 (iter97 (n - 1) b1 b2 N M w.heap.size hN hM) I Ix hI hIx hrep h0 (fun W v=>a₁ W.heap.size (unP v).1 (unP v).2) (fun W v=>W.alloc (.cells #[.int .i64 ((unP v).1:Nat),.int .i64 ((unP v).2:Nat)] 67)) (fun W v=>Aft.alloc _ _)
  (fun l k v W0 W K hgv hK=>?_) (fun l k v W0 W hk hi ha hB hgv X hX hl hr=>?_) hdone hstop
 ·obtain ⟨i,j,rfl,hj,rfl⟩:=hgv;rw [unP_prV] at hK;exact hassign l i j W K hK
 ·obtain ⟨i,j,rfl,hj,rfl⟩:=hgv;obtain ⟨o,rfl⟩:=hX;rw [unP_prV] at hr ⊢;dsimp only at hr ⊢;have hz:w.heap.size + 2 <= W.heap.size:=Nat.le_trans hB ha.size;refine hbody l i j W.heap.size _ (lt_of_idx rfl hk) hj ?_ hz (by simp [World.putObj]) ?_ hl hr
  ·exact hI _ _ _ _ (hIa _ _ _ hi (ha.then_alloc _)) (grownBy_putObj' _ _ _) (by omega) (by omega)
  ·exact (World.putObj_heap_other (by omega)).trans (Blk.new W 67 _)
theorem wpIn_pairs2 {g:Operand} {p:Tmp} {assign body:Code} {Q:Exit -> Act -> World -> Prop} {a:Act} {w:World} {n b1 b2 N M l₀:Nat} {r₀:Loop} (hl₀:w.heap[l₀]? = some (.loop r₀)) (hN:N <= 1000) (hM:M <= 1000)
  (hg:a.eval g = .func (.func 111) #[] #[.pointer (some ⟨b1,0,none⟩),.pointer (some ⟨b2,0,none⟩)])
  (I:Nat -> World -> Prop) (Ix:Code -> World -> Prop) (hI:One w.heap.size I) (hIx:∀ c,One w.heap.size (fun (_:Unit)=>Ix c)) (hIa:∀ k W W',I k W -> Aft W W' -> I k W') (hrep:∀ k W,I k W -> RepP b1 b2 N M W) (h0:I 0 w) (a₁:Nat -> Nat -> Nat -> Act)
  (hassign:∀ (l i j:Nat) (W:World) (K:Act -> World -> Prop),K (a₁ W.heap.size i j) (W.alloc (.cells #[.int .i64 (i:Nat),.int .i64 (j:Nat)] 67)) ->
   assign.wpIn (Fence.wide.inRound l) (n - 1 - 1) Tryz.prog (Exit.then K (fun _ _ _=>False)) { tmps:=a.tmps.setIfInBounds p (.agg #[.int .i64 (i:Nat),.int .i64 (j:Nat)]),defers:=[] } W)
  (hbody:∀ (l i j z:Nat) (W:World),i < N -> j < M -> I (i * M + j) W -> w.heap.size + 1 <= z -> z < W.heap.size -> Blk W z 67 #[.int .i64 (i:Nat),.int .i64 (j:Nat)] -> body.wpIn (Fence.wide.inRound l) (n - 1 - 1) Tryz.prog (post1 w.heap.size I Ix (i * M + j + 1) W) (a₁ z i j) W)
  (hdone:∀ W:World,I (N * M) W -> Q .normal a W)
  (hstop:∀ (c:Code) (W:World),Ix c W -> c.wpIn (Fence.wide.inRound l₀) n Tryz.prog Q a W) :
  (Code.rangeFunc g #[p] assign body).wpIn (Fence.wide.inRound l₀) n Tryz.prog Q a w:=by
 refine wpIn_range6 hl₀ hg runs_97 (iter97 (n - 1) b1 b2 N M (w.heap.size - 1) hN hM) I Ix hI hIx hrep h0 (fun W v=>a₁ W.heap.size (unP v).1 (unP v).2) (fun W v=>W.alloc (.cells #[.int .i64 ((unP v).1:Nat),.int .i64 ((unP v).2:Nat)] 67)) (fun W v=>Aft.alloc _ _)
  (fun l k v W0 W K hgv hK=>?_) (fun l k v W0 W hk hi ha hB hgv X hX=>?_) hdone hstop
 ·obtain ⟨i,j,rfl,hj,rfl⟩:=hgv;rw [unP_prV] at hK;exact hassign l i j W K hK
 ·obtain ⟨i,j,rfl,hj,rfl⟩:=hgv;obtain ⟨o,rfl⟩:=hX;rw [unP_prV];dsimp only;have hz:w.heap.size + 1 <= W.heap.size:=Nat.le_trans hB ha.size;refine hbody l i j W.heap.size _ (lt_of_idx rfl hk) hj ?_ hz (by simp [World.putObj]) ?_
  ·exact hI _ _ _ (hIa _ _ _ hi (ha.then_alloc _)) (grownBy_putObj' _ _ _)
  ·exact (World.putObj_heap_other (by omega)).trans (Blk.new W 67 _)
end Go.Proofs
end
section
/- Walks: levels. -/
namespace Go.Proofs
open Go.RowKit
attribute [local go_sem] Oper.semAt_some
def sameB (play:Int) (la lb:List (Int × Int)) (i k:Nat):Bool:=sameM play (la.getD i (0,0)) (lb.getD k (0,0))
structure LvI (w1:World) (s na m:Nat) (Sm:Nat -> Nat -> Bool) (i k:Nat) (Ds:List Nat) (n:Nat) (V:Nat × Nat -> Nat) (W:World):Prop where
 fr:FrD w1 s (s + 1 + 1) [(s + 1,160,#[.map (some s)])] [] W
 marks:∀ D ∈ Ds,w1.heap.size <= D /\ W.heap[D]? = some (.deferred (some []))
 nodup:Ds.Nodup
 map:MapP W s n V
 lv:Sheet.Lv Sm na m V i k
 out:∀ a b,m <= b -> V (a,b) = 0
 few:n <= (i * 30 + k) * 901
def LvJ (w1:World) (s na m z zb:Nat) (Sm:Nat -> Nat -> Bool) (i k:Nat) (Ds:List Nat) (n0:Nat) (r:Nat) (W:World):Prop :=
 ∃ n V,FrD w1 s (zb + 1 + 1) [(s + 1,160,#[.map (some s)]),(z,67,#[.int .i64 (i:Nat),.int .i64 (k:Nat)]),(zb,3,#[.int .i64 (i:Nat)]),(zb + 1,3,#[.int .i64 (k:Nat)])] Ds W /\ MapP W s n V /\ Sheet.LvIn Sm na m V i k r /\ (∀ a b,m <= b -> V (a,b) = 0) /\ n <= n0 + 1 + r
def LevelsR (play:Int) (la lb:List (Int × Int)) (w:World) (e:Ending) (w':World):Prop :=
 ∃ g n V,e = .returned (.map (some g)) /\ w.heap.size <= g /\ MapP w' g n V /\ Sheet.Levels (sameB play la lb) la.length lb.length (fun a b=>V (a,b)) /\ (∀ a b,a < la.length -> b < lb.length -> V (a,b) <= a + 1) /\ Aft w w'
set_option maxRecDepth 100000 in
set_option maxHeartbeats 4000000 in
theorem lv_body (play:Int) (la lb:List (Int × Int)) (A B:Option Addr) (ca cb x s z zb z9:Nat) (w1 X:World) (ix kx a0 b0 l:Nat) (Ds:List Nat) (n0:Nat) (hix:ix < la.length) (hkx:kx < lb.length) (hla:la.length <= 30) (hlb:lb.length <= 30) (ha:a0 < ix) (hb:b0 < kx) (hn0:n0 <= 900000) (h1:w1.heap.size = s + 1) (hzb:z < zb) (hz:s + 1 < z)
  (hI:LvJ w1 s la.length lb.length z zb (sameB play la lb) ix kx Ds n0 (a0 * kx + b0) X) (hz9:zb + 1 + 1 + 2 <= z9) (hB:Blk X z9 67 #[.int .i64 (a0:Nat),.int .i64 (b0:Nat)]) (u40 u41 u42 u43 u44 u45 u46 u47 u48 u49 u50 u51 u52:Value) :
  ((rfBody (Tryz.f81.body.getD .skip)).getD .skip).wpIn (Fence.wide.inRound l) (5 - 1 - 1) Tryz.prog (post2 (zb + 1 + 1) (LvJ w1 s la.length lb.length z zb (sameB play la lb) ix kx Ds n0) (fun _ _=>False) (a0 * kx + b0 + 1) X) { tmps:=#[.pointer (some ⟨x,0,none⟩),undef,.map none,.pointer (some ⟨s + 1,0,none⟩),.func (.func 87) #[.pointer (some ⟨x,0,none⟩)] #[],.int .i64 (ix:Nat),.int .i64 (kx:Nat),.pointer (some ⟨z,0,none⟩),.pointer (some ⟨z9,0,none⟩),.map (some s),.pointer (some ⟨x,0,none⟩),.func (.func 87) #[.pointer (some ⟨x,0,none⟩)] #[],.pointer (some ⟨x,0,none⟩),.pointer (some ⟨x,0,none⟩),.pointer (some ⟨x,0,none⟩),.slice A la.length ca,.int .i64 (la.length:Nat),.int .i64 (ix:Nat),.bool true,.int .i64 (ix:Nat),.pointer (some ⟨x,0,none⟩),.pointer (some ⟨x,0,none⟩),.pointer (some ⟨x,1,none⟩),.slice B lb.length cb,.int .i64 (lb.length:Nat),.int .i64 (kx:Nat),.bool true,.int .i64 (kx:Nat),.int .i64 (ix:Nat),.int .i64 (kx:Nat),.agg #[.int .i64 (ix:Nat),.int .i64 (kx:Nat)],.func (.func 87) #[.pointer (some ⟨x,0,none⟩)] #[],.agg #[.int .i64 (ix:Nat),.int .i64 (kx:Nat)],.bool true,.map (some s),.agg #[.int .i64 (ix:Nat),.int .i64 (kx:Nat)],.int .i64 (ix:Nat),.int .i64 (kx:Nat),.func (.func 111) #[] #[.pointer (some ⟨zb,0,none⟩),.pointer (some ⟨zb + 1,0,none⟩)],.agg #[.int .i64 (a0:Nat),.int .i64 (b0:Nat)],u40,u41,u42,u43,u44,u45,u46,u47,u48,u49,u50,u51,u52],defers:=[] } X:=by
 obtain ⟨n,V,hF,hM,hL,hO,hn⟩:=hI;have HF:=Lib.hid hF;have HM:=Lib.hid hM;have HL:=Lib.hid hL;have HO:=Lib.hid hO;have HB:=Lib.hid hB;have hsm:=(hL.done a0 b0 (by omega) (by omega) (.inl ha)).small;have hsm2:=hL.small
 have hab:a0 * kx + b0 <= 900:=by
  have h2:a0 * kx <= 29 * 30:=Nat.mul_le_mul (by omega) (by omega);omega
 have HK1:Hid (SmallP (ix,kx)):=Lib.hid ⟨by show ix < 32;omega,by show kx < 32;omega⟩;have HK2:Hid (SmallP (a0,b0)):=Lib.hid ⟨by show a0 < 32;omega,by show b0 < 32;omega⟩;have HLK1:Hid (∀ W,Aft X W -> (Instr.lookup 160 (.map (some s)) (.agg #[.int .i64 (ix:Nat),.int .i64 (kx:Nat)]) false).run Tryz.prog W = .ok (.int .i64 (V (ix,kx):Int)) W):=Lib.hid fun W h=>(HM.out.aft h).look HK1.out
 have HLK2:Hid (∀ W,Aft X W -> (Instr.lookup 160 (.map (some s)) (.agg #[.int .i64 (a0:Nat),.int .i64 (b0:Nat)]) false).run Tryz.prog W = .ok (.int .i64 (V (a0,b0):Int)) W):=Lib.hid fun W h=>(HM.out.aft h).look HK2.out
 obtain ⟨x1,hx1⟩:∃ x1,V (ix,kx) = x1:=⟨_,rfl⟩;obtain ⟨x2,hx2⟩:∃ x2,V (a0,b0) = x2:=⟨_,rfl⟩;obtain ⟨mx,hmx⟩:∃ mx,max x1 (x2 + 1) = mx:=⟨_,rfl⟩;have hmm:(if (x1:Int) < (x2:Int) + 1 then (x2:Int) + 1 else (x1:Int)) = (mx:Int):=by split <;> omega
 have HR:Hid (Sheet.LvIn (sameB play la lb) la.length lb.length (fun t=>if t = (ix,kx) then mx else V t) ix kx (a0 * kx + b0 + 1)):=Lib.hid (by
  have:=hL.round ha hb hix hkx;rw [hx1,hx2,hmx] at this;exact this)
 rw [hx1] at HLK1 hsm2;rw [hx2] at HLK2 hsm;have hmxs:mx <= 31:=by omega
 clear hF hM hL hO hB hx1 hx2 hmx;dsimp only [Tryz.f81,rfBody,Option.getD];have hw0:=Aft.refl X;refine wpIn_block ?_;refine wpIn_region_valsT (by kernel_rfl) (by kernel_rfl) 10 53 rfl (by kernel_rfl) (by kernel_rfl) (by kernel_rfl) [.map (some s),.agg #[.int .i64 (ix:Nat),.int .i64 (kx:Nat)],.map (some s),.agg #[.int .i64 (ix:Nat),.int .i64 (kx:Nat)],.int .i64 (x1:Nat),.map (some s),.agg #[.int .i64 (a0:Nat),.int .i64 (b0:Nat)],.int .i64 (x2:Nat),.int .i64 ((x2:Int) + 1),.int .i64 (mx:Nat)] rfl (fun _ W=>Aft X W) (Aft.drew _) ?st1 ?fi1
 case st1 =>
  intro i o v ho hv
  match i,ho,hv with
  | 0,ho,hv =>
   cases ho;cases hv;refine .inl ⟨rfl,fun done a W hd hp hk hw K hK=>?_⟩;have e3:=hk.same 3 (by decide);exact op_val (by simp [go_sem,ev' e3,((HF.out.later hw).nth 0 rfl).cell 0]) (hK _ hw)
  | 1,ho,hv =>
   cases ho;cases hv;refine .inl ⟨rfl,fun done a W hd hp hk hw K hK=>?_⟩;have e7:=hk.same 7 (by decide);exact op_val (by simp [go_sem,ev' e7,((HF.out.later hw).nth 1 rfl).cell 0,((HF.out.later hw).nth 1 rfl).cell 1]) (hK _ hw)
  | 2,ho,hv =>
   cases ho;cases hv;refine .inl ⟨rfl,fun done a W hd hp hk hw K hK=>?_⟩;have e3:=hk.same 3 (by decide);exact op_val (by simp [go_sem,ev' e3,((HF.out.later hw).nth 0 rfl).cell 0]) (hK _ hw)
  | 3,ho,hv =>
   cases ho;cases hv;refine .inl ⟨rfl,fun done a W hd hp hk hw K hK=>?_⟩;have e7:=hk.same 7 (by decide);exact op_val (by simp [go_sem,ev' e7,((HF.out.later hw).nth 1 rfl).cell 0,((HF.out.later hw).nth 1 rfl).cell 1]) (hK _ hw)
  | 4,ho,hv =>
   cases ho;cases hv;refine .inl ⟨rfl,fun done a W hd hp hk hw K hK=>?_⟩;have e42:=hk.at_ 2 _ 42 _ rfl (by decide) _ rfl rfl rfl;have e43:=hk.at_ 3 _ 43 _ rfl (by decide) _ rfl rfl rfl;exact op_val (by simp [go_sem,ev' e42,ev' e43,HLK1.out _ hw]) (hK _ hw)
  | 5,ho,hv =>
   cases ho;cases hv;refine .inl ⟨rfl,fun done a W hd hp hk hw K hK=>?_⟩;have e3:=hk.same 3 (by decide);exact op_val (by simp [go_sem,ev' e3,((HF.out.later hw).nth 0 rfl).cell 0]) (hK _ hw)
  | 6,ho,hv =>
   cases ho;cases hv;refine .inl ⟨rfl,fun done a W hd hp hk hw K hK=>?_⟩;have e8:=hk.same 8 (by decide);exact op_val (by simp [go_sem,ev' e8,(HB.out.aft hw).cell 0,(HB.out.aft hw).cell 1]) (hK _ hw)
  | 7,ho,hv =>
   cases ho;cases hv;refine .inl ⟨rfl,fun done a W hd hp hk hw K hK=>?_⟩;have e45:=hk.at_ 5 _ 45 _ rfl (by decide) _ rfl rfl rfl;have e46:=hk.at_ 6 _ 46 _ rfl (by decide) _ rfl rfl rfl;exact op_val (by simp [go_sem,ev' e45,ev' e46,HLK2.out _ hw]) (hK _ hw)
  | 8,ho,hv =>
   cases ho;cases hv;refine .inl ⟨rfl,fun done a W hd hp hk hw K hK=>?_⟩;have e47:=hk.at_ 7 _ 47 _ rfl (by decide) _ rfl rfl rfl;exact op_val (by simp [go_sem,ev' e47,IntWalk.i64_in ((x2:Int) + 1) (by omega)]) (hK _ hw)
  | 9,ho,hv =>
   cases ho;cases hv;refine .inl ⟨rfl,fun done a W hd hp hk hw K hK=>?_⟩;have e44:=hk.at_ 4 _ 44 _ rfl (by decide) _ rfl rfl rfl;have e48:=hk.at_ 8 _ 48 _ rfl (by decide) _ rfl rfl rfl;exact op_val (by simp [go_sem,ev' e44,ev' e48,hmm]) (hK _ hw)
  | _ + 10,_,hv=>cases hv
 intro done W hd hw;simp only [List.drop_succ_cons,List.drop_zero,List.zip_cons_cons,List.zip_nil_right,putAll];simp only [Act.put,List.setIfInBounds_toArray,List.set];clear hd;obtain ⟨w',hp1,hp2,hp3⟩:=(HM.out.aft hw).put HK1.out (by omega) mx (by omega);have hp1:(Instr.mapUpdate 160 (.map (some s)) (.agg #[.int .i64 (ix:Nat),.int .i64 (kx:Nat)]) (.int .i64 (mx:Nat))).run Tryz.prog W = .ok () w':=hp1;have HP2:=Lib.hid hp2;have HP3:=Lib.hid hp3;clear hp2 hp3;go_wp2_with fail
 have hk2:=Kept2.of_aft (B:=zb + 1 + 1) hw (by have:=HB.out.lt;omega);refine ⟨hk2.trans (Kept2.of_grown HP3.out (by have:=hk2.size;have:=HB.out.lt;omega) (fun r e=>by have e:s = r:=Option.some.inj e;left;omega)),n + 1,_,(HF.out.later hw).grown HP3.out (.inl rfl),HP2.out,HR.out,fun a b hb=>?_,by omega⟩;rw [if_neg (fun e=>by cases e;omega)];exact HO.out a b hb
set_option maxRecDepth 100000 in
set_option maxHeartbeats 4000000 in
theorem levels_any (play:Int) (la lb:List (Int × Int)) (A B:Option Addr) (ca cb x:Nat) (w0 w:World) (hE:EdgesAt w0 w x la lb play A B ca cb) (he:edgesE la lb play = 0) :
  Calls Tryz.prog 81 #[.pointer (some ⟨x,0,none⟩)] w (LevelsR play la lb w):=by
 obtain ⟨hla,hlb,hma,hmb,-,-,-⟩:=edgesE_ok he;obtain ⟨s,hs⟩:∃ s,w.heap.size = s:=⟨_,rfl⟩;obtain ⟨W1,hW1⟩:∃ W1,w.alloc (.map #[] 0) = W1:=⟨_,rfl⟩;have hs1:W1.heap.size = s + 1:=by rw [<- hW1,World.size_alloc,hs]
 have F0:=(FrD.start W1 (d:=s) (by omega)).alloc rfl 160 #[.map (some s)];simp only [List.nil_append] at F0;rw [hs1] at F0;have HA1:Hid (Aft w W1):=Lib.hid (hW1 ▸ Aft.alloc w _);have HM1:Hid (MapP W1 s 0 fun _=>0):=Lib.hid (by rw [<- hW1,<- hs];exact MapP.made w);have HE:=Lib.hid hE
 have HSM:Hid (∀ W (i k:Nat),Aft w W -> i < la.length -> k < lb.length -> Calls Tryz.prog 87 #[.pointer (some ⟨x,0,none⟩),.agg #[.int .i64 (i:Nat),.int .i64 (k:Nat)]] W fun e w'=>e = .returned (.bool (sameB play la lb i k)) /\ Aft W w'):=Lib.hid fun W i k ha hi hk=>by
  have:=same_any la lb play A B ca cb x w0 W (hE.later ha) i k hi hk (List.all_eq_true.1 hma _ (List.getElem_mem hi)) (List.all_eq_true.1 hmb _ (List.getElem_mem hk))
  have e:sameB play la lb i k = sameM play la[i] lb[k]:=by
   unfold sameB;rw [List.getD_eq_getElem?_getD,List.getD_eq_getElem?_getD,List.getElem?_eq_getElem hi,List.getElem?_eq_getElem hk];rfl
  rw [e];exact this
 obtain ⟨hx,-,-,-,-⟩:=hE;obtain ⟨W2,hW2⟩:∃ W2,W1.alloc (.cells #[.map (some s)] 160) = W2:=⟨_,rfl⟩;rw [hW2] at F0;have HA2:Hid (Aft w W2):=Lib.hid (HA1.out.trans (hW2 ▸ Aft.alloc W1 _));have hs2:W2.heap.size = s + 1 + 1:=by rw [<- hW2,World.size_alloc,hs1]
 have HI0:Hid (LvI W1 s la.length lb.length (sameB play la lb) 0 0 [] 0 (fun _=>0) W2):=Lib.hid ⟨F0,(fun D h=>by cases h),List.nodup_nil,HM1.out.aft (hW2 ▸ Aft.alloc W1 _),Sheet.Lv.start _ _ _,(fun _ _ _=>rfl),Nat.zero_le _⟩;have hx2:=hx.aft HA2.out;have k0:=hx2.cell 0;have k1:=hx2.cell 1;have kx:=hx2.lt;have HX:=Lib.hid hx;have hmm:=@run_makeMap Tryz.prog;clear F0 hx hx2 he hma hmb;refine (callsIn_wide (n:=5)).1 ?_;refine callsIn_of_wp_marks Tryz.func81 rfl trivial ?_ rfl;simp only [Tryz.ntmps81,List.size_toArray,List.length_cons,List.length_nil,Nat.reduceAdd,Nat.reduceSub,Array.replicate_succ,Array.replicate_zero,List.push_toArray,List.append_toArray,List.nil_append,List.cons_append];refine wpIn_wide.2 ?_;go_upto_block 0 with fail
 refine wp_block ?_;clear k0 k1 kx hmm;obtain ⟨J,hJ⟩:∃ J:Act -> World -> Prop,J = fun a9 W=>∃ (u5 u6 u7 u8 u18 u19 u20 u21 u22 u23 u24 u25 u26 u27 u28 u29 u30 u31 u32 u33 u34 u35 u36 u37 u38 u39 u40 u41 u42 u43 u44 u45 u46 u47 u48 u49 u50 u51 u52 i:Value) (ix:Nat) (Ds:List Nat) (n:Nat) (V:Nat × Nat -> Nat),a9 = { tmps:=#[.pointer (some ⟨x,0,none⟩),undef,.map none,.pointer (some ⟨s + 1,0,none⟩),.func (.func 87) #[.pointer (some ⟨x,0,none⟩)] #[],u5,u6,u7,u8,.map (some s),.pointer (some ⟨x,0,none⟩),.func (.func 87) #[.pointer (some ⟨x,0,none⟩)] #[],.pointer (some ⟨x,0,none⟩),.pointer (some ⟨x,0,none⟩),.pointer (some ⟨x,0,none⟩),.slice A la.length ca,.int .i64 (la.length:Nat),i,u18,u19,u20,u21,u22,u23,u24,u25,u26,u27,u28,u29,u30,u31,u32,u33,u34,u35,u36,u37,u38,u39,u40,u41,u42,u43,u44,u45,u46,u47,u48,u49,u50,u51,u52],defers:=Ds.map mark } /\ i = .int .i64 (ix:Nat) /\ ix <= la.length /\ LvI W1 s la.length lb.length (sameB play la lb) ix 0 Ds n V W:=⟨_,rfl⟩
 obtain ⟨mu,hmu⟩:∃ mu:Act -> World -> Nat,mu = fun a9 _=>la.length - (intOf (a9.tmps.getD 17 undef)).toNat:=⟨_,rfl⟩
 refine wp_loop J mu (by rw [hJ];exact ⟨_,_,_,_,_,_,_,_,_,_,_,_,_,_,_,_,_,_,_,_,_,_,_,_,_,_,_,_,_,_,_,_,_,_,_,_,_,_,_,_,0,[],0,_,rfl,rfl,Nat.zero_le _,HI0.out⟩) ?_;intro a9 wr hrel;rw [hJ] at hrel;have HJ:=Lib.hid hJ;have HMU:=Lib.hid hmu;clear hJ hmu HI0 HM1 hW1 hW2;obtain ⟨u5,u6,u7,u8,u18,u19,u20,u21,u22,u23,u24,u25,u26,u27,u28,u29,u30,u31,u32,u33,u34,u35,u36,u37,u38,u39,u40,u41,u42,u43,u44,u45,u46,u47,u48,u49,u50,u51,u52,i,ix,Ds,n,V,rfl,rfl,hix,hi⟩:=hrel;have HI:=Lib.hid hi;clear hi;by_cases hil:ix < la.length
 ·have t1:decide (ix < la.length) = true:=by simpa using hil
  have hgw:∀ W,W1.grownBy W (some s) -> Aft w W:=fun W h=>HA1.out.grown h (fun r e=>by have e:s = r:=Option.some.inj e;omega)
  have HGW:=Lib.hid hgw;have hx2:=HX.out.aft (hgw _ HI.out.fr.grow);have k1:=hx2.cell 1;have kx:=hx2.lt;clear hgw hx2;go_upto_block 2 with fail
  refine wp_block ?_;clear k1 kx t1;obtain ⟨J2,hJ2⟩:∃ J2:Act -> World -> Prop,J2 = fun a9 W=>∃ (u6 u7 u8 u26 u27 u28 u29 u30 u31 u32 u33 u34 u35 u36 u37 u38 u39 u40 u41 u42 u43 u44 u45 u46 u47 u48 u49 u50 u51 u52 i:Value) (kx:Nat) (Ds:List Nat) (n:Nat) (V:Nat × Nat -> Nat),a9 = { tmps:=#[.pointer (some ⟨x,0,none⟩),undef,.map none,.pointer (some ⟨s + 1,0,none⟩),.func (.func 87) #[.pointer (some ⟨x,0,none⟩)] #[],.int .i64 (ix:Nat),u6,u7,u8,.map (some s),.pointer (some ⟨x,0,none⟩),.func (.func 87) #[.pointer (some ⟨x,0,none⟩)] #[],.pointer (some ⟨x,0,none⟩),.pointer (some ⟨x,0,none⟩),.pointer (some ⟨x,0,none⟩),.slice A la.length ca,.int .i64 (la.length:Nat),.int .i64 (ix:Nat),.bool true,.int .i64 (ix:Nat),.pointer (some ⟨x,0,none⟩),.pointer (some ⟨x,0,none⟩),.pointer (some ⟨x,1,none⟩),.slice B lb.length cb,.int .i64 (lb.length:Nat),i,u26,u27,u28,u29,u30,u31,u32,u33,u34,u35,u36,u37,u38,u39,u40,u41,u42,u43,u44,u45,u46,u47,u48,u49,u50,u51,u52],defers:=Ds.map mark } /\ i = .int .i64 (kx:Nat) /\ kx <= lb.length /\ LvI W1 s la.length lb.length (sameB play la lb) ix kx Ds n V W:=⟨_,rfl⟩
  obtain ⟨mu2,hmu2⟩:∃ mu2:Act -> World -> Nat,mu2 = fun a9 _=>lb.length - (intOf (a9.tmps.getD 25 undef)).toNat:=⟨_,rfl⟩
  refine wp_loop J2 mu2 (by rw [hJ2];exact ⟨_,_,_,_,_,_,_,_,_,_,_,_,_,_,_,_,_,_,_,_,_,_,_,_,_,_,_,_,_,_,_,0,Ds,n,V,rfl,rfl,Nat.zero_le _,HI.out⟩) ?_;clear HI;intro a9 wr hrel;rw [hJ2] at hrel;have HJ2:=Lib.hid hJ2;have HMU2:=Lib.hid hmu2;clear hJ2 hmu2
  obtain ⟨u6,u7,u8,u26,u27,u28,u29,u30,u31,u32,u33,u34,u35,u36,u37,u38,u39,u40,u41,u42,u43,u44,u45,u46,u47,u48,u49,u50,u51,u52,i,kx,Ds,n,V,rfl,rfl,hkx,hi⟩:=hrel;have HI:=Lib.hid hi;clear hi;by_cases hkl:kx < lb.length
  ·have t1:decide (kx < lb.length) = true:=by simpa using hkl
   obtain ⟨z,hz⟩:∃ z,wr.heap.size = z:=⟨_,rfl⟩;have hzs:s + 1 + 1 <= z:=by have:=HI.out.fr.size;omega
   have F7:=(HI.out.fr.upM HI.out.marks (B':=z) (by have:=HI.out.fr.size;omega) hz).alloc hz 67 #[.int .i64 (ix:Nat),.int .i64 (kx:Nat)];simp only [List.nil_append,List.cons_append] at F7;obtain ⟨W7,hW7⟩:∃ W7,wr.alloc (.cells #[.int .i64 (ix:Nat),.int .i64 (kx:Nat)] 67) = W7:=⟨_,rfl⟩;rw [hW7] at F7;have hz7:W7.heap.size = z + 1:=by rw [<- hW7,World.size_alloc,hz]
   have HM7:=Lib.hid (HI.out.map.aft (hW7 ▸ Aft.alloc wr _));have HF7:=Lib.hid F7;have c0:W7.cell? ⟨z,0,none⟩ = some (.int .i64 (ix:Nat)):=(F7.nth 1 rfl).cell 0;have c1:W7.cell? ⟨z,1,none⟩ = some (.int .i64 (kx:Nat)):=(F7.nth 1 rfl).cell 1;have c2:z < W7.heap.size:=by omega
   have HS7:=Lib.hid (HSM.out W7 ix kx (HGW.out _ F7.grow) hil hkl);clear F7;obtain ⟨bs,hbs⟩:∃ bs,sameB play la lb ix kx = bs:=⟨_,rfl⟩;rw [hbs] at HS7;have HBS:=Lib.hid hbs;clear hbs;cases bs
   ·go_upto_region 10 with fail
    try rw [hz]
    try rw [hW7]
    clear hW7 hz;go_wp2_with (go_at_call 87;refine HS7.out.mono ?_;rintro e w8 ⟨rfl,u,rfl⟩)
    have ha8:Aft W7 (W7.lat u):=Aft.lat _ u;refine And.intro ?_ ?_
    ·rw [HJ2.out];exact ⟨_,_,_,_,_,_,_,_,_,_,_,_,_,_,_,_,_,_,_,_,_,_,_,_,_,_,_,_,_,_,_,kx + 1,Ds,n,V,rfl,by go_num,by omega,((HF7.out.later ha8).sub (bs':=[(s + 1,160,#[.map (some s)])]) (by simp)).cut HI.out.fr (by omega) (by simp),(fun D hD=>⟨((HF7.out.later ha8).marks D hD).1,((HF7.out.later ha8).marks D hD).2.2⟩),HI.out.nodup,HM7.out.aft ha8,HI.out.lv.skip HBS.out,HI.out.out,by have:=HI.out.few;omega⟩
    ·rw [HMU2.out];simp [intOf];omega
   ·go_upto_region 10 with fail
    try rw [hz]
    try rw [hW7]
    clear hW7 hz;go_upto_region 11 with (go_at_call 87;refine HS7.out.mono ?_;rintro e w8 ⟨rfl,u,rfl⟩)
    have ha8:Aft W7 (W7.lat u):=Aft.lat _ u;have HF8:=Lib.hid (HF7.out.later ha8);have HM8:=Lib.hid (HM7.out.aft ha8);have hs8:=ha8.size;clear c0 c1 c2 HS7 HF7 HM7;generalize W7.lat u = W8 at *;have c0:W8.cell? ⟨z,0,none⟩ = some (.int .i64 (ix:Nat)):=(HF8.out.nth 1 rfl).cell 0;have c1:W8.cell? ⟨z,1,none⟩ = some (.int .i64 (kx:Nat)):=(HF8.out.nth 1 rfl).cell 1;have c2:z < W8.heap.size:=by omega
    have c3:W8.cell? ⟨s + 1,0,none⟩ = some (.map (some s)):=(HF8.out.nth 0 rfl).cell 0;have c4:s + 1 < W8.heap.size:=by omega
    have hfew:=HI.out.few
    have hfb:n <= 810000:=by
     have h2:(ix * 30 + kx) * 901 <= (29 * 30 + 29) * 901:=Nat.mul_le_mul_right _ (by omega);omega
    obtain ⟨w9,hp1,hp2,hp3⟩:=HM8.out.put (s:=(ix,kx)) ⟨by show ix < 32;omega,by show kx < 32;omega⟩ (by omega) 1 (by omega);have hp1:(Instr.mapUpdate 160 (.map (some s)) (.agg #[.int .i64 (ix:Nat),.int .i64 (kx:Nat)]) (.int .i64 1)).run Tryz.prog W8 = .ok () w9:=hp1;have HM9:=Lib.hid hp2;have HF9:=Lib.hid (HF8.out.grown hp3 (.inl rfl));have hs9:=hp3.size;clear hp2 hp3 ha8;go_upto_region 12 with fail
    clear c0 c1 c2 c3 c4 hp1;obtain ⟨zb,hzb⟩:∃ zb,w9.heap.size = zb:=⟨_,rfl⟩;have hzzb:z < zb:=by omega
    obtain ⟨WA,hWA⟩:∃ WA,(w9.alloc (.cells #[.int .i64 (ix:Nat)] 3)).alloc (.cells #[.int .i64 (kx:Nat)] 3) = WA:=⟨_,rfl⟩;have FA:=(((HF9.out.up (B':=zb) (by omega) (by omega)).alloc hzb 3 #[.int .i64 (ix:Nat)]).alloc (by simp [hzb]) 3 #[.int .i64 (kx:Nat)]);simp only [List.nil_append,List.cons_append] at FA;rw [hWA] at FA;have hsA:WA.heap.size = zb + 1 + 1:=by rw [<- hWA,World.size_alloc,World.size_alloc,hzb]
    have HIA:Hid (LvJ W1 s la.length lb.length z zb (sameB play la lb) ix kx Ds n 0 WA):=Lib.hid ⟨n + 1,_,FA,HM9.out.aft (hWA ▸ (Aft.alloc w9 _).then_alloc _),HI.out.lv.begin,fun a b hb=>by
     rw [if_neg (fun e=>by cases e;omega)];exact HI.out.out a b hb,by omega⟩
    go_upto_block 4 with (go_at_call 82;refine (pairs_any ix kx _).mono ?_;rintro e w' ⟨rfl,rfl⟩)
    try rw [hzb]
    try rw [hWA]
    clear hWA hzb FA HF8 HF9 HM8 HM9;refine wp_block ?_;refine (wpIn_wide (n:=5)).1 ?_;refine wpIn_pairs (b1:=zb) (b2:=zb + 1) (N:=ix) (M:=kx) (by omega) (by omega) rfl (LvJ W1 s la.length lb.length z zb (sameB play la lb) ix kx Ds n) (fun _ _=>False)
     (by
      rintro r X X' b ⟨n',V',h1,h2,h3⟩ hg hb1 _;rw [hsA] at hb1;exact ⟨n',V',h1.grown hg (.inr hb1),h2.kept hg (fun e=>by have e:s = b:=Option.some.inj e;omega),h3⟩)
     (fun _ _ _ _ _ h=>h.elim)
     (fun r X X' ⟨n',V',h1,h2,h3⟩ ha'=>⟨n',V',h1.later ha',h2.aft ha',h3⟩)
     (fun r X ⟨n',V',h1,h2,h3⟩=>⟨(h1.nth 2 rfl).cell 0,(h1.nth 3 rfl).cell 0,(h1.nth 2 rfl).lt,(h1.nth 3 rfl).lt⟩) HIA.out
     (fun z9 a0 b0=>{ tmps:=#[.pointer (some ⟨x,0,none⟩),undef,.map none,.pointer (some ⟨s + 1,0,none⟩),.func (.func 87) #[.pointer (some ⟨x,0,none⟩)] #[],.int .i64 (ix:Nat),.int .i64 (kx:Nat),.pointer (some ⟨z,0,none⟩),.pointer (some ⟨z9,0,none⟩),.map (some s),.pointer (some ⟨x,0,none⟩),.func (.func 87) #[.pointer (some ⟨x,0,none⟩)] #[],.pointer (some ⟨x,0,none⟩),.pointer (some ⟨x,0,none⟩),.pointer (some ⟨x,0,none⟩),.slice A la.length ca,.int .i64 (la.length:Nat),.int .i64 (ix:Nat),.bool true,.int .i64 (ix:Nat),.pointer (some ⟨x,0,none⟩),.pointer (some ⟨x,0,none⟩),.pointer (some ⟨x,1,none⟩),.slice B lb.length cb,.int .i64 (lb.length:Nat),.int .i64 (kx:Nat),.bool true,.int .i64 (kx:Nat),.int .i64 (ix:Nat),.int .i64 (kx:Nat),.agg #[.int .i64 (ix:Nat),.int .i64 (kx:Nat)],.func (.func 87) #[.pointer (some ⟨x,0,none⟩)] #[],.agg #[.int .i64 (ix:Nat),.int .i64 (kx:Nat)],.bool true,.map (some s),.agg #[.int .i64 (ix:Nat),.int .i64 (kx:Nat)],.int .i64 (ix:Nat),.int .i64 (kx:Nat),.func (.func 111) #[] #[.pointer (some ⟨zb,0,none⟩),.pointer (some ⟨zb + 1,0,none⟩)],.agg #[.int .i64 (a0:Nat),.int .i64 (b0:Nat)],u40,u41,u42,u43,u44,u45,u46,u47,u48,u49,u50,u51,u52],defers:=[] }) ?assign ?body ?done (fun _ _ _ _ h=>h.elim)
    case assign =>
     intro l i j X K9 hK9;gi_wp2_with fail
     exact hK9
    case body =>
     intro l a0 b0 z9 X ha hb hI hz9 _ hB _ _;rw [hsA] at hz9 ⊢;exact lv_body play la lb A B ca cb x s z zb z9 W1 X ix kx a0 b0 l Ds n hil hkl hla hlb ha hb (by omega) hs1 hzzb (by omega) hI hz9 hB _ _ _ _ _ _ _ _ _ _ _ _ _
    case done =>
     intro D9 X hDD hI hd;obtain ⟨n3,V3,hF,hM,hL,hO,hn3⟩:=hI;have F3:=(hF.sub (bs':=[(s + 1,160,#[.map (some s)])]) (by simp)).cut HI.out.fr (by omega) (by simp);have HF3:=Lib.hid F3
     have HM3:Hid (∀ D ∈ D9 :: Ds,W1.heap.size <= D /\ X.heap[D]? = some (.deferred (some []))):=Lib.hid fun D hD=>by
      rcases List.mem_cons.1 hD with rfl | hD
      ·exact ⟨by omega,hd⟩
      ·exact ⟨(hF.marks D hD).1,(hF.marks D hD).2.2⟩
     have HMP:=Lib.hid hM;have HL3:=Lib.hid (hL.end_ HBS.out);have HO3:=Lib.hid hO;have hnd9:D9 ∉ Ds:=fun h=>by have:=(hF.marks D9 h).2.1;omega
     have HND:=Lib.hid (List.nodup_cons.2 ⟨hnd9,HI.out.nodup⟩);have hik:ix * kx <= 29 * 29:=Nat.mul_le_mul (by omega) (by omega);clear hF hM hL hO F3 hd hnd9;go_wp2_with fail
     refine And.intro ?_ ?_
     ·rw [HJ2.out];exact ⟨_,_,_,_,_,_,_,_,_,_,_,_,_,_,_,_,_,_,_,_,_,_,_,_,_,_,_,_,_,_,_,kx + 1,D9 :: Ds,n3,V3,rfl,by go_num,by omega,HF3.out,HM3.out,HND.out,HMP.out,HL3.out,HO3.out,by omega⟩
     ·rw [HMU2.out];simp [intOf];omega
  ·have t1:decide (kx < lb.length) = false:=by simpa using hkl
   obtain rfl:kx = lb.length:=by omega
   clear hkl;go_wp2_with fail
   refine And.intro ?_ ?_
   ·rw [HJ.out];exact ⟨_,_,_,_,_,_,_,_,_,_,_,_,_,_,_,_,_,_,_,_,_,_,_,_,_,_,_,_,_,_,_,_,_,_,_,_,_,_,_,_,ix + 1,Ds,n,V,rfl,by go_num,by omega,HI.out.fr,HI.out.marks,HI.out.nodup,HI.out.map,HI.out.lv.row HI.out.out,HI.out.out,by have:=HI.out.few;omega⟩
   ·rw [HMU.out];simp [intOf];omega
 ·have t1:decide (ix < la.length) = false:=by simpa using hil
  obtain rfl:ix = la.length:=by omega
  have y1:wr.cell? ⟨s + 1,0,none⟩ = some (.map (some s)):=(HI.out.fr.nth 0 rfl).cell 0;have y2:=(HI.out.fr.nth 0 rfl).lt;clear hil;go_wp2_with fail
  have hgr:=HI.out.fr.grow;have haw:Aft w wr:=HA1.out.grown hgr (fun r e=>by have e:s = r:=Option.some.inj e;omega);refine leaves_marks w Ds wr haw (fun D hD=>⟨by have:=(HI.out.marks D hD).1;omega,(HI.out.marks D hD).2⟩) HI.out.nodup fun w' ha hs' hk=>⟨.map (some s),by simp [results,Tryz.results81,go_sem],s,n,V,rfl,by omega,?_,HI.out.lv.levels,fun a b h1 h2=>(HI.out.lv.done a b h1 h2 (.inl h1)).small,ha⟩
  obtain ⟨D,⟨es,clock,hh,hrest⟩,h2⟩:=HI.out.map;exact ⟨D,⟨es,clock,(hk s (fun h=>by have:=(HI.out.marks s h).1;omega)).trans hh,hrest⟩,h2⟩
end Go.Proofs
end
section
/- Match: what is plain of its way back. -/
namespace Sheet
structure Back (S:Nat -> Nat -> Bool) (n m most:Nat) (V:Nat × Nat -> Nat) (t:Nat) (l:List (Nat × Nat)) (a b:Nat):Prop where
 len:l.length + t = most
 rise:l.Pairwise fun p q=>q.1 < p.1 /\ q.2 < p.2
 same:∀ p ∈ l,S p.1 p.2 = true
 high:∀ p ∈ l,p.1 < n /\ p.2 < m
 low:∀ p ∈ l,a <= p.1 /\ b <= p.2
 an:a <= n
 bm:b <= m
 next:t = 0 \/ ∃ i k,i < a /\ k < b /\ V (i,k) = t
variable {S:Nat -> Nat -> Bool} {n m most t a b:Nat} {V:Nat × Nat -> Nat} {l:List (Nat × Nat)}
theorem Back.start (hh:t = 0 \/ ∃ i k,i < n /\ k < m /\ V (i,k) = t):Back S n m t V t [] n m :=
 ⟨by simp,.nil,(fun _ h=>by cases h),(fun _ h=>by cases h),(fun _ h=>by cases h),Nat.le_refl _,Nat.le_refl _,hh⟩
theorem Back.step (hL:Levels S n m fun a b=>V (a,b)) (h:Back S n m most V t l a b) (ht:0 < t) {i k:Nat} (hi:i < a) (hk:k < b) (hv:V (i,k) = t):Back S n m most V (t - 1) (l ++ [(i,k)]) i k:=by
 have ha:=h.an;have hb:=h.bm;have hs:=hL.pos (i:=i) (k:=k) (by omega) (by omega) (by (try dsimp only);omega);refine ⟨by have:=h.len;simp;omega,List.pairwise_append.2 ⟨h.rise,List.pairwise_singleton _ _,fun p hp q hq=>?_⟩,fun p hp=>?_,fun p hp=>?_,fun p hp=>?_,by omega,by omega,?_⟩
 ·rw [List.mem_singleton] at hq;subst hq;have:=h.low p hp;exact ⟨by show i < p.1;omega,by show k < p.2;omega⟩
 ·rcases List.mem_append.1 hp with hp | hp
  ·exact h.same p hp
  ·rw [List.mem_singleton] at hp;subst hp;exact hs
 ·rcases List.mem_append.1 hp with hp | hp
  ·exact h.high p hp
  ·rw [List.mem_singleton] at hp;subst hp;exact ⟨by show i < n;omega,by show k < m;omega⟩
 ·rcases List.mem_append.1 hp with hp | hp
  ·have:=h.low p hp;omega
  ·rw [List.mem_singleton] at hp;subst hp;exact ⟨Nat.le_refl _,Nat.le_refl _⟩
 ·rcases hL.has i k (by omega) (by omega) hs with e | ⟨i',k',h1,h2,h3⟩
  ·left;(try dsimp only at e);omega
  ·exact .inr ⟨i',k',h1,h2,by (try dsimp only at h3);omega⟩
theorem Back.done (h:Back S n m most V 0 l a b):Chain S n m 0 0 l.reverse /\ l.reverse.length = most :=
 ⟨⟨List.pairwise_reverse.2 h.rise,fun p hp=>h.same p (List.mem_reverse.1 hp),fun p _=>⟨Nat.zero_le _,Nat.zero_le _⟩,fun p hp=>h.high p (List.mem_reverse.1 hp)⟩,by have:=h.len;simp;omega⟩
theorem Back.few (h:Back S n m most V t l a b):l.length <= n:=by
 have h1:=distinct_le n (l.map fun p=>p.1 + 1) (List.pairwise_map.2 (h.rise.imp fun hpq=>by omega)) (fun x hx=>by
  obtain ⟨p,hp,rfl⟩:=List.mem_map.1 hx;have:=h.high p hp;omega)
 simpa using h1
structure MaxTo (n m:Nat) (V:Nat × Nat -> Nat) (r mx:Nat):Prop where
 le:∀ i k,i < n -> k < m -> i * m + k < r -> V (i,k) <= mx
 has:mx = 0 \/ ∃ i k,i < n /\ k < m /\ V (i,k) = mx
theorem MaxTo.start:MaxTo n m V 0 0:=⟨fun i k _ _ h=>absurd h (Nat.not_lt_zero _),.inl rfl⟩
theorem idx_same {i k a b m:Nat} (h:i * m + k = a * m + b) (hk:k < m) (hb:b < m):i = a /\ k = b:=by
 have h1:(i * m + k) / m = i:=by rw [Nat.mul_comm,Nat.mul_add_div (by omega),Nat.div_eq_of_lt hk];omega
 have h2:(a * m + b) / m = a:=by rw [Nat.mul_comm,Nat.mul_add_div (by omega),Nat.div_eq_of_lt hb];omega
 have h3:i = a:=by rw [<- h1,h,h2]
 subst h3;exact ⟨rfl,by omega⟩
theorem MaxTo.round {mx:Nat} (h:MaxTo n m V (a * m + b) mx) (ha:a < n) (hb:b < m) {x:Nat} (hx:max mx (V (a,b)) = x):MaxTo n m V (a * m + b + 1) x:=by
 refine ⟨fun i k hi hk hr=>?_,?_⟩
 ·by_cases e:i * m + k < a * m + b
  ·have:=h.le i k hi hk e;omega
  ·obtain ⟨rfl,rfl⟩:=idx_same (show i * m + k = a * m + b by omega) hk hb;omega
 ·rcases h.has with e | ⟨i,k,h1,h2,h3⟩
  ·by_cases e2:x = 0
   ·exact .inl e2
   ·exact .inr ⟨a,b,ha,hb,by omega⟩
  ·by_cases e2:mx <= V (a,b)
   ·exact .inr ⟨a,b,ha,hb,by omega⟩
   ·exact .inr ⟨i,k,h1,h2,by omega⟩
theorem idx_lt {i k N M:Nat} (hi:i < N) (hk:k < M):i * M + k < N * M:=by
 have h1:(i + 1) * M <= N * M:=Nat.mul_le_mul_right M (by omega);rw [Nat.add_mul,Nat.one_mul] at h1;omega
def NoneTo (a b:Nat) (V:Nat × Nat -> Nat) (t r:Nat):Prop:=∀ i k,i < a -> k < b -> i * b + k < r -> V (i,k) ≠ t
theorem NoneTo.round {i k:Nat} (h:NoneTo a b V t (i * b + k)) (hk:k < b) (hv:V (i,k) ≠ t):NoneTo a b V t (i * b + k + 1):=fun i' k' h1 h2 h3=>by
 by_cases e:i' * b + k' < i * b + k
 ·exact h i' k' h1 h2 e
 ·obtain ⟨rfl,rfl⟩:=idx_same (show i' * b + k' = i * b + k by omega) h2 hk;exact hv
theorem NoneTo.not (h:NoneTo a b V t (a * b)) {i k:Nat} (hi:i < a) (hk:k < b) (hv:V (i,k) = t):False:=h i k hi hk (idx_lt hi hk) hv
end Sheet
end
