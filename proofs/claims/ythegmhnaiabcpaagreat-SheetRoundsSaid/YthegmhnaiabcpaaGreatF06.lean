/- Own texts, merged: Sp. -/
import Derived.Test.YthegmhnaiabcpaaGreatF05
set_option linter.unusedSimpArgs false
set_option linter.unusedVariables false
set_option linter.unnecessarySimpa false
section
/- Walks: pass. -/
namespace Go.Proofs
open Go.RowKit
attribute [local go_sem] Oper.semAt_some
def PassR (w0 w:World) (d:Nat) (S:SetL) (A:Option Addr) (c:Nat) (north:Bool) (D N:Int) (sa B0:Nat) (ap:Nat -> Int) (bf:Nat -> Nat × Bool) (e:Ending) (w':World):Prop :=
 ∃ x ap' bf',e = .returned (.int .i64 x) /\ w.grownBy w' (some d) /\ WorkAt w0 w' d S A c ap' bf' /\ PsW S north D N sa (B0 + S.n.toNat) (rowOf S.n.toNat ap sa) (byOf bf sa) ap S.n.toNat (fun _=>False) x ap' bf'
theorem pass_end {w0 w W:World} {d B:Nat} {S:SetL} {A:Option Addr} {c:Nat} {north:Bool} {D N:Int} {sa B0:Nat} {ap ap':Nat -> Int} {bf bf':Nat -> Nat × Bool} {x:Int} {bs:List (Nat × TypeId × Array Value)} {Ds:List Nat} {tm:Array Value}
  (hf:FrD w d B bs [] W) (hm:∀ D ∈ Ds,w.heap.size <= D /\ W.heap[D]? = some (.deferred (some []))) (hn:Ds.Nodup) (hw:WorkAt w0 W d S A c ap' bf') (h0:w0.heap.size <= w.heap.size) (hp:PsW S north D N sa (B0 + S.n.toNat) (rowOf S.n.toNat ap sa) (byOf bf sa) ap S.n.toNat (fun _=>False) x ap' bf') (ht:tm.getD 8 undef = .int .i64 x) :
  LeavesInM Fence.wide 5 Tryz.prog Tryz.f98 tm (PassR w0 w d S A c north D N sa B0 ap bf) (Ds.map mark) .returning W:=by
 refine leaves_marks w0 Ds W hw.aft (fun D hD=>⟨Nat.le_trans h0 (hm D hD).1,(hm D hD).2⟩) hn fun w' ha hs hk=>⟨.int .i64 x,?_,x,ap',bf',rfl,?_,⟨?_,hw.rep,hw.base,ha⟩,hp⟩
 ·have htm':tm[8]?.getD undef = .int .i64 x:=by rw [<- ht];simp
  simp [results,Tryz.results98,go_sem,htm']
 ·have b1:=hw.aft.below;have b2:=ha.below;have hlt:=hf.lt;refine ⟨(b2.os.trans b1.os.symm).trans hf.grow.os,(b2.tape.trans b1.tape.symm).trans hf.grow.tape,(b2.output.trans b1.output.symm).trans hf.grow.output,by rw [hs];exact hf.grow.size,fun i hi hne=>?_⟩;rw [hk i (fun h=>by have:=(hm i h).1;omega)];exact hf.grow.block i hi hne
 ·have hlt:=hf.lt;exact (hk d (fun h=>by have:=(hm d h).1;omega)).trans hw.blk
theorem kap2 {w0 w:World} {d:Nat} {S:SetL} {A:Option Addr} {c:Nat} {ap:Nat -> Int} {bf:Nat -> Nat × Bool} (h:WorkAt w0 w d S A c ap bf) {n a i:Nat} (hn:n <= 12) (ha:a < n) (hi:i < n):w.cell? ⟨d,2 + a * 12 + i,none⟩ = some (.int .i64 (rowOf n ap a i)):=by
 have:=h.kap (i:=12 * a + i) (by omega);unfold rowOf;rw [if_pos hi,show 2 + a * 12 + i = 2 + (12 * a + i) by omega];exact this
theorem setAp2 {w0 w:World} {d:Nat} {S:SetL} {A:Option Addr} {c:Nat} {ap:Nat -> Int} {bf:Nat -> Nat × Bool} (h:WorkAt w0 w d S A c ap bf) {a i:Nat} (ha:a < 12) (hi:i < 12) (x:Int):WorkAt w0 (w.setCell ⟨d,2 + a * 12 + i,none⟩ (.int .i64 x)) d S A c (updF ap (12 * a + i) x) bf:=by
 rw [show 2 + a * 12 + i = 2 + (12 * a + i) by omega];exact h.setAp (by omega) x
theorem setBy2 {w0 w:World} {d:Nat} {S:SetL} {A:Option Addr} {c:Nat} {ap:Nat -> Int} {bf:Nat -> Nat × Bool} (h:WorkAt w0 w d S A c ap bf) {a i:Nat} (ha:a < 12) (hi:i < 12) (g:Nat) (bk:Bool):WorkAt w0 ((w.setCell ⟨d,146 + a * 24 + i * 2,none⟩ (.int .i64 (g:Nat))).setCell ⟨d,146 + a * 24 + i * 2 + 1,none⟩ (.bool bk)) d S A c ap (updF bf (12 * a + i) (g,bk)):=by
 rw [show 146 + a * 24 + i * 2 = 146 + 2 * (12 * a + i) by omega];exact h.setBy (by omega) (g,bk)
theorem kby2 {w0 w:World} {d:Nat} {S:SetL} {A:Option Addr} {c:Nat} {ap:Nat -> Int} {bf:Nat -> Nat × Bool} (h:WorkAt w0 w d S A c ap bf) {a i:Nat} (ha:a < 12) (hi:i < 12):w.cell? ⟨d,146 + a * 24 + i * 2,none⟩ = some (.int .i64 ((bf (12 * a + i)).1:Nat)) /\ w.cell? ⟨d,146 + a * 24 + i * 2 + 1,none⟩ = some (.bool (bf (12 * a + i)).2):=by
 rw [show 146 + a * 24 + i * 2 = 146 + 2 * (12 * a + i) by omega];exact h.kby (by omega)
structure PassI (w0 w:World) (d s:Nat) (kw:FuncId) (S:SetL) (A:Option Addr) (c:Nat) (north:Bool) (D N:Int) (sa B0:Nat) (ap:Nat -> Int) (bf:Nat -> Nat × Bool) (k:Nat) (Ds:List Nat) (x:Int) (ap':Nat -> Int) (bf':Nat -> Nat × Bool) (W:World):Prop where
 le:k <= S.n.toNat
 fr:FrD w d (s + 1 + 1 + 1 + 1 + 1 + 1) [(s,91,#[.pointer (some ⟨d,0,none⟩)]),(s + 1,3,#[.int .i64 (sa:Nat)]),(s + 1 + 1,101,#[.func (.func kw) #[] #[]]),(s + 1 + 1 + 1,29,#[.int .i64 N,.int .i64 D]),(s + 1 + 1 + 1 + 1,3,#[.int .i64 x]),(s + 1 + 1 + 1 + 1 + 1,186,#[.pointer (some ⟨d,2 + sa * 12,none⟩)])] [] W
 marks:∀ D ∈ Ds,w.heap.size <= D /\ W.heap[D]? = some (.deferred (some []))
 nodup:Ds.Nodup
 wk:WorkAt w0 W d S A c ap' bf'
 ps:PsW S north D N sa (B0 + k) (rowOf S.n.toNat ap sa) (byOf bf sa) ap k (fun _=>False) x ap' bf'
def LegI (w0 w:World) (d s z:Nat) (kw:FuncId) (S:SetL) (A:Option Addr) (c:Nat) (north:Bool) (D N:Int) (sa B0:Nat) (ap:Nat -> Int) (bf:Nat -> Nat × Bool) (k:Nat) (Ds:List Nat) (rb:Int) (k':Nat) (W:World):Prop :=
 ∃ x ap' bf',FrD w d (z + 1 + 1 + 1) [(s,91,#[.pointer (some ⟨d,0,none⟩)]),(s + 1,3,#[.int .i64 (sa:Nat)]),(s + 1 + 1,101,#[.func (.func kw) #[] #[]]),(s + 1 + 1 + 1,29,#[.int .i64 N,.int .i64 D]),(s + 1 + 1 + 1 + 1,3,#[.int .i64 x]),(s + 1 + 1 + 1 + 1 + 1,186,#[.pointer (some ⟨d,2 + sa * 12,none⟩)]),(z,3,#[.int .i64 (k:Nat)]),(z + 1,91,#[.pointer (some ⟨d,0,none⟩)]),(z + 1 + 1,3,#[.int .i64 (k:Nat)])] Ds W /\ WorkAt w0 W d S A c ap' bf' /\ PsW S north D N sa (B0 + k + 1) (rowOf S.n.toNat ap sa) (byOf bf sa) ap k (fun g=>g ∈ (legsOf S.J k).take k') x ap' bf' /\ rowOf S.n.toNat ap' sa k = rb
theorem mem_take_succ {α:Type} {L:List α} {k:Nat} {y x:α} (hy:L[k]? = some y) (hx:x ∈ L.take (k + 1)):x ∈ L.take k \/ x = y:=by
 obtain ⟨hk,rfl⟩:=List.getElem?_eq_some_iff.1 hy;rw [List.take_succ_eq_append_getElem hk,List.mem_append,List.mem_singleton] at hx;exact hx
def rfBody:Code -> Option Code
 | .rangeFunc _ _ _ b=>some b
 | .seq a b=>match rfBody a with | some c=>some c | none=>rfBody b
 | .cond _ a b=>match rfBody a with | some c=>some c | none=>rfBody b
 | .block _ b=>rfBody b
 | .loop b=>rfBody b
 | .scope b=>rfBody b
 | _=>none
set_option maxRecDepth 100000 in
set_option maxHeartbeats 4000000 in
theorem pass_leg {kw:FuncId} {north:Bool} (hK:WayOk kw north) (S:SetL) (A:Option Addr) (c d:Nat) (ap:Nat -> Int) (bf:Nat -> Nat × Bool) (w0 w:World) (hS:SetOk S) (sa:Nat) (ha:sa < S.n.toNat) (N D:Int) (hp:PlayOk N D) (B0:Nat) (hB:B0 + S.n.toNat <= 190) (s z k:Nat) (Ds:List Nat) (rb:Int) (hkN:k < S.n.toNat)
  (h0s:w0.heap.size <= s) (hdl:d < s) (hs:w.heap.size = s) (hzz:s + 1 + 1 + 1 + 1 + 1 + 1 <= z) (hfar:¬ rb = Sheet.far) (hwlk:∃ l,l <= B0 + k /\ Sheet.Wk (Sheet.sc D N (Sheet.legs (joOf north S.J))) sa k l rb)
  (u13 u14 u15 u39 u40 u41 u42 u43 u44 u45 u46 u47 u48 u49 u50 u51 u52 u53 u54 u55 u56 u57 u58 u59 u60 u61 u62 u63 u64 u65 u66 u67 u68 u69 u70 u71 u72 u73 u74 u75 u76 u77 u78 u79 u80 u81 u82 u83:Value) (l k':Nat) (y:Nat × Bool) (z9:Nat) (X:World) (hy:(legsOf S.J (k:Nat))[k']? = some y) (hI:LegI w0 w d s z kw S A c north D N sa B0 ap bf k Ds rb k' X) (hz':z + 1 + 1 + 1 + 3 <= z9) (hb:Blk X z9 34 #[.int .i64 (y.1:Nat),.bool y.2]) :
  ((rfBody (Tryz.f98.body.getD .skip)).getD .skip).wpIn (Fence.wide.inRound l) (5 - 1 - 1) Tryz.prog (post3 (z + 1 + 1 + 1) (LegI w0 w d s z kw S A c north D N sa B0 ap bf k Ds rb) (fun _ _=>False) (k' + 1) X) { tmps:=#[.pointer (some ⟨d,0,none⟩),.int .i64 (sa:Nat),.agg #[.func (.func kw) #[] #[]],.agg #[.int .i64 N,.int .i64 D],.pointer (some ⟨s,0,none⟩),.pointer (some ⟨s + 1,0,none⟩),.pointer (some ⟨s + 1 + 1,0,none⟩),.pointer (some ⟨s + 1 + 1 + 1,0,none⟩),.int .i64 0,.pointer (some ⟨s + 1 + 1 + 1 + 1,0,none⟩),.pointer (some ⟨s + 1 + 1 + 1 + 1 + 1,0,none⟩),.pointer (some ⟨z,0,none⟩),.pointer (some ⟨z9,0,none⟩),u13,u14,u15,.pointer (some ⟨d,0,none⟩),.int .i64 (sa:Nat),.pointer (some ⟨d,0,none⟩),.pointer (some ⟨d,2,none⟩),.pointer (some ⟨d,2 + sa * 12,none⟩),.pointer (some ⟨d,0,none⟩),.pointer (some ⟨d,0,none⟩),.pointer (some ⟨d,0,none⟩),.pointer (some ⟨d,0,none⟩),.int .i64 S.n,.int .i64 (k:Nat),.bool true,.int .i64 (k:Nat),.pointer (some ⟨d,2 + sa * 12,none⟩),.int .i64 (k:Nat),.pointer (some ⟨d,2 + sa * 12,none⟩),.pointer (some ⟨d,2 + sa * 12 + k,none⟩),.int .i64 rb,.bool false,.pointer (some ⟨d,0,none⟩),.int .i64 (k:Nat),.func (.func 131) #[] #[.pointer (some ⟨z + 1,0,none⟩),.pointer (some ⟨z + 1 + 1,0,none⟩)],.agg #[.int .i64 (y.1:Nat),.bool y.2],u39,u40,u41,u42,u43,u44,u45,u46,u47,u48,u49,u50,u51,u52,u53,u54,u55,u56,u57,u58,u59,u60,u61,u62,u63,u64,u65,u66,u67,u68,u69,u70,u71,u72,u73,u74,u75,u76,u77,u78,u79,u80,u81,u82,u83],defers:=[] } X:=by
 have hn1:=hS.n1;have hn2:=hS.n2;have HS:=Lib.hid hS;have HP:=Lib.hid hp;have HKW:=Lib.hid hK;have HFA:=Lib.hid hfar;have HWLK:=Lib.hid hwlk;have ia:(0:Int) <= (sa:Int) /\ (sa:Int) < 12:=by omega
 have ik:(0:Int) <= (k:Int) /\ (k:Int) < 12:=by omega
 clear hS hp hK hfar hwlk;dsimp only [Tryz.f98,rfBody,Option.getD];obtain ⟨x2,ap2,bf2,hF,hWk,hPs,hRb⟩:=hI;obtain ⟨g,bk⟩:=y;dsimp only at hb ⊢;have hmem:=mem_legsOf.1 (List.mem_of_getElem? hy);have hg:g < S.J.length:=hmem.1
 have hfr:fromI S.J[g] bk = (k:Nat):=by
  have:=hmem.2;unfold fromQ at this
  rwa [List.getElem?_eq_getElem hg] at this
 have hfrN:Sheet.from_ (joOf north S.J) (g,bk) = k:=by
  have:=(from_of (north:=north) HS.out (g:=(g,bk)) hg).1;rw [hmem.2] at this;omega
 have hin:=into_of (north:=north) HS.out (g:=(g,bk)) hg;have hnu:=num_of (north:=north) (g:=(g,bk)) hg;have hwt:=wt_le (north:=north) HS.out HP.out (g:=(g,bk)) hg;have hnl:=num_le (north:=north) HS.out (g:=(g,bk)) hg;have HTK:=Lib.hid (fun hlt hfar=>hPs.take HS.out (g:=(g,bk)) hg hfrN (by rw [hRb];exact HFA.out) hlt hfar (by rw [hRb];exact HWLK.out));have HLV:=Lib.hid (fun hle=>hPs.leave (g:=(g,bk)) hle);have hsm:=hPs.small HS.out HP.out (by omega) (c:=k) (by rw [hRb];exact HFA.out);have HNE:=Lib.hid ((HS.out.ok north).ne (g:=(g,bk)) (by rw [joOf_len];exact hg));unfold Sheet.wt at hwt;dsimp only at hin hnu hwt hnl;rw [hnu] at hwt;rw [hRb] at hsm;have HEN:=Lib.hid (ends_any S A c d ap2 bf2 w0 X g bk hWk hg);have HNU:=Lib.hid (fun W (ha:Aft X W)=>number_any HKW.out S A c d ap2 bf2 w0 W g bk (hWk.later ha) hg (way_le HS.out north));rw [hfr,<- hin.1] at HEN;obtain ⟨ci,hci⟩:∃ ci,Sheet.into (joOf north S.J) (g,bk) = ci:=⟨_,rfl⟩;obtain ⟨nm,hnm⟩:∃ nm,numI north S.J[g] bk = nm:=⟨_,rfl⟩;have HWT:Hid (Sheet.wt (joOf north S.J) D N (g,bk) = nm * D + N):=Lib.hid (by unfold Sheet.wt;rw [hnu,hnm]);rw [hci] at hin HEN HTK HLV HNE;rw [hRb] at HTK HLV;rw [hnm] at HNU hwt hnl;rw [HWT.out] at HTK HLV;rw [hfrN] at HNE;obtain ⟨nd,hnd⟩:∃ nd,nm * D = nd:=⟨_,rfl⟩;rw [hnd] at hwt HTK HLV;have hcn:=hin.2;have HWK:=Lib.hid hWk;have HFF:=Lib.hid hF;have HRB2:=Lib.hid hRb;have HBZ:=Lib.hid hb;have HMEM:=Lib.hid hy;have hnp:=HP.out.n1;have hnp2:=HP.out.n2;have hd1:=HP.out.d1;have hd2:=HP.out.d2
 have hndb:-1000000000 <= nd /\ nd <= 1000000000:=by
  rw [<- hnd];have h2:nm * D <= 1000000 * D:=Int.mul_le_mul_of_nonneg_right hnl.2 (by omega);have h3:-1000000 * D <= nm * D:=Int.mul_le_mul_of_nonneg_right hnl.1 (by omega);omega
 clear hWk hF hPs hRb hmem hfr hfrN hin hnu hci hnm hb hy hwt;have y1:X.cell? ⟨s,0,none⟩ = some (.pointer (some ⟨d,0,none⟩)):=(HFF.out.nth 0 rfl).cell 0;have y2:=(HFF.out.nth 0 rfl).lt;have y3:X.cell? ⟨z9,0,none⟩ = some (.int .i64 (g:Nat)):=HBZ.out.cell 0;have y4:X.cell? ⟨z9,1,none⟩ = some (.bool bk):=HBZ.out.cell 1;have y5:=HBZ.out.lt;refine wpIn_block ?_;refine wpIn_seq_k fun K1 H1=>?_
 refine wpIn_region_of_list (by kernel_rfl) ?_;go_wp2_with (go_at_call 36;refine HEN.out.mono ?_;rintro e X1 ⟨rfl,u,rfl⟩)
 have ha1:Aft X (X.lat u):=⟨u,rfl⟩;generalize X.lat u = X1 at *;change K1 _ _;refine H1 _ _ ?_;clear H1 y1 y2 y3 y4 y5 HEN;have HA1:=Lib.hid ha1;clear ha1;have e1:IntKind.i64.wrap (nm * D) = nd:=by rw [hnd];exact IntWalk.i64_in _ (by omega)
 have e2:IntKind.i64.wrap (rb + nd) = rb + nd:=IntWalk.i64_in _ (by omega);have e3:IntKind.i64.wrap (rb + nd + N) = rb + nd + N:=IntWalk.i64_in _ (by omega);refine wpIn_seq_k fun K2 H2=>?_
 refine wpIn_region_valsT (by kernel_rfl) (by kernel_rfl) 16 84 rfl (by kernel_rfl) (by kernel_rfl) (by kernel_rfl) [.pointer (some ⟨d,2 + sa * 12,none⟩),.int .i64 (k:Nat),.pointer (some ⟨d,2 + sa * 12,none⟩),.pointer (some ⟨d,2 + sa * 12 + k,none⟩),.int .i64 rb,.pointer (some ⟨d,0,none⟩),.agg #[.int .i64 (g:Nat),.bool bk],.agg #[.func (.func kw) #[] #[]],.int .i64 nm,.pointer (some ⟨s + 1 + 1 + 1,1,none⟩),.int .i64 D,.int .i64 nd,.int .i64 (rb + nd),.pointer (some ⟨s + 1 + 1 + 1,0,none⟩),.int .i64 N,.int .i64 (rb + nd + N)] rfl (fun _ W=>Aft X1 W) (Aft.drew _) ?st1 ?fi1
 case st1 =>
  intro i o v ho hv
  match i,ho,hv with
  | 0,ho,hv =>
   cases ho;cases hv;refine .inl ⟨rfl,fun done a W hd hp hk hw K hK=>?_⟩;have e10:=hk.same 10 (by decide);exact op_val (by simp [go_sem,ev' e10,((HFF.out.later (HA1.out.trans hw)).nth 5 rfl).cell 0]) (hK _ hw)
  | 1,ho,hv =>
   cases ho;cases hv;refine .inl ⟨rfl,fun done a W hd hp hk hw K hK=>?_⟩;have e11:=hk.same 11 (by decide);exact op_val (by simp [go_sem,ev' e11,((HFF.out.later (HA1.out.trans hw)).nth 6 rfl).cell 0]) (hK _ hw)
  | 2,ho,hv =>
   cases ho;cases hv;refine .inl ⟨rfl,fun done a W hd hp hk hw K hK=>?_⟩;have e45:=hk.at_ 0 _ 45 _ rfl (by decide) _ rfl rfl rfl;exact op_val (by simp [go_sem,ev' e45]) (hK _ hw)
  | 3,ho,hv =>
   cases ho;cases hv;refine .inl ⟨rfl,fun done a W hd hp hk hw K hK=>?_⟩;have e46:=hk.at_ 1 _ 46 _ rfl (by decide) _ rfl rfl rfl;have e47:=hk.at_ 2 _ 47 _ rfl (by decide) _ rfl rfl rfl;exact op_val (by simp [go_sem,ev' e46,ev' e47,ik]) (hK _ hw)
  | 4,ho,hv =>
   cases ho;cases hv;refine .inl ⟨rfl,fun done a W hd hp hk hw K hK=>?_⟩;have e48:=hk.at_ 3 _ 48 _ rfl (by decide) _ rfl rfl rfl;have q1:W.cell? ⟨d,2 + sa * 12 + k,none⟩ = some (.int .i64 rb):=by rw [<- HRB2.out];exact kap2 (HWK.out.later (HA1.out.trans hw)) (by omega) ha hkN
   exact op_val (by simp [go_sem,ev' e48,q1]) (hK _ hw)
  | 5,ho,hv =>
   cases ho;cases hv;refine .inl ⟨rfl,fun done a W hd hp hk hw K hK=>?_⟩;have e4:=hk.same 4 (by decide);exact op_val (by simp [go_sem,ev' e4,((HFF.out.later (HA1.out.trans hw)).nth 0 rfl).cell 0]) (hK _ hw)
  | 6,ho,hv =>
   cases ho;cases hv;refine .inl ⟨rfl,fun done a W hd hp hk hw K hK=>?_⟩;have e12:=hk.same 12 (by decide);exact op_val (by simp [go_sem,ev' e12,(HBZ.out.aft (HA1.out.trans hw)).cell 0,(HBZ.out.aft (HA1.out.trans hw)).cell 1]) (hK _ hw)
  | 7,ho,hv =>
   cases ho;cases hv;refine .inl ⟨rfl,fun done a W hd hp hk hw K hK=>?_⟩;have e6:=hk.same 6 (by decide);exact op_val (by simp [go_sem,ev' e6,((HFF.out.later (HA1.out.trans hw)).nth 2 rfl).cell 0]) (hK _ hw)
  | 8,ho,hv =>
   cases ho;cases hv;refine .inl ⟨rfl,fun done a W hd hp hk hw K hK=>?_⟩;have e50:=hk.at_ 5 _ 50 _ rfl (by decide) _ rfl rfl rfl;have e51:=hk.at_ 6 _ 51 _ rfl (by decide) _ rfl rfl rfl;have e52:=hk.at_ 7 _ 52 _ rfl (by decide) _ rfl rfl rfl;refine op_callN rfl rfl rfl _ rfl (vs:=#[.pointer (some ⟨d,0,none⟩),.agg #[.int .i64 (g:Nat),.bool bk],.agg #[.func (.func kw) #[] #[]]]) (by simp [e50,e51,e52]) (HNU.out W (HA1.out.trans hw)) ?_;rintro e w7 ⟨rfl,hw7⟩;exact ⟨_,rfl,hK _ (hw.trans hw7)⟩
  | 9,ho,hv =>
   cases ho;cases hv;refine .inl ⟨rfl,fun done a W hd hp hk hw K hK=>?_⟩;have e7:=hk.same 7 (by decide);exact op_val (by simp [go_sem,ev' e7]) (hK _ hw)
  | 10,ho,hv =>
   cases ho;cases hv;refine .inl ⟨rfl,fun done a W hd hp hk hw K hK=>?_⟩;have e54:=hk.at_ 9 _ 54 _ rfl (by decide) _ rfl rfl rfl;exact op_val (by simp [go_sem,ev' e54,((HFF.out.later (HA1.out.trans hw)).nth 3 rfl).cell 1]) (hK _ hw)
  | 11,ho,hv =>
   cases ho;cases hv;refine .inl ⟨rfl,fun done a W hd hp hk hw K hK=>?_⟩;have e53:=hk.at_ 8 _ 53 _ rfl (by decide) _ rfl rfl rfl;have e55:=hk.at_ 10 _ 55 _ rfl (by decide) _ rfl rfl rfl;exact op_val (by simp [go_sem,ev' e53,ev' e55,e1]) (hK _ hw)
  | 12,ho,hv =>
   cases ho;cases hv;refine .inl ⟨rfl,fun done a W hd hp hk hw K hK=>?_⟩;have e49:=hk.at_ 4 _ 49 _ rfl (by decide) _ rfl rfl rfl;have e56:=hk.at_ 11 _ 56 _ rfl (by decide) _ rfl rfl rfl;exact op_val (by simp [go_sem,ev' e49,ev' e56,e2]) (hK _ hw)
  | 13,ho,hv =>
   cases ho;cases hv;refine .inl ⟨rfl,fun done a W hd hp hk hw K hK=>?_⟩;have e7:=hk.same 7 (by decide);exact op_val (by simp [go_sem,ev' e7]) (hK _ hw)
  | 14,ho,hv =>
   cases ho;cases hv;refine .inl ⟨rfl,fun done a W hd hp hk hw K hK=>?_⟩;have e58:=hk.at_ 13 _ 58 _ rfl (by decide) _ rfl rfl rfl;exact op_val (by simp [go_sem,ev' e58,((HFF.out.later (HA1.out.trans hw)).nth 3 rfl).cell 0]) (hK _ hw)
  | 15,ho,hv =>
   cases ho;cases hv;refine .inl ⟨rfl,fun done a W hd hp hk hw K hK=>?_⟩;have e57:=hk.at_ 12 _ 57 _ rfl (by decide) _ rfl rfl rfl;have e59:=hk.at_ 14 _ 59 _ rfl (by decide) _ rfl rfl rfl;exact op_val (by simp [go_sem,ev' e57,ev' e59,e3]) (hK _ hw)
  | _ + 16,_,hv=>cases hv
 intro done W hd hw;simp only [List.drop_succ_cons,List.drop_zero,List.zip_cons_cons,List.zip_nil_right,putAll];simp only [Act.put,List.setIfInBounds_toArray,List.set];clear hd;clear e1 e2 e3;have HA2:=Lib.hid (HA1.out.trans hw);clear hw HA1;go_wp2_with fail
 change K2 _ _;refine H2 _ _ ?_;clear H2;have hvb:-500000000000 <= rb + (nd + N) /\ rb + (nd + N) <= 500000000000:=by omega
 have HEQ:Hid (rb + nd + N = rb + (nd + N)):=Lib.hid (by omega);rw [HEQ.out];generalize rb + (nd + N) = vv at *;obtain ⟨rc,hrc⟩:∃ rc,rowOf S.n.toNat ap2 sa ci = rc:=⟨_,rfl⟩;have y1:W.cell? ⟨s + 1 + 1 + 1 + 1 + 1,0,none⟩ = some (.pointer (some ⟨d,2 + sa * 12,none⟩)):=((HFF.out.later HA2.out).nth 5 rfl).cell 0;have y2:=((HFF.out.later HA2.out).nth 5 rfl).lt;have y3:W.cell? ⟨d,2 + sa * 12 + ci,none⟩ = some (.int .i64 rc):=by rw [<- hrc];exact kap2 (HWK.out.later HA2.out) (by omega) ha hcn
 have y4:=(HWK.out.later HA2.out).lt;have ic:(0:Int) <= (ci:Int) /\ (ci:Int) < 12:=by omega
 have hci12:ci < 12:=by omega
 have hsa12:sa < 12:=by omega
 refine wpIn_seq_k fun K3 H3=>?_
 refine wpIn_region_of_list (by kernel_rfl) ?_;by_cases hlt:vv < rc
 ·have t1:decide (vv < rc) = true:=by simpa using hlt
  have HLT:Hid (vv < rowOf S.n.toNat ap2 sa ci):=Lib.hid (by rw [hrc];exact hlt);have HVF:Hid (vv < Sheet.far):=Lib.hid (by show vv < (36028797018963968:Int);omega);clear hlt hrc HEQ;go_wp2_with fail
  change K3 _ _;refine H3 _ _ ?_;clear H3 y1 y2 y3 y4;refine wpIn_cond_true (by simp [Act.eval]) ?_;refine wpIn_seq_k fun K4 H4=>?_
  have HI0:Hid (FrD w d (z + 1 + 1 + 1) [(s,91,#[.pointer (some ⟨d,0,none⟩)]),(s + 1,3,#[.int .i64 (sa:Nat)]),(s + 1 + 1,101,#[.func (.func kw) #[] #[]]),(s + 1 + 1 + 1,29,#[.int .i64 N,.int .i64 D]),(s + 1 + 1 + 1 + 1,3,#[.int .i64 x2]),(s + 1 + 1 + 1 + 1 + 1,186,#[.pointer (some ⟨d,2 + sa * 12,none⟩)]),(z,3,#[.int .i64 (k:Nat)]),(z + 1,91,#[.pointer (some ⟨d,0,none⟩)]),(z + 1 + 1,3,#[.int .i64 (k:Nat)])] Ds W.drew /\ Blk W.drew z9 34 #[.int .i64 (g:Nat),.bool bk] /\ Kept3 (z + 1 + 1 + 1) X W.drew /\ WorkAt w0 W.drew d S A c ap2 bf2):=Lib.hid ⟨HFF.out.later (HA2.out.then_drew),HBZ.out.aft HA2.out.then_drew,Kept3.of_aft HA2.out.then_drew (by have:=HBZ.out.lt;omega),HWK.out.later HA2.out.then_drew⟩;refine wpIn_region_valsT (by kernel_rfl) (by kernel_rfl) 14 84 rfl (by kernel_rfl) (by kernel_rfl) (by kernel_rfl) [.pointer (some ⟨d,2 + sa * 12,none⟩),.int .i64 (ci:Nat),.pointer (some ⟨d,0,none⟩),.int .i64 (sa:Nat),.int .i64 (ci:Nat),.int .i64 vv,.agg #[.int .i64 (g:Nat),.bool bk],.pointer (some ⟨d,2 + sa * 12,none⟩),.pointer (some ⟨d,2 + sa * 12 + ci,none⟩),undef,.pointer (some ⟨d,0,none⟩),.pointer (some ⟨d,146,none⟩),.pointer (some ⟨d,146 + sa * 24,none⟩),.pointer (some ⟨d,146 + sa * 24 + ci * 2,none⟩)] rfl (fun done W'=>FrD w d (z + 1 + 1 + 1) [(s,91,#[.pointer (some ⟨d,0,none⟩)]),(s + 1,3,#[.int .i64 (sa:Nat)]),(s + 1 + 1,101,#[.func (.func kw) #[] #[]]),(s + 1 + 1 + 1,29,#[.int .i64 N,.int .i64 D]),(s + 1 + 1 + 1 + 1,3,#[.int .i64 x2]),(s + 1 + 1 + 1 + 1 + 1,186,#[.pointer (some ⟨d,2 + sa * 12,none⟩)]),(z,3,#[.int .i64 (k:Nat)]),(z + 1,91,#[.pointer (some ⟨d,0,none⟩)]),(z + 1 + 1,3,#[.int .i64 (k:Nat)])] Ds W' /\ Blk W' z9 34 #[.int .i64 (g:Nat),.bool bk] /\ Kept3 (z + 1 + 1 + 1) X W' /\ WorkAt w0 W' d S A c (if done 9 = true then updF ap2 (12 * sa + ci) vv else ap2) bf2) (HI0.out) ?st2 ?fi2
  case st2 =>
   intro i o v ho hv
   match i,ho,hv with
   | 0,ho,hv =>
    cases ho;cases hv;refine .inl ⟨rfl,fun done a W hd hp hk hw K hK=>?_⟩;have e10:=hk.same 10 (by decide);exact op_val (by simp [go_sem,ev' e10,(hw.1.nth 5 rfl).cell 0]) (hK _ (⟨hw.1,hw.2.1,hw.2.2.1,by rw [upd_ne' (by decide)];exact hw.2.2.2⟩))
   | 1,ho,hv =>
    cases ho;cases hv;refine .inl ⟨rfl,fun done a W hd hp hk hw K hK=>?_⟩;have e14:=hk.same 14 (by decide);exact op_val (by simp [go_sem,ev' e14]) (hK _ (⟨hw.1,hw.2.1,hw.2.2.1,by rw [upd_ne' (by decide)];exact hw.2.2.2⟩))
   | 2,ho,hv =>
    cases ho;cases hv;refine .inl ⟨rfl,fun done a W hd hp hk hw K hK=>?_⟩;have e4:=hk.same 4 (by decide);exact op_val (by simp [go_sem,ev' e4,(hw.1.nth 0 rfl).cell 0]) (hK _ (⟨hw.1,hw.2.1,hw.2.2.1,by rw [upd_ne' (by decide)];exact hw.2.2.2⟩))
   | 3,ho,hv =>
    cases ho;cases hv;refine .inl ⟨rfl,fun done a W hd hp hk hw K hK=>?_⟩;have e5:=hk.same 5 (by decide);exact op_val (by simp [go_sem,ev' e5,(hw.1.nth 1 rfl).cell 0]) (hK _ (⟨hw.1,hw.2.1,hw.2.2.1,by rw [upd_ne' (by decide)];exact hw.2.2.2⟩))
   | 4,ho,hv =>
    cases ho;cases hv;refine .inl ⟨rfl,fun done a W hd hp hk hw K hK=>?_⟩;have e14:=hk.same 14 (by decide);exact op_val (by simp [go_sem,ev' e14]) (hK _ (⟨hw.1,hw.2.1,hw.2.2.1,by rw [upd_ne' (by decide)];exact hw.2.2.2⟩))
   | 5,ho,hv =>
    cases ho;cases hv;refine .inl ⟨rfl,fun done a W hd hp hk hw K hK=>?_⟩;have e15:=hk.same 15 (by decide);exact op_val (by simp [go_sem,ev' e15]) (hK _ (⟨hw.1,hw.2.1,hw.2.2.1,by rw [upd_ne' (by decide)];exact hw.2.2.2⟩))
   | 6,ho,hv =>
    cases ho;cases hv;refine .inl ⟨rfl,fun done a W hd hp hk hw K hK=>?_⟩;have e12:=hk.same 12 (by decide);exact op_val (by simp [go_sem,ev' e12,hw.2.1.cell 0,hw.2.1.cell 1]) (hK _ (⟨hw.1,hw.2.1,hw.2.2.1,by rw [upd_ne' (by decide)];exact hw.2.2.2⟩))
   | 7,ho,hv =>
    cases ho;cases hv;refine .inl ⟨rfl,fun done a W hd hp hk hw K hK=>?_⟩;have e68:=hk.at_ 0 _ 68 _ rfl (by decide) _ rfl rfl rfl;exact op_val (by simp [go_sem,ev' e68]) (hK _ (⟨hw.1,hw.2.1,hw.2.2.1,by rw [upd_ne' (by decide)];exact hw.2.2.2⟩))
   | 8,ho,hv =>
    cases ho;cases hv;refine .inl ⟨rfl,fun done a W hd hp hk hw K hK=>?_⟩;have e69:=hk.at_ 1 _ 69 _ rfl (by decide) _ rfl rfl rfl;have e75:=hk.at_ 7 _ 75 _ rfl (by decide) _ rfl rfl rfl;exact op_val (by simp [go_sem,ev' e69,ev' e75,ic]) (hK _ (⟨hw.1,hw.2.1,hw.2.2.1,by rw [upd_ne' (by decide)];exact hw.2.2.2⟩))
   | 9,ho,hv =>
    cases ho;cases hv;refine .inl ⟨rfl,fun done a W hd hp hk hw K hK=>?_⟩;have e73:=hk.at_ 5 _ 73 _ rfl (by decide) _ rfl rfl rfl;have e76:=hk.at_ 8 _ 76 _ rfl (by decide) _ rfl rfl rfl;have h12:done 9 = false:=hd;have hw4:=hw.2.2.2;rw [h12,if_neg (by decide)] at hw4;have c1:=kap2 hw4 (n:=S.n.toNat) (by omega) ha hcn;have c2:=hw4.fz (2 + sa * 12 + ci);have c3:=hw4.lt;refine op_skipW (w':=W.setCell ⟨d,2 + sa * 12 + ci,none⟩ (.int .i64 vv)) (by simp [go_sem,ev' e76,ev' e73,c1,c2,c3]) (hK _ ⟨hw.1.grown (only_setCell (only_refl _ _) (.inl rfl) _) (.inl rfl),hw.2.1.far (p:=⟨d,2 + sa * 12 + ci,none⟩) (by show z9 ≠ d;omega) _,hw.2.2.1.setCell (p:=⟨d,2 + sa * 12 + ci,none⟩) (by left;show d < z + 1 + 1 + 1;omega) _,?_⟩);rw [show Go.upd done 9 9 = true from rfl,if_pos rfl];exact setAp2 hw4 hsa12 hci12 vv
   | 10,ho,hv =>
    cases ho;cases hv;refine .inl ⟨rfl,fun done a W hd hp hk hw K hK=>?_⟩;have e70:=hk.at_ 2 _ 70 _ rfl (by decide) _ rfl rfl rfl;exact op_val (by simp [go_sem,ev' e70]) (hK _ (⟨hw.1,hw.2.1,hw.2.2.1,by rw [upd_ne' (by decide)];exact hw.2.2.2⟩))
   | 11,ho,hv =>
    cases ho;cases hv;refine .inl ⟨rfl,fun done a W hd hp hk hw K hK=>?_⟩;have e77:=hk.at_ 10 _ 77 _ rfl (by decide) _ rfl rfl rfl;exact op_val (by simp [go_sem,ev' e77]) (hK _ (⟨hw.1,hw.2.1,hw.2.2.1,by rw [upd_ne' (by decide)];exact hw.2.2.2⟩))
   | 12,ho,hv =>
    cases ho;cases hv;refine .inl ⟨rfl,fun done a W hd hp hk hw K hK=>?_⟩;have e71:=hk.at_ 3 _ 71 _ rfl (by decide) _ rfl rfl rfl;have e78:=hk.at_ 11 _ 78 _ rfl (by decide) _ rfl rfl rfl;exact op_val (by simp [go_sem,ev' e71,ev' e78,ia]) (hK _ (⟨hw.1,hw.2.1,hw.2.2.1,by rw [upd_ne' (by decide)];exact hw.2.2.2⟩))
   | 13,ho,hv =>
    cases ho;cases hv;refine .inl ⟨rfl,fun done a W hd hp hk hw K hK=>?_⟩;have e72:=hk.at_ 4 _ 72 _ rfl (by decide) _ rfl rfl rfl;have e79:=hk.at_ 12 _ 79 _ rfl (by decide) _ rfl rfl rfl;exact op_val (by simp [go_sem,ev' e72,ev' e79,ic]) (hK _ (⟨hw.1,hw.2.1,hw.2.2.1,by rw [upd_ne' (by decide)];exact hw.2.2.2⟩))
   | _ + 14,_,hv=>cases hv
  intro done W hd hw;simp only [List.drop_succ_cons,List.drop_zero,List.zip_cons_cons,List.zip_nil_right,putAll];simp only [Act.put,List.setIfInBounds_toArray,List.set];rw [hd 9 (by decide),if_pos rfl] at hw;obtain ⟨w1,w2,w3,w4⟩:=hw;obtain ⟨y1,y2⟩:=kby2 w4 hsa12 hci12;have y3:=w4.fz (146 + sa * 24 + ci * 2);have y4:=w4.fz (146 + sa * 24 + ci * 2 + 1);have y5:=w4.lt;have W1:=Lib.hid w1;have W2:=Lib.hid w2;have W3:=Lib.hid w3;have W4:=Lib.hid w4;clear w1 w2 w3 w4 hd HI0;go_wp2_with fail
  change K4 _ _;refine H4 _ _ ?_;clear H4 y1 y2 y3 y4 y5;have hg2:W.grownBy ((W.setCell ⟨d,146 + sa * 24 + ci * 2,none⟩ (.int .i64 (g:Nat))).setCell ⟨d,146 + sa * 24 + ci * 2 + 1,none⟩ (.bool bk)) (some d):=only_setCell (only_setCell (only_refl _ _) (p:=⟨d,146 + sa * 24 + ci * 2,none⟩) (.inl rfl) _) (p:=⟨d,146 + sa * 24 + ci * 2 + 1,none⟩) (.inl rfl) _;have f1:=W1.out.grown hg2 (.inl rfl);have f2:=(W3.out.setCell (p:=⟨d,146 + sa * 24 + ci * 2,none⟩) (by left;show d < z + 1 + 1 + 1;omega) (.int .i64 (g:Nat))).setCell (p:=⟨d,146 + sa * 24 + ci * 2 + 1,none⟩) (by left;show d < z + 1 + 1 + 1;omega) (.bool bk);have f3:=setBy2 W4.out hsa12 hci12 g bk;clear hg2;generalize (W.setCell ⟨d,146 + sa * 24 + ci * 2,none⟩ (.int .i64 (g:Nat))).setCell ⟨d,146 + sa * 24 + ci * 2 + 1,none⟩ (.bool bk) = W5 at *;have y1:W5.cell? ⟨s + 1 + 1 + 1 + 1,0,none⟩ = some (.int .i64 x2):=(f1.nth 4 rfl).cell 0;have y2:=(f1.nth 4 rfl).lt;have y3:=(f1.nth 4 rfl).frozen 0;have G1:=Lib.hid f1;have G2:=Lib.hid f2;have G3:=Lib.hid f3;clear f1 f2 f3;refine wpIn_region_of_list (by kernel_rfl) ?_;go_wp2_with fail
  obtain ⟨t1,t2⟩:=HTK.out HLT.out HVF.out;refine ⟨G2.out.setCell (p:=⟨s + 1 + 1 + 1 + 1,0,none⟩) (by left;show s + 1 + 1 + 1 + 1 < z + 1 + 1 + 1;omega) _,(ci:Nat),_,_,G1.out.store (g:=s + 1 + 1 + 1 + 1) (t:=3) (cs:=#[.int .i64 x2]) (by simp) 0 (.int .i64 (ci:Nat)) (by simp;omega),G3.out.grown (only_setCell (only_refl _ _) (p:=⟨s + 1 + 1 + 1 + 1,0,none⟩) (.inl rfl) _) (fun e=>by have e:d = s + 1 + 1 + 1 + 1:=Option.some.inj e;omega) (fun g e=>by have e:s + 1 + 1 + 1 + 1 = g:=Option.some.inj e;omega),t1.congr (fun q hq=>mem_take_succ HMEM.out hq),t2⟩
 ·have t1:decide (vv < rc) = false:=by simpa using hlt
  have HLE:Hid (rowOf S.n.toNat ap2 sa ci <= vv):=Lib.hid (by rw [hrc];omega);clear hlt hrc HEQ;go_wp2_with fail
  change K3 _ _;refine H3 _ _ ?_;clear H3 y1 y2 y3 y4;refine wpIn_cond_false (by simp [Act.eval]) ?_;refine wpIn_skip ?_;exact ⟨Kept3.of_aft HA2.out (by have:=HBZ.out.lt;omega),x2,ap2,bf2,HFF.out.later HA2.out,HWK.out.later HA2.out,(HLV.out HLE.out).congr (fun q hq=>mem_take_succ HMEM.out hq),HRB2.out⟩
set_option maxRecDepth 100000 in
set_option maxHeartbeats 4000000 in
theorem pass_any {kw:FuncId} {north:Bool} (hK:WayOk kw north) (S:SetL) (A:Option Addr) (c d:Nat) (ap:Nat -> Int) (bf:Nat -> Nat × Bool) (w0 w:World) (hW:WorkAt w0 w d S A c ap bf) (hS:SetOk S) (sa:Nat) (ha:sa < S.n.toNat) (N D:Int) (hp:PlayOk N D) (B0:Nat) (hB:B0 + S.n.toNat <= 190)
  (hrow:Sheet.RowI (joOf north S.J) D N sa (rowOf S.n.toNat ap sa) (byOf bf sa)) (hlens:Sheet.Lens (joOf north S.J) D N sa (rowOf S.n.toNat ap sa) B0) :
  Calls Tryz.prog 98 #[.pointer (some ⟨d,0,none⟩),.int .i64 (sa:Nat),.agg #[.func (.func kw) #[] #[]],.agg #[.int .i64 N,.int .i64 D]] w (PassR w0 w d S A c north D N sa B0 ap bf):=by
 have hn1:=hS.n1;have hn2:=hS.n2;have h0s:w0.heap.size <= w.heap.size:=hW.aft.size;have F0:=((((FrD.start w hW.lt).alloc rfl 91 #[.pointer (some ⟨d,0,none⟩)]).alloc (by simp) 3 #[.int .i64 (sa:Nat)]).alloc (by simp) 101 #[.func (.func kw) #[] #[]]).alloc (by simp) 29 #[.int .i64 N,.int .i64 D] |>.alloc (by simp) 3 #[.int .i64 (-1)];simp only [List.nil_append,List.cons_append] at F0;have HF0:=Lib.hid F0;have HS:=Lib.hid hS;have HP:=Lib.hid hp;have HKW:=Lib.hid hK;have HW0:=Lib.hid hW;have HP0:=Lib.hid (PsW.start hrow hlens);have hdl:=hW.lt;have ia:(0:Int) <= (sa:Int) /\ (sa:Int) < 12:=by omega
 have hrun:=hK.runs;clear hW hS hp hK hrow hlens F0;refine (callsIn_wide (n:=5)).1 ?_;refine callsIn_of_wp_marks Tryz.func98 rfl trivial ?_ rfl;simp only [Tryz.ntmps98,List.size_toArray,List.length_cons,List.length_nil,Nat.reduceAdd,Nat.reduceSub,Array.replicate_succ,Array.replicate_zero,List.push_toArray,List.append_toArray,List.nil_append,List.cons_append];refine wpIn_wide.2 ?_;go_upto_region 2 with fail
 have hz:(((((w.alloc (.cells #[.pointer (some ⟨d,0,none⟩)] 91)).alloc (.cells #[.int .i64 (sa:Nat)] 3)).alloc (.cells #[.func (.func kw) #[] #[]] 101)).alloc (.cells #[.int .i64 N,.int .i64 D] 29)).alloc (.cells #[.int .i64 (-1)] 3)).heap.size = w.heap.size + 1 + 1 + 1 + 1 + 1:=by simp
 have HA0:=Lib.hid (((((Aft.alloc w (.cells #[.pointer (some ⟨d,0,none⟩)] 91)).then_alloc (.cells #[.int .i64 (sa:Nat)] 3)).then_alloc (.cells #[.func (.func kw) #[] #[]] 101)).then_alloc (.cells #[.int .i64 N,.int .i64 D] 29)).then_alloc (.cells #[.int .i64 (-1)] 3));generalize (((((w.alloc (.cells #[.pointer (some ⟨d,0,none⟩)] 91)).alloc (.cells #[.int .i64 (sa:Nat)] 3)).alloc (.cells #[.func (.func kw) #[] #[]] 101)).alloc (.cells #[.int .i64 N,.int .i64 D] 29)).alloc (.cells #[.int .i64 (-1)] 3)) = W5 at *;obtain ⟨s,hs⟩:∃ s,w.heap.size = s:=⟨_,rfl⟩;rw [hs] at HF0 hz hdl h0s ⊢;refine wp_region_valsT (by kernel_rfl) 6 84 rfl (by kernel_rfl) (by kernel_rfl) (by kernel_rfl) [.pointer (some ⟨d,0,none⟩),.int .i64 (sa:Nat),.pointer (some ⟨d,0,none⟩),.pointer (some ⟨d,2,none⟩),.pointer (some ⟨d,2 + sa * 12,none⟩),.pointer (some ⟨W5.heap.size,0,none⟩)] rfl (fun done W=>Aft W5 W /\ (if done 5 = true then W = W5.drew.alloc (.cells #[.pointer none] 186) else W = W5.drew)) (⟨Aft.drew _,by simp⟩) ?st3 ?fi3
 case st3 =>
  intro i o v ho hv
  match i,ho,hv with
  | 0,ho,hv =>
   cases ho;cases hv;refine .inl ⟨rfl,fun done a W hd hp hk hw K hK=>?_⟩;have e4:=hk.same 4 (by decide);exact op_val (by simp [go_sem,ev' e4,((HF0.out.later hw.1).nth 0 rfl).cell 0]) (hK _ (⟨hw.1,by rw [upd_ne' (by decide)];exact hw.2⟩))
  | 1,ho,hv =>
   cases ho;cases hv;refine .inl ⟨rfl,fun done a W hd hp hk hw K hK=>?_⟩;have e5:=hk.same 5 (by decide);exact op_val (by simp [go_sem,ev' e5,((HF0.out.later hw.1).nth 1 rfl).cell 0]) (hK _ (⟨hw.1,by rw [upd_ne' (by decide)];exact hw.2⟩))
  | 2,ho,hv =>
   cases ho;cases hv;refine .inl ⟨rfl,fun done a W hd hp hk hw K hK=>?_⟩;have e16:=hk.at_ 0 _ 16 _ rfl (by decide) _ rfl rfl rfl;exact op_val (by simp [go_sem,ev' e16]) (hK _ (⟨hw.1,by rw [upd_ne' (by decide)];exact hw.2⟩))
  | 3,ho,hv =>
   cases ho;cases hv;refine .inl ⟨rfl,fun done a W hd hp hk hw K hK=>?_⟩;have e18:=hk.at_ 2 _ 18 _ rfl (by decide) _ rfl rfl rfl;exact op_val (by simp [go_sem,ev' e18]) (hK _ (⟨hw.1,by rw [upd_ne' (by decide)];exact hw.2⟩))
  | 4,ho,hv =>
   cases ho;cases hv;refine .inl ⟨rfl,fun done a W hd hp hk hw K hK=>?_⟩;have e17:=hk.at_ 1 _ 17 _ rfl (by decide) _ rfl rfl rfl;have e19:=hk.at_ 3 _ 19 _ rfl (by decide) _ rfl rfl rfl;exact op_val (by simp [go_sem,ev' e17,ev' e19,ia]) (hK _ (⟨hw.1,by rw [upd_ne' (by decide)];exact hw.2⟩))
  | 5,ho,hv =>
   cases ho;cases hv;refine .inl ⟨rfl,fun done a W hd hp hk hw K hK=>?_⟩;have h2:=hw.2;rw [hd] at h2;simp only [Bool.false_eq_true,if_false] at h2;subst h2;exact op_valW (v:=.pointer (some ⟨W5.heap.size,0,none⟩)) (w':=W5.drew.alloc (.cells #[.pointer none] 186)) (by simp [go_sem]) (hK _ ⟨(Aft.drew W5).then_alloc _,by rw [upd_same',if_pos rfl]⟩)
  | _ + 6,_,hv=>cases hv
 intro done W hd hw;simp only [List.drop_succ_cons,List.drop_zero,List.zip_cons_cons,List.zip_nil_right,putAll];simp only [Act.put,List.setIfInBounds_toArray,List.set];have hw2:=hw.2;rw [if_pos (hd 5 (by decide))] at hw2;clear hw hd;subst hw2;have F6:=(HF0.out.later (Aft.drew W5)).alloc hz 186 #[.pointer (some ⟨d,2 + sa * 12,none⟩)];simp only [List.nil_append,List.cons_append] at F6;obtain ⟨W6,hW6⟩:∃ W6,(W5.alloc (.cells #[.pointer (some ⟨d,2 + sa * 12,none⟩)] 186)).drew = W6:=⟨_,rfl⟩;have HI0:Hid (PassI w0 w d s kw S A c north D N sa B0 ap bf 0 [] (-1) ap bf W6):=Lib.hid ⟨by omega,by rw [<- hW6];exact F6,(fun D h=>by cases h),List.nodup_nil,by rw [<- hW6];exact (HW0.out.later HA0.out).later ((Aft.alloc W5 _).then_drew),HP0.out⟩;clear F6;go_upto_region 3 with fail
 rw [hz]
 try rw [hW6]
 clear hW6 hz HF0 HA0 HP0;have k0:=HI0.out.wk.k0;have k1:=HI0.out.wk.lt;have k2:W6.cell? ⟨s,0,none⟩ = some (.pointer (some ⟨d,0,none⟩)):=(HI0.out.fr.nth 0 rfl).cell 0;have k3:=(HI0.out.fr.nth 0 rfl).lt;go_upto_block 0 with fail
 clear k0 k1 k2 k3;refine wp_block ?_;obtain ⟨J,hJ⟩:∃ J:Act -> World -> Prop,J = fun a9 W=>∃ (u11 u12 u13 u14 u15 u27 u28 u29 u30 u31 u32 u33 u34 u35 u36 u37 u38 u39 u40 u41 u42 u43 u44 u45 u46 u47 u48 u49 u50 u51 u52 u53 u54 u55 u56 u57 u58 u59 u60 u61 u62 u63 u64 u65 u66 u67 u68 u69 u70 u71 u72 u73 u74 u75 u76 u77 u78 u79 u80 u81 u82 u83 i:Value) (k:Nat) (Ds:List Nat) (x:Int) (ap':Nat -> Int) (bf':Nat -> Nat × Bool),a9 = { tmps:=#[.pointer (some ⟨d,0,none⟩),.int .i64 (sa:Nat),.agg #[.func (.func kw) #[] #[]],.agg #[.int .i64 N,.int .i64 D],.pointer (some ⟨s,0,none⟩),.pointer (some ⟨s + 1,0,none⟩),.pointer (some ⟨s + 1 + 1,0,none⟩),.pointer (some ⟨s + 1 + 1 + 1,0,none⟩),.int .i64 0,.pointer (some ⟨s + 1 + 1 + 1 + 1,0,none⟩),.pointer (some ⟨s + 1 + 1 + 1 + 1 + 1,0,none⟩),u11,u12,u13,u14,u15,.pointer (some ⟨d,0,none⟩),.int .i64 (sa:Nat),.pointer (some ⟨d,0,none⟩),.pointer (some ⟨d,2,none⟩),.pointer (some ⟨d,2 + sa * 12,none⟩),.pointer (some ⟨d,0,none⟩),.pointer (some ⟨d,0,none⟩),.pointer (some ⟨d,0,none⟩),.pointer (some ⟨d,0,none⟩),.int .i64 S.n,i,u27,u28,u29,u30,u31,u32,u33,u34,u35,u36,u37,u38,u39,u40,u41,u42,u43,u44,u45,u46,u47,u48,u49,u50,u51,u52,u53,u54,u55,u56,u57,u58,u59,u60,u61,u62,u63,u64,u65,u66,u67,u68,u69,u70,u71,u72,u73,u74,u75,u76,u77,u78,u79,u80,u81,u82,u83],defers:=Ds.map mark } /\ i = .int .i64 (k:Nat) /\ PassI w0 w d s kw S A c north D N sa B0 ap bf k Ds x ap' bf' W:=⟨_,rfl⟩
 obtain ⟨mu,hmu⟩:∃ mu:Act -> World -> Nat,mu = fun a9 _=>S.n.toNat - (intOf (a9.tmps.getD 26 undef)).toNat:=⟨_,rfl⟩
 refine wp_loop J mu (by rw [hJ];exact ⟨_,_,_,_,_,_,_,_,_,_,_,_,_,_,_,_,_,_,_,_,_,_,_,_,_,_,_,_,_,_,_,_,_,_,_,_,_,_,_,_,_,_,_,_,_,_,_,_,_,_,_,_,_,_,_,_,_,_,_,_,_,_,_,0,[],-1,ap,bf,rfl,rfl,HI0.out⟩) ?_;intro a9 wr hrel;rw [hJ] at hrel;have HJ:=Lib.hid hJ;have HMU:=Lib.hid hmu;clear hJ hmu HI0 HW0;obtain ⟨u11,u12,u13,u14,u15,u27,u28,u29,u30,u31,u32,u33,u34,u35,u36,u37,u38,u39,u40,u41,u42,u43,u44,u45,u46,u47,u48,u49,u50,u51,u52,u53,u54,u55,u56,u57,u58,u59,u60,u61,u62,u63,u64,u65,u66,u67,u68,u69,u70,u71,u72,u73,u74,u75,u76,u77,u78,u79,u80,u81,u82,u83,i,k,Ds,x,ap',bf',rfl,rfl,hi⟩:=hrel;have hk:=hi.le;have HI:=Lib.hid hi;clear hi;by_cases hkN:k < S.n.toNat
 ·have t1:decide ((k:Int) < S.n) = true:=by simp;omega
  obtain ⟨z,hz⟩:∃ z,wr.heap.size = z:=⟨_,rfl⟩;have F7:=(HI.out.fr.upM HI.out.marks (B':=z) (by have:=HI.out.fr.size;omega) hz).alloc hz 3 #[.int .i64 (k:Nat)];simp only [List.nil_append,List.cons_append] at F7;obtain ⟨W7,hW7⟩:∃ W7,wr.alloc (.cells #[.int .i64 (k:Nat)] 3) = W7:=⟨_,rfl⟩;rw [hW7] at F7;have hz7:W7.heap.size = z + 1:=by rw [<- hW7,World.size_alloc,hz]
  have HWK7:=Lib.hid (HI.out.wk.later (hW7 ▸ Aft.alloc wr _));have HF7:=Lib.hid F7;have ik:(0:Int) <= (k:Int) /\ (k:Int) < 12:=by omega
  clear F7;go_upto_region 6 with fail
  try rw [hz]
  have hzz:s + 1 + 1 + 1 + 1 + 1 + 1 <= z:=by have:=HI.out.fr.size;omega
  clear hW7 hz;obtain ⟨rb,hrb⟩:∃ rb,rowOf S.n.toNat ap' sa k = rb:=⟨_,rfl⟩;have HRB:=Lib.hid hrb;refine wp_region_valsT (by kernel_rfl) 4 84 rfl (by kernel_rfl) (by kernel_rfl) (by kernel_rfl) [.pointer (some ⟨d,2 + sa * 12,none⟩),.int .i64 (k:Nat),.pointer (some ⟨d,2 + sa * 12,none⟩),.pointer (some ⟨d,2 + sa * 12 + k,none⟩)] rfl (fun _ W=>Aft W7 W /\ W.heap.size = z + 1) (⟨Aft.drew _,hz7⟩) ?st4 ?fi4
  case st4 =>
   intro i o v ho hv
   match i,ho,hv with
   | 0,ho,hv =>
    cases ho;cases hv;refine .inl ⟨rfl,fun done a W hd hp hk hw K hK=>?_⟩;have e10:=hk.same 10 (by decide);exact op_val (by simp [go_sem,ev' e10,((HF7.out.later hw.1).nth 5 rfl).cell 0]) (hK _ hw)
   | 1,ho,hv =>
    cases ho;cases hv;refine .inl ⟨rfl,fun done a W hd hp hk hw K hK=>?_⟩;have e11:=hk.same 11 (by decide);exact op_val (by simp [go_sem,ev' e11,((HF7.out.later hw.1).nth 6 rfl).cell 0]) (hK _ hw)
   | 2,ho,hv =>
    cases ho;cases hv;refine .inl ⟨rfl,fun done a W hd hp hk hw K hK=>?_⟩;have e29:=hk.at_ 0 _ 29 _ rfl (by decide) _ rfl rfl rfl;exact op_val (by simp [go_sem,ev' e29]) (hK _ hw)
   | 3,ho,hv =>
    cases ho;cases hv;refine .inl ⟨rfl,fun done a W hd hp hk hw K hK=>?_⟩;have e30:=hk.at_ 1 _ 30 _ rfl (by decide) _ rfl rfl rfl;have e31:=hk.at_ 2 _ 31 _ rfl (by decide) _ rfl rfl rfl;exact op_val (by simp [go_sem,ev' e30,ev' e31,ik]) (hK _ hw)
   | _ + 4,_,hv=>cases hv
  intro done W hd hw;simp only [List.drop_succ_cons,List.drop_zero,List.zip_cons_cons,List.zip_nil_right,putAll];simp only [Act.put,List.setIfInBounds_toArray,List.set];clear hd;have HW8:=Lib.hid hw.1;have HZ8:=Lib.hid hw.2;have q1:W.cell? ⟨d,2 + sa * 12 + k,none⟩ = some (.int .i64 rb):=by rw [<- hrb];exact kap2 (HWK7.out.later hw.1) (by omega) ha hkN
  clear hw hrb;by_cases hfar:rb = Sheet.far
  ·have t2:(rb == 36028797018963968) = true:=by rw [hfar];rfl
   have HFA:=Lib.hid hfar;clear hfar;go_wp2_with fail
   refine And.intro ?_ ?_
   ·rw [HJ.out];exact ⟨_,_,_,_,_,_,_,_,_,_,_,_,_,_,_,_,_,_,_,_,_,_,_,_,_,_,_,_,_,_,_,_,_,_,_,_,_,_,_,_,_,_,_,_,_,_,_,_,_,_,_,_,_,_,_,_,_,_,_,_,_,_,_,k + 1,Ds,x,ap',bf',rfl,by go_num,by omega,((HF7.out.later HW8.out).sub (bs':=[(s,91,#[.pointer (some ⟨d,0,none⟩)]),(s + 1,3,#[.int .i64 (sa:Nat)]),(s + 1 + 1,101,#[.func (.func kw) #[] #[]]),(s + 1 + 1 + 1,29,#[.int .i64 N,.int .i64 D]),(s + 1 + 1 + 1 + 1,3,#[.int .i64 x]),(s + 1 + 1 + 1 + 1 + 1,186,#[.pointer (some ⟨d,2 + sa * 12,none⟩)])]) (by simp)).cut HI.out.fr (by omega) (by simp;omega),(fun D hD=>⟨((HF7.out.later HW8.out).marks D hD).1,((HF7.out.later HW8.out).marks D hD).2.2⟩),HI.out.nodup,HWK7.out.later HW8.out,(HI.out.ps.next HS.out HP.out (by omega) (fun h=>absurd (HRB.out.trans HFA.out) h)).more (by omega)⟩
   ·rw [HMU.out];simp [intOf];omega
  ·have t2:(rb == 36028797018963968) = false:=by
    have:rb ≠ 36028797018963968:=hfar;simpa using this
   have HFA:=Lib.hid hfar;have y1:W.cell? ⟨s,0,none⟩ = some (.pointer (some ⟨d,0,none⟩)):=((HF7.out.later HW8.out).nth 0 rfl).cell 0;have y2:=((HF7.out.later HW8.out).nth 0 rfl).lt;have y3:W.cell? ⟨z,0,none⟩ = some (.int .i64 (k:Nat)):=((HF7.out.later HW8.out).nth 6 rfl).cell 0;have y4:=((HF7.out.later HW8.out).nth 6 rfl).lt;clear hfar;go_upto_block 2 with (go_at_call 119;refine (legs_any d k _).mono ?_;rintro e w' ⟨rfl,rfl⟩)
   clear y1 y2 y3 y4 q1;rw [HZ8.out];obtain ⟨W9,hW9⟩:∃ W9,(W.alloc (.cells #[.pointer (some ⟨d,0,none⟩)] 91)).alloc (.cells #[.int .i64 (k:Nat)] 3) = W9:=⟨_,rfl⟩;have F9:=((HF7.out.later HW8.out).alloc HZ8.out 91 #[.pointer (some ⟨d,0,none⟩)]).alloc (by simp [HZ8.out]) 3 #[.int .i64 (k:Nat)];simp only [List.nil_append,List.cons_append] at F9;have hz9:W9.heap.size = z + 1 + 1 + 1:=by rw [<- hW9,World.size_alloc,World.size_alloc,HZ8.out]
   have hw9:=HWK7.out.later (HW8.out.trans (hW9 ▸ (Aft.alloc W _).then_alloc _));have hlen9:=(HI.out.ps.lens k (by rw [HRB.out];exact HFA.out));rw [HRB.out] at hlen9;have HWLK:=Lib.hid hlen9;have HL0:Hid (LegI w0 w d s z kw S A c north D N sa B0 ap bf k Ds rb 0 W9):=Lib.hid ⟨x,ap',bf',by rw [<- hW9];exact F9,hw9,(HI.out.ps.congr (fun g h=>by cases h)).more (by omega),HRB.out⟩;rw [hW9];clear hW9 F9 hw9 hlen9 HWK7 HF7 HW8 HZ8 hz7;refine wp_block ?_;refine (wpIn_wide (n:=5)).1 ?_;refine wpIn_legs (w0:=w0) (bw:=z + 1) (bs:=z + 1 + 1) (d:=d) (S:=S) (A:=A) (c:=c) (s:=(k:Nat)) rfl (LegI w0 w d s z kw S A c north D N sa B0 ap bf k Ds rb)
    (by
     rintro k' X X' r ⟨x,ap',bf',h1,h2,h3⟩ hg hr _;rw [hz9] at hr;exact ⟨x,ap',bf',h1.grown hg (.inr hr),h2.grown hg (fun e=>by cases e;omega) (fun g e=>by cases e;omega),h3⟩)
    (fun k' X X' ⟨x,ap',bf',h1,h2,h3⟩ ha'=>⟨x,ap',bf',h1.later ha',h2.later ha',h3⟩)
    (fun k' X ⟨x,ap',bf',h1,h2,h3⟩=>⟨(h1.nth 7 rfl).cell 0,(h1.nth 8 rfl).cell 0,(h1.nth 7 rfl).lt,(h1.nth 8 rfl).lt,ap',bf',h2⟩) HL0.out
    (fun z' y=>{ tmps:=#[.pointer (some ⟨d,0,none⟩),.int .i64 (sa:Nat),.agg #[.func (.func kw) #[] #[]],.agg #[.int .i64 N,.int .i64 D],.pointer (some ⟨s,0,none⟩),.pointer (some ⟨s + 1,0,none⟩),.pointer (some ⟨s + 1 + 1,0,none⟩),.pointer (some ⟨s + 1 + 1 + 1,0,none⟩),.int .i64 0,.pointer (some ⟨s + 1 + 1 + 1 + 1,0,none⟩),.pointer (some ⟨s + 1 + 1 + 1 + 1 + 1,0,none⟩),.pointer (some ⟨z,0,none⟩),.pointer (some ⟨z',0,none⟩),u13,u14,u15,.pointer (some ⟨d,0,none⟩),.int .i64 (sa:Nat),.pointer (some ⟨d,0,none⟩),.pointer (some ⟨d,2,none⟩),.pointer (some ⟨d,2 + sa * 12,none⟩),.pointer (some ⟨d,0,none⟩),.pointer (some ⟨d,0,none⟩),.pointer (some ⟨d,0,none⟩),.pointer (some ⟨d,0,none⟩),.int .i64 S.n,.int .i64 (k:Nat),.bool true,.int .i64 (k:Nat),.pointer (some ⟨d,2 + sa * 12,none⟩),.int .i64 (k:Nat),.pointer (some ⟨d,2 + sa * 12,none⟩),.pointer (some ⟨d,2 + sa * 12 + k,none⟩),.int .i64 rb,.bool false,.pointer (some ⟨d,0,none⟩),.int .i64 (k:Nat),.func (.func 131) #[] #[.pointer (some ⟨z + 1,0,none⟩),.pointer (some ⟨z + 1 + 1,0,none⟩)],.agg #[.int .i64 (y.1:Nat),.bool y.2],u39,u40,u41,u42,u43,u44,u45,u46,u47,u48,u49,u50,u51,u52,u53,u54,u55,u56,u57,u58,u59,u60,u61,u62,u63,u64,u65,u66,u67,u68,u69,u70,u71,u72,u73,u74,u75,u76,u77,u78,u79,u80,u81,u82,u83],defers:=[] }) ?assign ?body ?done
   case assign =>
    intro l y X K9 hK9;gi_wp2_with fail
    exact hK9
   case body =>
    intro l k' y z9 X hy hI hz' hb;rw [hz9] at hz' ⊢;exact pass_leg HKW.out S A c d ap bf w0 w HS.out sa ha N D HP.out B0 hB s z k Ds rb hkN h0s hdl hs hzz HFA.out HWLK.out _ _ _ _ _ _ _ _ _ _ _ _ _ _ _ _ _ _ _ _ _ _ _ _ _ _ _ _ _ _ _ _ _ _ _ _ _ _ _ _ _ _ _ _ _ _ _ _ l k' y z9 X hy hI hz' hb
   case done =>
    intro D9 X hDD hI hd;obtain ⟨x2,ap2,bf2,hF,hWk,hPs,hRb⟩:=hI;have F3:=(hF.sub (bs':=[(s,91,#[.pointer (some ⟨d,0,none⟩)]),(s + 1,3,#[.int .i64 (sa:Nat)]),(s + 1 + 1,101,#[.func (.func kw) #[] #[]]),(s + 1 + 1 + 1,29,#[.int .i64 N,.int .i64 D]),(s + 1 + 1 + 1 + 1,3,#[.int .i64 x2]),(s + 1 + 1 + 1 + 1 + 1,186,#[.pointer (some ⟨d,2 + sa * 12,none⟩)])]) (by simp)).cut HI.out.fr (by omega) (by simp;omega);have HF3:=Lib.hid F3
    have HM3:Hid (∀ D ∈ D9 :: Ds,w.heap.size <= D /\ X.heap[D]? = some (.deferred (some []))):=Lib.hid fun D hD=>by
     rcases List.mem_cons.1 hD with rfl | hD
     ·exact ⟨by omega,hd⟩
     ·exact ⟨(hF.marks D hD).1,(hF.marks D hD).2.2⟩
    have HWK3:=Lib.hid hWk;have HPS3:=Lib.hid (hPs.next HS.out HP.out (by omega) (fun _ g hg=>by rw [List.take_of_length_le (Nat.le_refl _)];exact hg));have hnd9:D9 ∉ Ds:=fun h=>by have:=(hF.marks D9 h).2.1;omega
    have HND:=Lib.hid (List.nodup_cons.2 ⟨hnd9,HI.out.nodup⟩);clear hF hWk hPs hRb F3 hd hnd9;go_wp2_with fail
    refine And.intro ?_ ?_
    ·rw [HJ.out];exact ⟨_,_,_,_,_,_,_,_,_,_,_,_,_,_,_,_,_,_,_,_,_,_,_,_,_,_,_,_,_,_,_,_,_,_,_,_,_,_,_,_,_,_,_,_,_,_,_,_,_,_,_,_,_,_,_,_,_,_,_,_,_,_,_,k + 1,D9 :: Ds,x2,ap2,bf2,rfl,by go_num,by omega,HF3.out,HM3.out,HND.out,HWK3.out,HPS3.out.more (by omega)⟩
    ·rw [HMU.out];simp [intOf];omega
 ·have t1:decide ((k:Int) < S.n) = false:=by simp;omega
  obtain rfl:k = S.n.toNat:=by omega
  have y1:wr.cell? ⟨s + 1 + 1 + 1 + 1,0,none⟩ = some (.int .i64 x):=(HI.out.fr.nth 4 rfl).cell 0;have y2:=(HI.out.fr.nth 4 rfl).lt;clear hkN;go_wp2_with fail
  exact pass_end HI.out.fr HI.out.marks HI.out.nodup HI.out.wk (by omega) HI.out.ps rfl
end Go.Proofs
end
