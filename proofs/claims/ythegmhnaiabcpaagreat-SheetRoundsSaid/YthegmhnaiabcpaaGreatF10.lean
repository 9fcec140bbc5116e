/- Own texts, merged: Su Sv Sw Sx Sy. -/
import Derived.Test.YthegmhnaiabcpaaGreatF09
set_option linter.unusedSimpArgs false
set_option linter.unusedVariables false
set_option linter.unnecessarySimpa false
section
/- Walks: mean,least. -/
namespace Go.Proofs
open Go.RowKit
open Sheet (sumN IsWalk)
attribute [local go_sem] Oper.semAt_some
set_option maxRecDepth 100000 in
set_option maxHeartbeats 2000000 in
theorem mean_any {kw:FuncId} {north:Bool} (hK:WayOk kw north) (S:SetL) (A:Option Addr) (c d:Nat) (ap:Nat -> Int) (bf:Nat -> Nat × Bool) (w0 w:World) (hW:WorkAt w0 w d S A c ap bf) (hS:SetOk S) (l:List (Nat × Bool)) (Al:Option Addr) (cl:Nat)
  (hA:Gs w Al (l.map legI)) (hl:∀ g ∈ l,g.1 < S.J.length) (hl1:0 < l.length) (hl2:l.length <= 60) :
  Calls Tryz.prog 38 #[.pointer (some ⟨d,0,none⟩),.slice Al l.length cl,.agg #[.func (.func kw) #[] #[]]] w fun e w'=>e = .returned (.agg #[.int .i64 (Sheet.low (sumN (joOf north S.J) l).natAbs l.length).1,.int .i64 (Sheet.low (sumN (joOf north S.J) l).natAbs l.length).2]) /\ Aft w w':=by
 obtain ⟨s,hs⟩:∃ s,w.heap.size = s:=⟨_,rfl⟩;have F0:=((Fr.start w).alloc rfl 101 #[.func (.func kw) #[] #[]]).alloc (by simp) 29 #[.int .i64 0,.int .i64 0];simp only [List.nil_append,List.cons_append] at F0;rw [hs] at F0;have hts:=sumN_le (north:=north) hS hl;obtain ⟨T,hT⟩:∃ T,sumN (joOf north S.J) l = T:=⟨_,rfl⟩;rw [hT] at hts ⊢;have HTT:=Lib.hid hT;have HRT:=Lib.hid fun W=>ratio_any (T.natAbs:Int) l.length W (by omega) (by omega) ⟨by omega,by omega⟩
 obtain ⟨R,hR⟩:∃ R,Sheet.low (T.natAbs:Int) l.length = R:=⟨_,rfl⟩;rw [hR] at HRT ⊢;have hmx:(if T < -T then -T else T) = (T.natAbs:Int):=by split <;> omega
 have HMX:=Lib.hid hmx;have hlen:(l.map legI).length = l.length:=by simp
 have HF0:=Lib.hid F0;have HA:=Lib.hid hA;have HL:=Lib.hid hl;have HS:=Lib.hid hS;have HKW:=Lib.hid hK;have HW:=Lib.hid hW;have HLEN:=Lib.hid hlen;clear F0 hA hl hS hK hW hT hR hmx hlen;go_enter Tryz.func38,Tryz.ntmps38;go_upto_block 0 with fail
 try rw [hs]
 generalize ((w.alloc (.cells #[.func (.func kw) #[] #[]] 101)).alloc (.cells #[.int .i64 0,.int .i64 0] 29)) = W1 at *;refine wp_block ?_;go_loopw [7,12] (fun sm i wr=>∃ k:Nat,i = .int .i64 (k:Nat) /\ k <= l.length /\ sm = .int .i64 (sumN (joOf north S.J) (l.take k)) /\ Fr w (s + 1 + 1) [(s,101,#[.func (.func kw) #[] #[]]),(s + 1,29,#[.int .i64 0,.int .i64 0])] wr) (fun _ i _=>l.length - (intOf i).toNat)
 case atStart=>exact ⟨0,rfl,by omega,rfl,HF0.out⟩
 case round =>
  obtain ⟨k,rfl,hk,rfl,hI⟩:=hrel;have HI:=Lib.hid hI;clear HF0 hI;by_cases hkl:k < l.length
  ·have t1:decide (k < l.length) = true:=by simpa using hkl
   have hkl':k < (l.map legI).length:=by rw [HLEN.out];exact hkl
   obtain ⟨b,o,rfl,hb,hc⟩:=(HA.out.aft HI.out.aft).at hkl';obtain ⟨x1,x2⟩:=hc k hkl';have hg:=HL.out _ (List.getElem_mem hkl);have HT:=Lib.hid (sumN_take (J:=joOf north S.J) hkl);have hsl:=sumN_le (north:=north) HS.out (l:=l.take k) (fun g hg=>HL.out g (List.mem_of_mem_take hg));have htl:(l.take k).length = k:=by rw [List.length_take];omega
   rw [htl] at hsl;have hnl:=num_le (north:=north) HS.out hg;have hnu:=num_of (north:=north) (g:=l[k]) hg;have ele:(l.map legI)[k] = legI l[k]:=by simp
   rw [ele] at x1 x2;obtain ⟨⟨g,bk⟩,hgb⟩:∃ y,l[k] = y:=⟨_,rfl⟩;have HNU:=Lib.hid (fun W (ha:Aft w W)=>number_any HKW.out S A c d ap bf w0 W l[k].1 l[k].2 (HW.out.later ha) hg (way_le HS.out north));rw [<- hnu] at HNU hnl;obtain ⟨nm,hnm⟩:∃ nm,Sheet.num (joOf north S.J) l[k] = nm:=⟨_,rfl⟩;rw [hnm] at HNU HT hnl;obtain ⟨sm,hsm⟩:∃ sm,sumN (joOf north S.J) (l.take k) = sm:=⟨_,rfl⟩;rw [hsm] at HT hsl ⊢;rw [hgb] at x1 x2 HNU;unfold legI at x1 x2;dsimp only at x1 x2 HNU;clear hc hg htl hnu ele hgb hnm hsm hkl';have HI2:=Lib.hid (HI.out.later (Aft.alloc wr (.cells #[.int .i64 (g:Nat),.bool bk] 34)));have y0:=(HI.out.nth 0 rfl).cell 0;have y2:=(HI.out.nth 0 rfl).lt;simp only [List.getElem?_toArray,List.getElem?_cons_zero,List.getElem?_cons_succ] at y0;go_wp2_with (go_at_call 97;refine (HNU.out _ HI2.out.aft).mono ?_;rintro e w7 ⟨rfl,u,rfl⟩)
   exact ⟨⟨k + 1,by go_num,by omega,by rw [HT.out],HI2.out.later (Aft.lat _ _)⟩,by simp [intOf];omega⟩
  ·have t1:decide (k < l.length) = false:=by simpa using hkl
   have ek:l.take k = l:=List.take_of_length_le (by omega);rw [ek,HTT.out];have z0:=(HI.out.nth 1 rfl).cell 0;have z1:=(HI.out.nth 1 rfl).cell 1;have z2:=(HI.out.nth 1 rfl).lt;have z3:=(HI.out.nth 1 rfl).frozen 0;have z4:=(HI.out.nth 1 rfl).frozen 1;simp only [List.getElem?_toArray,List.getElem?_cons_zero,List.getElem?_cons_succ] at z0 z1;clear ek;go_wp2_with (go_at_call 45;rw [HMX.out];refine (HRT.out _).mono ?_;rintro e w7 ⟨rfl,u,rfl⟩)
   have B2:=(((HI.out.nth 1 rfl).lat u).store 0 (.int .i64 R.1)).store 1 (.int .i64 R.2);have A2:=((HI.out.aft.then_lat u).then_setCell (p:=⟨s + 1,0,none⟩) (by show w.heap.size <= s + 1;omega) (.int .i64 R.1)).then_setCell (p:=⟨s + 1,1,none⟩) (by show w.heap.size <= s + 1;omega) (.int .i64 R.2);generalize ((wr.lat u).setCell ⟨s + 1,0,none⟩ (.int .i64 R.1)).setCell ⟨s + 1,1,none⟩ (.int .i64 R.2) = X at *;have z0:X.cell? ⟨s + 1,0,none⟩ = some (.int .i64 R.1):=B2.cell 0;have z1:X.cell? ⟨s + 1,1,none⟩ = some (.int .i64 R.2):=B2.cell 1;exact bodyPost_ret (v:=.agg #[.int .i64 R.1,.int .i64 R.2]) (by simp [results,Tryz.results38,go_sem,z0,z1]) rfl ⟨rfl,A2⟩
theorem ReckR.val {w0 w:World} {d:Nat} {S:SetL} {A:Option Addr} {c:Nat} {north:Bool} {D N:Int} {e:Ending} {w':World} (h:ReckR w0 w d S A c north D N e w'):∃ A9 n9 c9,e = .returned (.slice A9 n9 c9) /\ ∃ ap' bf',w.grownBy w' (some d) /\ WorkAt w0 w' d S A c ap' bf' /\
  ((A9 = none /\ n9 = 0 /\ c9 = 0 /\ ∀ a,a < S.n.toNat -> RowDone S north D N ap' a) \/ ∃ g l,A9 = some ⟨g,0,none⟩ /\ n9 = l.length /\ w'.ownsRow w.heap.size 34 2 (.slice (some ⟨g,0,none⟩) l.length c9) l.length ((l.map legI).flatMap encG) /\ Sheet.Clash S.n.toNat (joOf north S.J) D N l):=by
 obtain ⟨ap',bf',h1,h2,h3⟩:=h;rcases h3 with ⟨rfl,hn⟩ | ⟨g,c,l,rfl,h4,h5⟩
 ·exact ⟨_,_,_,rfl,ap',bf',h1,h2,.inl ⟨rfl,rfl,rfl,hn⟩⟩
 ·exact ⟨_,_,_,rfl,ap',bf',h1,h2,.inr ⟨g,l,rfl,rfl,h4,h5⟩⟩
theorem calms_of {S:SetL} {north:Bool} {D N:Int} {ap:Nat -> Int} (h:∀ a,a < S.n.toNat -> RowDone S north D N ap a):Sheet.Calms S.n.toNat (joOf north S.J) D N (fun a=>rowOf S.n.toNat ap a):=h
def WorstV (w:World) (S:SetL) (north:Bool) (v7:Value) (N D:Int) (W:World):Prop :=
 (N = 0 /\ v7 = .slice none 0 0) \/ ∃ g c l,v7 = .slice (some ⟨g,0,none⟩) l.length c /\ W.ownsRow w.heap.size 34 2 (.slice (some ⟨g,0,none⟩) l.length c) l.length ((l.map legI).flatMap encG) /\ RoundP S north l (N,D)
theorem WorstV.grown {w W W':World} {S:SetL} {north:Bool} {v7:Value} {N D:Int} (h:WorstV w S north v7 N D W) {r:Nat} (hg:W.grownBy W' (some r)) (hr:r < w.heap.size):WorstV w S north v7 N D W':=by
 rcases h with h | ⟨g,c,l,h1,h2,h3⟩
 ·exact .inl h
 ·exact .inr ⟨g,c,l,h1,own_sm h2 (Sm.of_grown (b:=w.heap.size) hg (fun k e=>by cases e;exact .inl hr)) (Nat.le_refl _),h3⟩
theorem WorstV.sm {w W W':World} {S:SetL} {north:Bool} {v7:Value} {N D:Int} (h:WorstV w S north v7 N D W) (hs:Sm w.heap.size W W'):WorstV w S north v7 N D W':=by
 rcases h with h | ⟨g,c,l,h1,h2,h3⟩
 ·exact .inl h
 ·exact .inr ⟨g,c,l,h1,own_sm h2 hs (Nat.le_refl _),h3⟩
theorem WorstV.other {w W W':World} {S:SetL} {north:Bool} {v7:Value} {N D:Int} (h:WorstV w S north v7 N D W) {r:Nat} {t:TypeId} {cs:Array Value} (hg:W.grownBy W' (some r)) (hb:Blk W r t cs) (hne:34 ≠ t):WorstV w S north v7 N D W':=by
 rcases h with h | ⟨g,c,l,h1,h2,h3⟩
 ·exact .inl h
 ·exact .inr ⟨g,c,l,h1,own_other h2 hg hb hne,h3⟩
structure LeI (w0 w:World) (d s:Nat) (kw:FuncId) (S:SetL) (A:Option Addr) (c:Nat) (north:Bool) (N D:Int) (v7:Value) (ap:Nat -> Int) (bf:Nat -> Nat × Bool) (W:World):Prop where
 fr:FrD w d (s + 1 + 1 + 1) [(s,101,#[.func (.func kw) #[] #[]]),(s + 1,29,#[.int .i64 0,.int .i64 0]),(s + 1 + 1,29,#[.int .i64 N,.int .i64 D])] [] W
 wk:WorkAt w0 W d S A c ap bf
 pr:Sheet.Proved (Sheet.legs (joOf north S.J)) S.n.toNat N D
 n1:N <= 12000000
 low:Sheet.low N D = (N,D)
 ws:WorstV w S north v7 N D W
theorem LeI.play {w0 w:World} {d s:Nat} {kw:FuncId} {S:SetL} {A:Option Addr} {c:Nat} {north:Bool} {N D:Int} {v7:Value} {ap:Nat -> Int} {bf:Nat -> Nat × Bool} {W:World} (h:LeI w0 w d s kw S A c north N D v7 ap bf W) (hn:S.n.toNat <= 12):PlayOk N D /\ D <= 12:=by
 have h1:=(h.pr.part hn).2.2;have:=h.pr.1;have:=h.pr.2.1;have:=h.n1;exact ⟨⟨by omega,by omega,by omega,by omega⟩,h1⟩
def cellI (W:World) (p:Addr):Int:=match W.cell? p with | some (.int _ n)=>n | _=>0
theorem cellI_of {W:World} {p:Addr} {n:Int} (h:W.cell? p = some (.int .i64 n)):cellI W p = n:=by unfold cellI;rw [h]
def LeastR (w0 w:World) (d:Nat) (S:SetL) (A:Option Addr) (c:Nat) (north:Bool) (e:Ending) (w':World):Prop :=
 ∃ N D v7 ap' bf',e = .returned (.tuple #[.agg #[.int .i64 N,.int .i64 D],v7]) /\ w.grownBy w' (some d) /\ WorkAt w0 w' d S A c ap' bf' /\ LP S north (N,D) /\ WorstV w S north v7 N D w'
set_option maxRecDepth 100000 in
set_option maxHeartbeats 4000000 in
theorem least_any {kw:FuncId} {north:Bool} (hK:WayOk kw north) (S:SetL) (A:Option Addr) (c d:Nat) (ap:Nat -> Int) (bf:Nat -> Nat × Bool) (w0 w:World) (hW:WorkAt w0 w d S A c ap bf) (hS:SetOk S) :
  Calls Tryz.prog 100 #[.pointer (some ⟨d,0,none⟩),.agg #[.func (.func kw) #[] #[]]] w (LeastR w0 w d S A c north):=by
 obtain ⟨s,hs⟩:∃ s,w.heap.size = s:=⟨_,rfl⟩;have hn1:=hS.n1;have hn2:=hS.n2;have hn12:S.n.toNat <= 12:=by omega
 have hds:d < s:=hs ▸ hW.lt;have F0:=(((FrD.start w hW.lt).alloc rfl 101 #[.func (.func kw) #[] #[]]).alloc (by simp) 29 #[.int .i64 0,.int .i64 0]).alloc (by simp) 29 #[.int .i64 0,.int .i64 1];simp only [List.nil_append,List.cons_append] at F0;rw [hs] at F0;have HI0:Hid (LeI w0 w d s kw S A c north 0 1 (.slice none 0 0) ap bf (((w.alloc (.cells #[.func (.func kw) #[] #[]] 101)).alloc (.cells #[.int .i64 0,.int .i64 0] 29)).alloc (.cells #[.int .i64 0,.int .i64 1] 29))):=Lib.hid ⟨F0,hW.later (((Aft.alloc w _).then_alloc _).then_alloc _),Sheet.Proved.start _ _,by decide,by decide,.inl ⟨rfl,rfl⟩⟩;have HS:=Lib.hid hS;have HKW:=Lib.hid hK;have hw0s:=hW.aft.size;have qE:∀ (w:World) (a:Option Addr) (n c n' c':Nat),(binOp .eql 25 (.slice a n c) (.slice none n' c')).run Tryz.prog w = .ok (.bool a.isNone) w:=fun w a n c n' c'=>Lib.run_eql_slice_nil w _ _ a n c n' c' Tryz.underlying25
 clear F0 hS hK hW;go_enter Tryz.func100,Tryz.ntmps100;go_wp2_with fail
 refine wp_scope_straight ?_;go_wp2_with fail
 refine wp_label ?_;go_wp2_with fail
 try rw [hs]
 generalize ((w.alloc (.cells #[.func (.func kw) #[] #[]] 101)).alloc (.cells #[.int .i64 0,.int .i64 0] 29)).alloc (.cells #[.int .i64 0,.int .i64 1] 29) = W1 at *;obtain ⟨J,hJ⟩:∃ J:Act -> World -> Prop,J = fun a9 W=>∃ (u8 u10 u11 u12 u13 u14 u15 u16 u17 u18 u19 u20 u21 u22 v7:Value) (N D:Int) (ap':Nat -> Int) (bf':Nat -> Nat × Bool),a9 = { tmps:=#[.pointer (some ⟨d,0,none⟩),.agg #[.func (.func kw) #[] #[]],undef,.pointer (some ⟨s,0,none⟩),.pointer (some ⟨s + 1,0,none⟩),.slice none 0 0,.pointer (some ⟨s + 1 + 1,0,none⟩),v7,u8,.agg #[.int .i64 0,.int .i64 1],u10,u11,u12,u13,u14,u15,u16,u17,u18,u19,u20,u21,u22],defers:=[] } /\ LeI w0 w d s kw S A c north N D v7 ap' bf' W:=⟨_,rfl⟩
 obtain ⟨mu,hmu⟩:∃ mu:Act -> World -> Nat,mu = fun _ W=>(400000000000 - Sheet.ahead (cellI W ⟨s + 1 + 1,0,none⟩) (cellI W ⟨s + 1 + 1,1,none⟩)).toNat:=⟨_,rfl⟩
 refine wp_loop J mu (by rw [hJ];exact ⟨_,_,_,_,_,_,_,_,_,_,_,_,_,_,_,0,1,ap,bf,rfl,HI0.out⟩) ?_;intro a9 wr hrel;rw [hJ] at hrel;have HJ:=Lib.hid hJ;have HMU:=Lib.hid hmu;clear hJ hmu HI0;obtain ⟨u8,u10,u11,u12,u13,u14,u15,u16,u17,u18,u19,u20,u21,u22,v7,N,D,ap',bf',rfl,hi⟩:=hrel;have HI:=Lib.hid hi;have HPL:=Lib.hid (hi.play hn12);have HRK:=Lib.hid (reckon_any HKW.out S A c d ap' bf' w0 wr hi.wk HS.out N D HPL.out.1);have y1:wr.cell? ⟨s,0,none⟩ = some (.func (.func kw) #[] #[]):=(hi.fr.nth 0 rfl).cell 0;have y2:=(hi.fr.nth 0 rfl).lt;have y3:wr.cell? ⟨s + 1 + 1,0,none⟩ = some (.int .i64 N):=(hi.fr.nth 2 rfl).cell 0;have y4:wr.cell? ⟨s + 1 + 1,1,none⟩ = some (.int .i64 D):=(hi.fr.nth 2 rfl).cell 1;have y5:=(hi.fr.nth 2 rfl).lt;have HM0:Hid (mu { tmps:=#[.pointer (some ⟨d,0,none⟩),.agg #[.func (.func kw) #[] #[]],undef,.pointer (some ⟨s,0,none⟩),.pointer (some ⟨s + 1,0,none⟩),.slice none 0 0,.pointer (some ⟨s + 1 + 1,0,none⟩),v7,u8,.agg #[.int .i64 0,.int .i64 1],u10,u11,u12,u13,u14,u15,u16,u17,u18,u19,u20,u21,u22],defers:=[] } wr = (400000000000 - Sheet.ahead N D).toNat):=Lib.hid (by rw [HMU.out];dsimp only;rw [cellI_of y3,cellI_of y4]);clear hi;go_upto_region 4 with (go_at_call 44;refine HRK.out.mono ?_;rintro e W7 hfin;obtain ⟨A9,n9,c9,rfl,ap7,bf7,hg7,hw7,hfin2⟩:=hfin.val;have HG7:=Lib.hid hg7;have HW7:=Lib.hid hw7;have HFIN:=Lib.hid hfin2;clear hfin hfin2 hg7 hw7)
 clear y1 y2 y3 y4 y5 HRK;have HFR:=Lib.hid (HI.out.fr.grown HG7.out (.inl rfl));have HWS:=Lib.hid (HI.out.ws.grown HG7.out (by omega));rcases HFIN.out with ⟨rfl,rfl,rfl,hdone⟩ | ⟨g7,l7,rfl,rfl,ho7,hcl7⟩
 ·have HLP:Hid (LP S north (N,D)):=Lib.hid ⟨HI.out.pr.least ((calms_of hdone).most (HS.out.ok north)),HI.out.low,HI.out.n1,HPL.out.2⟩;have y3:W7.cell? ⟨s + 1 + 1,0,none⟩ = some (.int .i64 N):=(HFR.out.nth 2 rfl).cell 0;have y4:W7.cell? ⟨s + 1 + 1,1,none⟩ = some (.int .i64 D):=(HFR.out.nth 2 rfl).cell 1;have y5:=(HFR.out.nth 2 rfl).lt;have z0:=(HFR.out.nth 1 rfl).cell 0;have z1:=(HFR.out.nth 1 rfl).cell 1;have z2:=(HFR.out.nth 1 rfl).lt;have z3:=(HFR.out.nth 1 rfl).frozen 0;have z4:=(HFR.out.nth 1 rfl).frozen 1;simp only [List.getElem?_toArray,List.getElem?_cons_zero,List.getElem?_cons_succ] at z0 z1;clear hdone HFIN HM0;go_wp2_with fail
  simp only [Exit.noGoto_ret,Exit.inBlock,Exit.then];have hg9:W7.grownBy ((W7.setCell ⟨s + 1,0,none⟩ (.int .i64 N)).setCell ⟨s + 1,1,none⟩ (.int .i64 D)) (some (s + 1)):=only_setCell (only_setCell (only_refl _ _) (p:=⟨s + 1,0,none⟩) (.inl rfl) _) (p:=⟨s + 1,1,none⟩) (.inl rfl) _;have B2:=((HFR.out.nth 1 rfl).store 0 (.int .i64 N)).store 1 (.int .i64 D);generalize (W7.setCell ⟨s + 1,0,none⟩ (.int .i64 N)).setCell ⟨s + 1,1,none⟩ (.int .i64 D) = X at *;have z0:X.cell? ⟨s + 1,0,none⟩ = some (.int .i64 N):=B2.cell 0;have z1:X.cell? ⟨s + 1,1,none⟩ = some (.int .i64 D):=B2.cell 1;refine bodyPost_ret (v:=.tuple #[.agg #[.int .i64 N,.int .i64 D],v7]) (by simp [results,Tryz.results100,go_sem,z0,z1]) rfl ⟨N,D,v7,ap7,bf7,rfl,only_trans2 HFR.out.grow hg9 (.inr (by omega)),HW7.out.grown hg9 (fun e=>by have e:d = s + 1:=Option.some.inj e;omega) (fun k e=>by have e:s + 1 = k:=Option.some.inj e;omega),HLP.out,?_⟩;exact HWS.out.other hg9 (HFR.out.nth 1 rfl) (by decide)
 ·have HST:=Lib.hid (Sheet.least_step HI.out.pr hcl7);obtain ⟨hc1,hc2,q0,hq0,hc3⟩:=hcl7;have HWQ:=Lib.hid hq0;have hok:=IsWalk.ok hq0;rw [joOf_len] at hok;have hsl:=sumN_le (north:=north) HS.out hok;obtain ⟨A8,c8,hA8,_,hrow8,_⟩:=own_flat (enc:=encG) (l:=l7.map legI) (fun _=>rfl) (by rw [List.length_map];exact ho7) (by rw [List.length_map];omega);rw [List.length_map] at hA8;cases hA8;have HMN:=Lib.hid (mean_any HKW.out S A c d ap7 bf7 w0 W7 HW7.out HS.out l7 _ c9 hrow8 hok hc1 (by omega));have hneg:=HST.out.1;have hna:(((sumN (joOf north S.J) l7).natAbs:Nat):Int) = -(sumN (joOf north S.J) l7):=by omega
  rw [hna] at HMN;have hln:=low_le (n:=-(sumN (joOf north S.J) l7)) (d:=l7.length) (by omega) (by omega);have hll:=low_low (-(sumN (joOf north S.J) l7)) l7.length (by omega);have HRP:Hid (RoundP S north l7 (Sheet.low (-(sumN (joOf north S.J) l7)) l7.length)):=Lib.hid ⟨hc1,by omega,⟨q0,hq0⟩,hneg,rfl⟩;obtain ⟨⟨N2,D2⟩,hND⟩:∃ p,Sheet.low (-(sumN (joOf north S.J) l7)) l7.length = p:=⟨_,rfl⟩;rw [hND] at HMN hln hll HRP HST;dsimp only at HMN hln hll;have hN2:N2 <= 12000000:=by omega
  have HLL:=Lib.hid hll;have HO7:=Lib.hid ho7;have z0:W7.cell? ⟨s + 1 + 1,0,none⟩ = some (.int .i64 N):=(HFR.out.nth 2 rfl).cell 0;have z1:W7.cell? ⟨s + 1 + 1,1,none⟩ = some (.int .i64 D):=(HFR.out.nth 2 rfl).cell 1;have z2:=(HFR.out.nth 2 rfl).lt;have z3:=(HFR.out.nth 2 rfl).frozen 0;have z4:=(HFR.out.nth 2 rfl).frozen 1;have y1:W7.cell? ⟨s,0,none⟩ = some (.func (.func kw) #[] #[]):=(HFR.out.nth 0 rfl).cell 0;have y2:=(HFR.out.nth 0 rfl).lt;clear hq0 hc3 hsl hrow8 hna hND ho7 HFIN hok hll;go_wp2_with (go_at_call 38;refine HMN.out.mono ?_;rintro e W8 ⟨rfl,u8,rfl⟩)
  clear z0 z1 z2 z3 z4 y1 y2;have hg9:(W7.lat u8).grownBy (((W7.lat u8).setCell ⟨s + 1 + 1,0,none⟩ (.int .i64 N2)).setCell ⟨s + 1 + 1,1,none⟩ (.int .i64 D2)) (some (s + 1 + 1)):=only_setCell (only_setCell (only_refl _ _) (p:=⟨s + 1 + 1,0,none⟩) (.inl rfl) _) (p:=⟨s + 1 + 1,1,none⟩) (.inl rfl) _;have ha8:Aft W7 (W7.lat u8):=⟨u8,rfl⟩;have F9:=((HFR.out.later ha8).store (g:=s + 1 + 1) (t:=29) (cs:=#[.int .i64 N,.int .i64 D]) (by simp) 0 (.int .i64 N2) (bs':=[(s,101,#[.func (.func kw) #[] #[]]),(s + 1,29,#[.int .i64 0,.int .i64 0]),(s + 1 + 1,29,#[.int .i64 N2,.int .i64 D])]) (by simp;omega)).store (g:=s + 1 + 1) (t:=29) (cs:=#[.int .i64 N2,.int .i64 D]) (by simp) 1 (.int .i64 D2) (bs':=[(s,101,#[.func (.func kw) #[] #[]]),(s + 1,29,#[.int .i64 0,.int .i64 0]),(s + 1 + 1,29,#[.int .i64 N2,.int .i64 D2])]) (by simp;omega);have W9k:=(HW7.out.later ha8).grown hg9 (fun e=>by have e:d = s + 1 + 1:=Option.some.inj e;omega) (fun k e=>by have e:s + 1 + 1 = k:=Option.some.inj e;omega);have O9:=own_other (own_aft (World.ownsRow.mono HO7.out HI.out.fr.grow.size) ha8) hg9 ((HFR.out.later ha8).nth 2 rfl) (by decide);generalize ((W7.lat u8).setCell ⟨s + 1 + 1,0,none⟩ (.int .i64 N2)).setCell ⟨s + 1 + 1,1,none⟩ (.int .i64 D2) = X at *;have HL2:Hid (LeI w0 w d s kw S A c north N2 D2 (.slice (some ⟨g7,0,none⟩) l7.length c9) ap7 bf7 X):=Lib.hid ⟨F9,W9k,HST.out.2.1,hN2,HLL.out,.inr ⟨g7,c9,l7,rfl,O9,HRP.out⟩⟩;refine And.intro ?_ ?_
  ·rw [HJ.out];exact ⟨_,_,_,_,_,_,_,_,_,_,_,_,_,_,_,N2,D2,ap7,bf7,rfl,HL2.out⟩
  ·rw [HM0.out,HMU.out];dsimp only;rw [cellI_of (n:=N2) ((F9.nth 2 rfl).cell 0),cellI_of (n:=D2) ((F9.nth 2 rfl).cell 1)];have h1:=HI.out.pr.part hn12;have h2:=HST.out.2.1.part hn12;have h3:=Sheet.ahead_lt HI.out.pr.1 HST.out.2.1.1 h1.1 h2.1 HST.out.2.2;have h4:Sheet.ahead N2 D2 <= 27720 * N2:=Int.ediv_le_self _ (by omega);have h5:0 <= Sheet.ahead N D:=Int.ediv_nonneg (by have:=HI.out.pr.2.1;omega) (by have:=HI.out.pr.1;omega);omega
end Go.Proofs
end
section
/- Walks: plays,Play. -/
namespace Go.Proofs
open Go.RowKit
attribute [local go_sem] Oper.semAt_some
theorem idx114a (w:World):(Instr.index 102 (.agg #[.func (.func 95) #[] #[],.func (.func 96) #[] #[]]) (.int .i64 0)).run Tryz.prog w = .ok (.agg #[.func (.func 95) #[] #[]]) w:=by kernel_rfl
theorem idx114b (w:World):(Instr.index 102 (.agg #[.func (.func 95) #[] #[],.func (.func 96) #[] #[]]) (.int .i64 1)).run Tryz.prog w = .ok (.agg #[.func (.func 96) #[] #[]]) w:=by kernel_rfl
theorem way_ex (k:Nat) (hk:k < 2):∃ kw north,WayOk kw north /\ (∀ w,(Instr.index 102 (.agg #[.func (.func 95) #[] #[],.func (.func 96) #[] #[]]) (.int .i64 (k:Nat))).run Tryz.prog w = .ok (.agg #[.func (.func kw) #[] #[]]) w) /\ ((k:Int) == 1) = north /\ north = decide (k = 1):=by
 have h:k = 0 \/ k = 1:=by omega
 rcases h with rfl | rfl
 ·exact ⟨95,false,way81,idx114a,rfl,rfl⟩
 ·exact ⟨96,true,way82,idx114b,rfl,rfl⟩
theorem ne37 (a b c d:Int) (W:World):(binOp .neq 29 (.agg #[.int .i64 a,.int .i64 b]) (.agg #[.int .i64 c,.int .i64 d])).run Tryz.prog W = .ok (.bool (!(a == c && b == d))) W:=by
 by_cases h:a = c <;> by_cases h2:b = d <;> simp [go_sem,h,h2]
theorem WorstV.base {w w2 W:World} {S:SetL} {north:Bool} {v7:Value} {N D:Int} (h:WorstV w2 S north v7 N D W) (hb:w.heap.size <= w2.heap.size):WorstV w S north v7 N D W:=by
 rcases h with h | ⟨g,c,l,h1,h2,h3⟩
 ·exact .inl h
 ·exact .inr ⟨g,c,l,h1,World.ownsRow.mono h2 hb,h3⟩
def PlayK (S:SetL) (k:Nat) (p:Int × Int):Prop:=(k = 0 /\ p = (0,1)) \/ (k = 1 /\ ∃ p0,LP S false p0 /\ p = gr2 (0,1) p0) \/ (k = 2 /\ ∃ p0 p1,LP S false p0 /\ LP S true p1 /\ p = gr2 (gr2 (0,1) p0) p1)
theorem PlayK.next {S:SetL} {k:Nat} {p q:Int × Int} {north:Bool} (h:PlayK S k p) (hk:k < 2) (hn:north = decide (k = 1)) (hq:LP S north q):PlayK S (k + 1) (gr2 p q):=by
 rcases h with ⟨rfl,rfl⟩ | ⟨rfl,p0,h0,rfl⟩ | ⟨rfl,_⟩
 ·subst hn;exact .inr (.inl ⟨rfl,q,hq,rfl⟩)
 ·subst hn;exact .inr (.inr ⟨rfl,p0,q,h0,hq,rfl⟩)
 ·omega
theorem LP.ratS {S:SetL} {north:Bool} {p:Int × Int} (h:LP S north p):RatS p:=⟨h.least.p0,by have:=h.n1;omega,by have:=h.least.q0;omega,by have:=h.d1;omega⟩
theorem PlayK.ratS {S:SetL} {k:Nat} {p:Int × Int} (h:PlayK S k p):RatS p:=by
 have h0:RatS (0,1):=⟨by decide,by decide,by decide,by decide⟩;rcases h with ⟨rfl,rfl⟩ | ⟨rfl,p0,h1,rfl⟩ | ⟨rfl,p0,p1,h1,h2,rfl⟩
 ·exact h0
 ·exact h0.gr2 h1.ratS
 ·exact (h0.gr2 h1.ratS).gr2 h2.ratS
def PlayOf (S:SetL) (p:Int × Int):Prop:=PlayK S 2 p
theorem PlayOf.same {S:SetL} {p q:Int × Int} (h:PlayOf S p) (h':PlayOf S q):p = q:=by
 rcases h with ⟨h,_⟩ | ⟨h,_⟩ | ⟨_,p0,p1,h1,h2,rfl⟩
 ·cases h
 ·cases h
 rcases h' with ⟨h,_⟩ | ⟨h,_⟩ | ⟨_,q0,q1,h3,h4,rfl⟩
 ·cases h
 ·cases h
 rw [h1.same h3,h2.same h4]
structure PlI (w0 w:World) (d s:Nat) (S:SetL) (A:Option Addr) (c:Nat) (k:Nat) (p:Int × Int) (nb:Bool) (v:Value) (ap:Nat -> Int) (bf:Nat -> Nat × Bool) (W:World):Prop where
 fr:FrD w d (s + 1 + 1 + 1 + 1) [(s,29,#[.int .i64 0,.int .i64 0]),(s + 1,27,#[.bool false,.slice none 0 0]),(s + 1 + 1,29,#[.int .i64 p.1,.int .i64 p.2]),(s + 1 + 1 + 1,27,#[.bool nb,v])] [] W
 wk:WorkAt w0 W d S A c ap bf
 pl:PlayK S k p
 ws:WorstV w S nb v p.1 p.2 W
def PlaysR (w0 w:World) (d:Nat) (S:SetL) (A:Option Addr) (c:Nat) (e:Ending) (w':World):Prop :=
 ∃ p nb v ap' bf',e = .returned (.tuple #[.agg #[.int .i64 p.1,.int .i64 p.2],.agg #[.bool nb,v]]) /\ w.grownBy w' (some d) /\ WorkAt w0 w' d S A c ap' bf' /\ PlayOf S p /\ WorstV w S nb v p.1 p.2 w'
theorem prs_one {W:World} {b:Nat} {x y:Int} (h:Blk W b 29 #[.int .i64 x,.int .i64 y]):Prs W (some ⟨b,0,none⟩) [(x,y)]:=by
 refine ⟨by show 2 <= 17592186043904;decide,.inr ⟨b,0,rfl,h.lt,fun i hi=>?_⟩⟩;have:i = 0:=by simp at hi;omega
 subst this;refine ⟨[.int .i64 x,.int .i64 y],rfl,rfl,fun j hj=>?_⟩
 match j,hj with
 | 0,_=>exact h.cell 0
 | 1,_=>exact h.cell 1
theorem WorstV.slice {w W:World} {S:SetL} {north:Bool} {v7:Value} {N D:Int} (h:WorstV w S north v7 N D W):∃ A n c,v7 = .slice A n c:=by
 rcases h with ⟨_,rfl⟩ | ⟨g,c,l,rfl,_⟩
 ·exact ⟨_,_,_,rfl⟩
 ·exact ⟨_,_,_,rfl⟩
set_option maxRecDepth 100000 in
set_option maxHeartbeats 4000000 in
theorem plays_any (S:SetL) (A:Option Addr) (c d:Nat) (ap:Nat -> Int) (bf:Nat -> Nat × Bool) (w0 w:World) (hW:WorkAt w0 w d S A c ap bf) (hS:SetOk S) :
  Calls Tryz.prog 50 #[.pointer (some ⟨d,0,none⟩)] w (PlaysR w0 w d S A c):=by
 obtain ⟨s,hs⟩:∃ s,w.heap.size = s:=⟨_,rfl⟩;have hds:d < s:=hs ▸ hW.lt;have hw0s:=hW.aft.size;have F0:=((((FrD.start w hW.lt).alloc rfl 29 #[.int .i64 0,.int .i64 0]).alloc (by simp) 27 #[.bool false,.slice none 0 0]).alloc (by simp) 29 #[.int .i64 0,.int .i64 1]).alloc (by simp) 27 #[.bool false,.slice none 0 0];simp only [List.nil_append,List.cons_append] at F0;rw [hs] at F0;have HA0:=Lib.hid ((((Aft.alloc w (.cells #[.int .i64 0,.int .i64 0] 29)).then_alloc (.cells #[.bool false,.slice none 0 0] 27)).then_alloc (.cells #[.int .i64 0,.int .i64 1] 29)).then_alloc (.cells #[.bool false,.slice none 0 0] 27));have HF0:=Lib.hid F0;have HS:=Lib.hid hS;have HW:=Lib.hid hW;clear F0 hS hW;go_enter Tryz.func50,Tryz.ntmps50;go_upto_region 2 with fail
 try rw [hs]
 generalize (((w.alloc (.cells #[.int .i64 0,.int .i64 0] 29)).alloc (.cells #[.bool false,.slice none 0 0] 27)).alloc (.cells #[.int .i64 0,.int .i64 1] 29)).alloc (.cells #[.bool false,.slice none 0 0] 27) = W1 at *;have HI0:Hid (PlI w0 w d s S A c 0 (0,1) false (.slice none 0 0) ap bf W1):=Lib.hid ⟨HF0.out,HW.out.later HA0.out,.inl ⟨rfl,rfl⟩,.inl ⟨rfl,rfl⟩⟩;clear HF0 HW HA0;go_upto_block 0 with (go_at_call 37;refine (both_any _).mono ?_;rintro e W2 ⟨rfl,u,rfl⟩)
 have HI1:Hid (PlI w0 w d s S A c 0 (0,1) false (.slice none 0 0) ap bf (W1.lat u)):=Lib.hid ⟨HI0.out.fr.later ⟨u,rfl⟩,HI0.out.wk.later ⟨u,rfl⟩,HI0.out.pl,.inl ⟨rfl,rfl⟩⟩;clear HI0;generalize W1.lat u = W2 at *;refine wp_block ?_;go_loopw [14] (fun i wr=>∃ k:Nat,i = .int .i64 (k:Nat) /\ k <= 2 /\ ∃ p nb v ap' bf',PlI w0 w d s S A c k p nb v ap' bf' wr) (fun i _=>2 - (intOf i).toNat)
 case atStart=>exact ⟨0,rfl,by omega,_,_,_,_,_,HI1.out⟩
 case round =>
  obtain ⟨k,rfl,hk,p,nb,v,ap1,bf1,hI⟩:=hrel;have HI:=Lib.hid hI;clear HI1 hI;by_cases hk2:k < 2
  ·have t1:decide ((k:Int) < 2) = true:=by simp;omega
   obtain ⟨kw,north,hK,hix,hk1,hno⟩:=way_ex k hk2;have HKW:=Lib.hid hK;have HNO:=Lib.hid hno;obtain ⟨X1,hX1⟩:∃ X1,wr.alloc (.cells #[.func (.func kw) #[] #[]] 101) = X1:=⟨_,rfl⟩;have hax:=hX1 ▸ Aft.alloc wr (.cells #[.func (.func kw) #[] #[]] 101);have HBX:=Lib.hid (hX1 ▸ Blk.new wr 101 #[.func (.func kw) #[] #[]]);have HF1:=Lib.hid (HI.out.fr.later hax);have HW1:=Lib.hid (HI.out.wk.later hax);have HWS1:=Lib.hid (HI.out.ws.sm (Sm.of_aft hax));have HLE:=Lib.hid (least_any hK S A c d ap1 bf1 w0 X1 HW1.out HS.out);obtain ⟨z,hz⟩:∃ z,wr.heap.size = z:=⟨_,rfl⟩;rw [hz] at HBX;have y1:X1.cell? ⟨z,0,none⟩ = some (.func (.func kw) #[] #[]):=HBX.out.cell 0;have y2:=HBX.out.lt;clear hK hno hax;go_upto_region 5 with fail
   try rw [hX1]
   try rw [hz]
   clear hX1 hix hz;go_upto_region 6 with (go_at_call 100;refine HLE.out.mono ?_;rintro e W3 ⟨N,D,v7,ap2,bf2,rfl,hg3,hw3,hlp,hws⟩;obtain ⟨A9,n9,c9,rfl⟩:=hws.slice;have HG3:=Lib.hid hg3;have HW3:=Lib.hid hw3;have HLP:=Lib.hid hlp;have HWS:=Lib.hid hws;clear hg3 hw3 hlp hws)
   clear y1 y2 HLE;obtain ⟨X4,hX4⟩:∃ X4,W3.alloc (.cells #[.int .i64 N,.int .i64 D] 29) = X4:=⟨_,rfl⟩;obtain ⟨z4,hz4⟩:∃ z4,W3.heap.size = z4:=⟨_,rfl⟩;have ha4:Aft W3 X4:=hX4 ▸ Aft.alloc W3 _;have HB4:Hid (Blk X4 z4 29 #[.int .i64 N,.int .i64 D]):=Lib.hid (by rw [<- hX4,<- hz4];exact Blk.new W3 29 _);have HF4:=Lib.hid ((HF1.out.grown HG3.out (.inl rfl)).later ha4);have hX1s:=HF1.out.grow.size;have HW4:=Lib.hid (HW3.out.later ha4);have HWN4:=Lib.hid ((HWS.out.base hX1s).sm (Sm.of_aft ha4));have HWO4:=Lib.hid ((HWS1.out.grown HG3.out (by omega)).sm (Sm.of_aft ha4));rw [hX4];rw [hz4];clear ha4 hX4 hz4 HG3 HW3 HWS HWS1 HF1 HW1 HBX
   have HGR:Hid (∀ X b,Blk X b 29 #[.int .i64 N,.int .i64 D] -> Calls Tryz.prog 79 #[.agg #[.int .i64 p.1,.int .i64 p.2],.slice (some ⟨b,0,none⟩) 1 1] X fun e w'=>e = .returned (.agg #[.int .i64 (gr2 p (N,D)).1,.int .i64 (gr2 p (N,D)).2]) /\ Aft X w'):=Lib.hid fun X b hb =>
    greatest_any p (some ⟨b,0,none⟩) [(N,D)] 1 X (prs_one hb) HI.out.pl.ratS (by intro r hr;rw [List.mem_singleton] at hr;subst hr;exact HLP.out.ratS)
   have HPN:=Lib.hid (HI.out.pl.next hk2 HNO.out HLP.out);obtain ⟨⟨q1,q2⟩,hq⟩:∃ q,gr2 p (N,D) = q:=⟨_,rfl⟩;rw [hq] at HGR HPN;have HQ:=Lib.hid hq;have y1:X4.cell? ⟨s + 1 + 1,0,none⟩ = some (.int .i64 p.1):=(HF4.out.nth 2 rfl).cell 0;have y2:X4.cell? ⟨s + 1 + 1,1,none⟩ = some (.int .i64 p.2):=(HF4.out.nth 2 rfl).cell 1;have y3:=(HF4.out.nth 2 rfl).lt;have y4:X4.cell? ⟨z4,0,none⟩ = some (.int .i64 N):=HB4.out.cell 0;have y5:X4.cell? ⟨z4,1,none⟩ = some (.int .i64 D):=HB4.out.cell 1;have y6:=HB4.out.lt;have HA5:=Lib.hid (Aft.alloc X4 (.cells #[.int .i64 N,.int .i64 D] 29));have HB5:=Lib.hid (Blk.new X4 29 #[.int .i64 N,.int .i64 D]);clear hq;go_upto_region 7 with (go_at_call 79;refine (HGR.out _ _ HB5.out).mono ?_;rintro e W7 ⟨rfl,u7,rfl⟩)
   obtain ⟨Y,hY⟩:∃ Y,(((X4.alloc (.cells #[.int .i64 N,.int .i64 D] 29)).lat u7).alloc (.cells #[.int .i64 q1,.int .i64 q2] 29)) = Y:=⟨_,rfl⟩;obtain ⟨zy,hzy⟩:∃ zy,((X4.alloc (.cells #[.int .i64 N,.int .i64 D] 29)).lat u7).heap.size = zy:=⟨_,rfl⟩;have hay:Aft X4 Y:=hY ▸ ((HA5.out.then_lat u7).then_alloc _);have HBY:Hid (Blk Y zy 29 #[.int .i64 q1,.int .i64 q2]):=Lib.hid (by rw [<- hY,<- hzy];exact Blk.new _ 29 _);have HFY:=Lib.hid (HF4.out.later hay);have HWY:=Lib.hid (HW4.out.later hay);have HWNY:=Lib.hid (HWN4.out.sm (Sm.of_aft hay));have HWOY:=Lib.hid (HWO4.out.sm (Sm.of_aft hay));have HB4Y:=Lib.hid (HB4.out.aft hay)
   try rw [hY]
   try rw [hzy]
   clear hay hY hzy HF4 HW4 HWN4 HWO4 HB4 y1 y2 y3 y4 y5 y6 HA5 HB5 HGR;have y1:Y.cell? ⟨s + 1 + 1,0,none⟩ = some (.int .i64 p.1):=(HFY.out.nth 2 rfl).cell 0;have y2:Y.cell? ⟨s + 1 + 1,1,none⟩ = some (.int .i64 p.2):=(HFY.out.nth 2 rfl).cell 1;have y3:=(HFY.out.nth 2 rfl).lt;have y4:Y.cell? ⟨zy,0,none⟩ = some (.int .i64 q1):=HBY.out.cell 0;have y5:Y.cell? ⟨zy,1,none⟩ = some (.int .i64 q2):=HBY.out.cell 1;have y6:=HBY.out.lt;have qN:=ne37;by_cases hm:moreB (N,D) p = true
   ·have eq1:(q1,q2) = (N,D):=by rw [<- HQ.out];unfold gr2;rw [if_pos hm]
    cases eq1
    have hne:(!(N == p.1 && D == p.2)) = true:=by
     rw [Bool.not_eq_true',Bool.eq_false_iff];intro h;simp only [Bool.and_eq_true,beq_iff_eq] at h;unfold moreB at hm;rw [decide_eq_true_eq,<- h.1,<- h.2] at hm;dsimp only at hm;omega
    have z1:Y.cell? ⟨z4,0,none⟩ = some (.int .i64 N):=HB4Y.out.cell 0;have z2:Y.cell? ⟨z4,1,none⟩ = some (.int .i64 D):=HB4Y.out.cell 1;have z3:=HB4Y.out.lt;have f1:=(HFY.out.nth 2 rfl).frozen 0;have f2:=(HFY.out.nth 2 rfl).frozen 1;have f3:=(HFY.out.nth 3 rfl).frozen 0;have f4:=(HFY.out.nth 3 rfl).frozen 1;have f5:=(HFY.out.nth 3 rfl).lt;have f6:=(HFY.out.nth 3 rfl).cell 0;have f7:=(HFY.out.nth 3 rfl).cell 1;simp only [List.getElem?_toArray,List.getElem?_cons_zero,List.getElem?_cons_succ] at f6 f7;clear hm;go_wp2_with fail
    have hg1:Y.grownBy ((Y.setCell ⟨s + 1 + 1,0,none⟩ (.int .i64 N)).setCell ⟨s + 1 + 1,1,none⟩ (.int .i64 D)) (some (s + 1 + 1)):=only_setCell (only_setCell (only_refl _ _) (p:=⟨s + 1 + 1,0,none⟩) (.inl rfl) _) (p:=⟨s + 1 + 1,1,none⟩) (.inl rfl) _;have G1:=(HFY.out.store (g:=s + 1 + 1) (t:=29) (cs:=#[.int .i64 p.1,.int .i64 p.2]) (by simp) 0 (.int .i64 N) (bs':=[(s,29,#[.int .i64 0,.int .i64 0]),(s + 1,27,#[.bool false,.slice none 0 0]),(s + 1 + 1,29,#[.int .i64 N,.int .i64 p.2]),(s + 1 + 1 + 1,27,#[.bool nb,v])]) (by simp;omega)).store (g:=s + 1 + 1) (t:=29) (cs:=#[.int .i64 N,.int .i64 p.2]) (by simp) 1 (.int .i64 D) (bs':=[(s,29,#[.int .i64 0,.int .i64 0]),(s + 1,27,#[.bool false,.slice none 0 0]),(s + 1 + 1,29,#[.int .i64 N,.int .i64 D]),(s + 1 + 1 + 1,27,#[.bool nb,v])]) (by simp;omega);have W1k:=HWY.out.grown hg1 (fun e=>by have e:d = s + 1 + 1:=Option.some.inj e;omega) (fun k e=>by have e:s + 1 + 1 = k:=Option.some.inj e;omega);have S1:=HWNY.out.other hg1 (HFY.out.nth 2 rfl) (by decide);generalize (Y.setCell ⟨s + 1 + 1,0,none⟩ (.int .i64 N)).setCell ⟨s + 1 + 1,1,none⟩ (.int .i64 D) = Y1 at *;have hg2:Y1.grownBy ((Y1.setCell ⟨s + 1 + 1 + 1,0,none⟩ (.bool north)).setCell ⟨s + 1 + 1 + 1,1,none⟩ (.slice A9 n9 c9)) (some (s + 1 + 1 + 1)):=only_setCell (only_setCell (only_refl _ _) (p:=⟨s + 1 + 1 + 1,0,none⟩) (.inl rfl) _) (p:=⟨s + 1 + 1 + 1,1,none⟩) (.inl rfl) _
    have G2:=(G1.store (g:=s + 1 + 1 + 1) (t:=27) (cs:=#[.bool nb,v]) (by simp) 0 (.bool north) (bs':=[(s,29,#[.int .i64 0,.int .i64 0]),(s + 1,27,#[.bool false,.slice none 0 0]),(s + 1 + 1,29,#[.int .i64 N,.int .i64 D]),(s + 1 + 1 + 1,27,#[.bool north,v])]) (by simp;omega)).store (g:=s + 1 + 1 + 1) (t:=27) (cs:=#[.bool north,v]) (by simp) 1 (.slice A9 n9 c9) (bs':=[(s,29,#[.int .i64 0,.int .i64 0]),(s + 1,27,#[.bool false,.slice none 0 0]),(s + 1 + 1,29,#[.int .i64 N,.int .i64 D]),(s + 1 + 1 + 1,27,#[.bool north,.slice A9 n9 c9])]) (by simp;omega);have W2k:=W1k.grown hg2 (fun e=>by have e:d = s + 1 + 1 + 1:=Option.some.inj e;omega) (fun k e=>by have e:s + 1 + 1 + 1 = k:=Option.some.inj e;omega);have S2:=S1.other hg2 (G1.nth 3 rfl) (by decide);exact ⟨⟨k + 1,by go_num,by omega,(N,D),north,.slice A9 n9 c9,ap2,bf2,G2,W2k,HPN.out,S2⟩,by simp [intOf];omega⟩
   ·have eq1:(q1,q2) = p:=by rw [<- HQ.out];unfold gr2;rw [if_neg hm]
    cases eq1;have hne:(!(q1 == q1 && q2 == q2)) = false:=by simp
    clear hm;go_wp2_with fail
    exact ⟨⟨k + 1,by go_num,by omega,(q1,q2),nb,v,ap2,bf2,HFY.out,HWY.out,HPN.out,HWOY.out⟩,by simp [intOf];omega⟩
  ·have ek:k = 2:=by omega
   subst ek;have t1:decide (((2:Nat):Int) < 2) = false:=by decide
   obtain ⟨A9,n9,c9,rfl⟩:=HI.out.ws.slice;go_upto_region 10 with fail
   have HI0:Hid (FrD w d (s + 1 + 1 + 1 + 1) [(s,29,#[.int .i64 0,.int .i64 0]),(s + 1,27,#[.bool false,.slice none 0 0]),(s + 1 + 1,29,#[.int .i64 p.1,.int .i64 p.2]),(s + 1 + 1 + 1,27,#[.bool nb,.slice A9 n9 c9])] [] wr.drew /\ WorkAt w0 wr.drew d S A c ap1 bf1 /\ WorstV w S nb (.slice A9 n9 c9) p.1 p.2 wr.drew):=Lib.hid ⟨HI.out.fr.later (Aft.drew _),HI.out.wk.later (Aft.drew _),HI.out.ws.sm (Sm.of_aft (Aft.drew _))⟩;refine wp_region_valsT (by kernel_rfl) 3 39 rfl (by kernel_rfl) (by kernel_rfl) (by kernel_rfl) [.agg #[.int .i64 p.1,.int .i64 p.2],.agg #[.bool nb,.slice A9 n9 c9],undef] rfl (fun done W=>FrD w d (s + 1 + 1 + 1 + 1) [(s,29,if done 2 = true then #[.int .i64 p.1,.int .i64 p.2] else #[.int .i64 0,.int .i64 0]),(s + 1,27,#[.bool false,.slice none 0 0]),(s + 1 + 1,29,#[.int .i64 p.1,.int .i64 p.2]),(s + 1 + 1 + 1,27,#[.bool nb,.slice A9 n9 c9])] [] W /\ WorkAt w0 W d S A c ap1 bf1 /\ WorstV w S nb (.slice A9 n9 c9) p.1 p.2 W) (HI0.out) ?st1 ?fi1
   case st1 =>
    intro i o v ho hv
    match i,ho,hv with
    | 0,ho,hv =>
     cases ho;cases hv;refine .inl ⟨rfl,fun done a W hd hp hk hw K hK=>?_⟩;have e4:=hk.same 4 (by decide);exact op_val (by simp [go_sem,ev' e4,(hw.1.nth 2 rfl).cell 0,(hw.1.nth 2 rfl).cell 1]) (hK _ (by rw [upd_ne' (by decide)];exact hw))
    | 1,ho,hv =>
     cases ho;cases hv;refine .inl ⟨rfl,fun done a W hd hp hk hw K hK=>?_⟩;have e5:=hk.same 5 (by decide);exact op_val (by simp [go_sem,ev' e5,(hw.1.nth 3 rfl).cell 0,(hw.1.nth 3 rfl).cell 1]) (hK _ (by rw [upd_ne' (by decide)];exact hw))
    | 2,ho,hv =>
     cases ho;cases hv;refine .inl ⟨rfl,fun done a W hd hp hk hw K hK=>?_⟩;have e2:=hk.same 2 (by decide);have e37:=hk.at_ 0 _ 37 _ rfl (by decide) _ rfl rfl rfl;have h12:done 2 = false:=hd;rw [h12,if_neg (by decide)] at hw;have c1:=(hw.1.nth 0 rfl).cell 0;have c2:=(hw.1.nth 0 rfl).cell 1;have c3:=(hw.1.nth 0 rfl).frozen 0;have c4:=(hw.1.nth 0 rfl).frozen 1;have c5:=(hw.1.nth 0 rfl).lt;simp only [List.getElem?_toArray,List.getElem?_cons_zero,List.getElem?_cons_succ] at c1 c2;have hg1:W.grownBy ((W.setCell ⟨s,0,none⟩ (.int .i64 p.1)).setCell ⟨s,1,none⟩ (.int .i64 p.2)) (some s):=only_setCell (only_setCell (only_refl _ _) (p:=⟨s,0,none⟩) (.inl rfl) _) (p:=⟨s,1,none⟩) (.inl rfl) _;have e2:=hk.same 2 (by decide);refine op_skipW (w':=(W.setCell ⟨s,0,none⟩ (.int .i64 p.1)).setCell ⟨s,1,none⟩ (.int .i64 p.2)) (by simp [go_sem,ev' e2,ev' e37,c1,c2,c3,c4,c5]) (hK _ ⟨?_,hw.2.1.grown hg1 (fun e=>by have e:d = s:=Option.some.inj e;omega) (fun k e=>by have e:s = k:=Option.some.inj e;omega),hw.2.2.other hg1 (hw.1.nth 0 rfl) (by decide)⟩);rw [show Go.upd done 2 2 = true from rfl,if_pos rfl];exact (hw.1.store (g:=s) (t:=29) (cs:=#[.int .i64 0,.int .i64 0]) (by simp) 0 (.int .i64 p.1) (bs':=[(s,29,#[.int .i64 p.1,.int .i64 0]),(s + 1,27,#[.bool false,.slice none 0 0]),(s + 1 + 1,29,#[.int .i64 p.1,.int .i64 p.2]),(s + 1 + 1 + 1,27,#[.bool nb,.slice A9 n9 c9])]) (by simp;omega)).store (g:=s) (t:=29) (cs:=#[.int .i64 p.1,.int .i64 0]) (by simp) 1 (.int .i64 p.2) (by simp;omega)
    | _ + 3,_,hv=>cases hv
   intro done W hd hw;simp only [List.drop_succ_cons,List.drop_zero,List.zip_cons_cons,List.zip_nil_right,putAll];simp only [Act.put,List.setIfInBounds_toArray,List.set];rw [hd 2 (by decide),if_pos rfl] at hw;obtain ⟨w1,w2,w3⟩:=hw;have H1:=Lib.hid w1;have H2:=Lib.hid w2;have H3:=Lib.hid w3;have c1:=(w1.nth 1 rfl).cell 0;have c2:=(w1.nth 1 rfl).cell 1;have c3:=(w1.nth 1 rfl).frozen 0;have c4:=(w1.nth 1 rfl).frozen 1;have c5:=(w1.nth 1 rfl).lt;simp only [List.getElem?_toArray,List.getElem?_cons_zero,List.getElem?_cons_succ] at c1 c2;clear w1 w2 w3 hd HI0;go_wp2_with fail
   have hg2:W.grownBy ((W.setCell ⟨s + 1,0,none⟩ (.bool nb)).setCell ⟨s + 1,1,none⟩ (.slice A9 n9 c9)) (some (s + 1)):=only_setCell (only_setCell (only_refl _ _) (p:=⟨s + 1,0,none⟩) (.inl rfl) _) (p:=⟨s + 1,1,none⟩) (.inl rfl) _;have B1:=((H1.out.nth 1 rfl).store 0 (.bool nb)).store 1 (.slice A9 n9 c9);have B0:=(H1.out.nth 0 rfl).grown hg2 (fun e=>by have e:s = s + 1:=Option.some.inj e;omega);have G2:=only_trans2 H1.out.grow hg2 (.inr (by omega));have W2k:=H2.out.grown hg2 (fun e=>by have e:d = s + 1:=Option.some.inj e;omega) (fun k e=>by have e:s + 1 = k:=Option.some.inj e;omega);have S2:=H3.out.other hg2 (H1.out.nth 1 rfl) (by decide);generalize (W.setCell ⟨s + 1,0,none⟩ (.bool nb)).setCell ⟨s + 1,1,none⟩ (.slice A9 n9 c9) = X at *;have z0:X.cell? ⟨s,0,none⟩ = some (.int .i64 p.1):=B0.cell 0;have z1:X.cell? ⟨s,1,none⟩ = some (.int .i64 p.2):=B0.cell 1;have z2:X.cell? ⟨s + 1,0,none⟩ = some (.bool nb):=B1.cell 0;have z3:X.cell? ⟨s + 1,1,none⟩ = some (.slice A9 n9 c9):=B1.cell 1;exact bodyPost_ret (v:=.tuple #[.agg #[.int .i64 p.1,.int .i64 p.2],.agg #[.bool nb,.slice A9 n9 c9]]) (by simp [results,Tryz.results50,go_sem,z0,z1,z2,z3]) rfl ⟨p,nb,_,ap1,bf1,rfl,G2,W2k,HI.out.pl,S2⟩
end Go.Proofs
end
section
/- Walks: Play,part. -/
namespace Go.Proofs
open Go.RowKit
attribute [local go_sem] Oper.semAt_some
set_option maxRecDepth 100000 in
set_option maxHeartbeats 2000000 in
theorem play_good (S:SetL) (A:Option Addr) (c:Nat) (w:World) (hA:Quads w A S.J) (he:setE S = 0) :
  Calls Tryz.prog 25 #[.agg #[.int .i64 S.n,.slice A S.J.length c]] w fun e w'=>∃ p,e = .returned (.tuple #[.agg #[.int .i64 p.1,.int .i64 p.2],.int .i64 0]) /\ PlayOf S p /\ Aft w w':=by
 obtain ⟨s,hs⟩:∃ s,w.heap.size = s:=⟨_,rfl⟩;have hS:=setE_ok he;have F0:=((Fr.start w).alloc rfl 24 #[.int .i64 S.n,.slice A S.J.length c]).alloc (by simp) 29 #[.int .i64 0,.int .i64 0];simp only [List.nil_append,List.cons_append] at F0;rw [hs] at F0;have HO:=Lib.hid (opened_good S A c _ (hA.aft F0.aft) he);have HP:=Lib.hid fun w0 w d ap bf (h:WorkAt w0 w d S A c ap bf)=>plays_any S A c d ap bf w0 w h hS
 have HF0:=Lib.hid F0;clear hA he F0 hS;go_enter Tryz.func25,Tryz.ntmps25;go_upto_region 2 with (go_at_call 32;refine HO.out.mono ?_;rintro e w2 ⟨d,rfl,hw2⟩)
 have HF2:=Lib.hid (HF0.out.later hw2.aft);have HW2:=Lib.hid hw2;have hdb:=hw2.base;clear hw2;simp only [World.size_alloc] at hdb
 try rw [hs]
 generalize ((w.alloc (.cells #[.int .i64 S.n,.slice A S.J.length c] 24)).alloc (.cells #[.int .i64 0,.int .i64 0] 29)) = W1 at *;clear HO HF0;go_upto_region 5 with (go_at_call 50;refine (HP.out _ _ _ _ _ HW2.out).mono ?_;rintro e w3 ⟨p,nb,v,ap3,bf3,rfl,hg3,hw3,hpl,hws⟩;obtain ⟨A9,n9,c9,rfl⟩:=hws.slice;have HG3:=Lib.hid hg3;have HPL:=Lib.hid hpl;clear hg3 hw3 hpl hws)
 have F3:=HF2.out.grown HG3.out (fun r e=>by have e:d = r:=Option.some.inj e;omega);obtain ⟨z,hz⟩:∃ z,w3.heap.size = z:=⟨_,rfl⟩;have HB3:Hid (Blk ((w3.alloc (.cells #[.int .i64 p.1,.int .i64 p.2] 29)).alloc (.cells #[.bool nb,.slice A9 n9 c9] 27)) z 29 #[.int .i64 p.1,.int .i64 p.2]):=Lib.hid (by rw [<- hz];exact (Blk.new w3 29 _).alloc _);have HF3:=Lib.hid (F3.later ((Aft.alloc w3 (.cells #[.int .i64 p.1,.int .i64 p.2] 29)).then_alloc (.cells #[.bool nb,.slice A9 n9 c9] 27)));clear F3 HG3 HF2 HW2
 try rw [hz]
 generalize (w3.alloc (.cells #[.int .i64 p.1,.int .i64 p.2] 29)).alloc (.cells #[.bool nb,.slice A9 n9 c9] 27) = W4 at *;clear hz;have y0:W4.cell? ⟨z,0,none⟩ = some (.int .i64 p.1):=HB3.out.cell 0;have y1:W4.cell? ⟨z,1,none⟩ = some (.int .i64 p.2):=HB3.out.cell 1;have y2:=HB3.out.lt;have z0:=(HF3.out.nth 1 rfl).cell 0;have z1:=(HF3.out.nth 1 rfl).cell 1;have z2:=(HF3.out.nth 1 rfl).lt;have z3:=(HF3.out.nth 1 rfl).frozen 0;have z4:=(HF3.out.nth 1 rfl).frozen 1;simp only [List.getElem?_toArray,List.getElem?_cons_zero,List.getElem?_cons_succ] at z0 z1;go_wp2_with fail
 have B2:=((HF3.out.nth 1 rfl).store 0 (.int .i64 p.1)).store 1 (.int .i64 p.2);have A2:=(HF3.out.aft.then_setCell (p:=⟨s + 1,0,none⟩) (by show w.heap.size <= s + 1;omega) (.int .i64 p.1)).then_setCell (p:=⟨s + 1,1,none⟩) (by show w.heap.size <= s + 1;omega) (.int .i64 p.2);generalize (W4.setCell ⟨s + 1,0,none⟩ (.int .i64 p.1)).setCell ⟨s + 1,1,none⟩ (.int .i64 p.2) = X at *;have z0:X.cell? ⟨s + 1,0,none⟩ = some (.int .i64 p.1):=B2.cell 0;have z1:X.cell? ⟨s + 1,1,none⟩ = some (.int .i64 p.2):=B2.cell 1;exact bodyPost_ret (v:=.tuple #[.agg #[.int .i64 p.1,.int .i64 p.2],.int .i64 0]) (by simp [results,Tryz.results25,go_sem,z0,z1]) rfl ⟨p,rfl,HPL.out,A2⟩
def partB (n d least:Int):Bool:=fromB d 1 1000 && fromB n least 1000000000
theorem part_any (n d least:Int) (w:World):Calls Tryz.prog 43 #[.agg #[.int .i64 n,.int .i64 d],.int .i64 least] w fun e w'=>e = .returned (.bool (partB n d least)) /\ Aft w w':=by
 unfold partB;go_enter Tryz.func43,Tryz.ntmps43;cases h1:fromB d 1 1000
 ·have H1:=Lib.hid h1;clear h1;go_wp2_with (go_at_call 33;refine (in_any _ _ _ _).mono ?_;rintro e w' ⟨rfl,rfl⟩;rw [H1.out])
  go_ret;exact ⟨rfl,Aft.alloc _ _⟩
 ·have H1:=Lib.hid h1;clear h1;go_wp2_with (first | (go_at_call_of 33 (Value.int IntKind.i64 d);refine (in_any _ _ _ _).mono ?_;rintro e w' ⟨rfl,rfl⟩;rw [H1.out]) | (go_at_call_of 33 (Value.int IntKind.i64 n);refine (in_any _ _ _ _).mono ?_;rintro e w' ⟨rfl,rfl⟩))
  go_ret;exact ⟨rfl,Aft.alloc _ _⟩
end Go.Proofs
end
section
/- Walks: Needs. -/
namespace Go.Proofs
open Go.RowKit
attribute [local go_sem] Oper.semAt_some
theorem mul_le {a b A B:Int} (ha:-A <= a /\ a <= A) (hb:-B <= b /\ b <= B) (hA:0 <= A) (hB:0 <= B):-(A * B) <= a * b /\ a * b <= A * B:=by
 have h:(a * b).natAbs <= (A * B).natAbs:=by
  rw [Int.natAbs_mul,Int.natAbs_mul];exact Nat.mul_le_mul (by omega) (by omega)
 have h2:0 <= A * B:=Int.mul_nonneg hA hB;omega
def offD (p q:Int × Int) (n:Int):Int:=q.1 * p.2 - p.1 * q.2 - n * p.2 * q.2
def offP (p q:Int × Int) (n:Int):Int × Int:=Sheet.low (offD p q n).natAbs (p.2 * q.2)
structure ShS (p:Int × Int):Prop where
 n0:-1000000000 <= p.1
 n1:p.1 <= 1000000000
 d0:1 <= p.2
 d1:p.2 <= 1000
theorem offD_le {p q:Int × Int} {n:Int} (hp:ShS p) (hq:ShS q) (hn:-1000000 <= n /\ n <= 1000000):-3000000000000 <= offD p q n /\ offD p q n <= 3000000000000:=by
 have h1:=mul_le (a:=q.1) (b:=p.2) (A:=1000000000) (B:=1000) ⟨hq.n0,hq.n1⟩ ⟨by have:=hp.d0;omega,hp.d1⟩ (by decide) (by decide);have h2:=mul_le (a:=p.1) (b:=q.2) (A:=1000000000) (B:=1000) ⟨hp.n0,hp.n1⟩ ⟨by have:=hq.d0;omega,hq.d1⟩ (by decide) (by decide);have h3:=mul_le (a:=n) (b:=p.2) (A:=1000000) (B:=1000) hn ⟨by have:=hp.d0;omega,hp.d1⟩ (by decide) (by decide);have h4:=mul_le (a:=n * p.2) (b:=q.2) (A:=1000000000) (B:=1000) (by omega) ⟨by have:=hq.d0;omega,hq.d1⟩ (by decide) (by decide);unfold offD;omega
theorem dd_le {p q:Int × Int} (hp:ShS p) (hq:ShS q):1 <= p.2 * q.2 /\ p.2 * q.2 <= 1000000:=by
 have h1:=mul_le (a:=p.2) (b:=q.2) (A:=1000) (B:=1000) ⟨by have:=hp.d0;omega,hp.d1⟩ ⟨by have:=hq.d0;omega,hq.d1⟩ (by decide) (by decide);have h2:=Int.mul_pos (show 0 < p.2 by have:=hp.d0;omega) (show 0 < q.2 by have:=hq.d0;omega);omega
theorem offP_rat {p q:Int × Int} {n:Int} (hp:ShS p) (hq:ShS q) (hn:-1000000 <= n /\ n <= 1000000):RatS (offP p q n):=by
 have h1:=offD_le hp hq hn;have h2:=dd_le hp hq;have h3:=low_le (n:=((offD p q n).natAbs:Int)) (d:=p.2 * q.2) (by omega) (by omega);unfold offP;exact ⟨h3.1,by omega,h3.2.2.1,by omega⟩
set_option maxRecDepth 100000 in
set_option maxHeartbeats 2000000 in
theorem off_any (p q:Int × Int) (n:Int) (w:World) (hp:ShS p) (hq:ShS q) (hn:-1000000 <= n /\ n <= 1000000) :
  Calls Tryz.prog 78 #[.agg #[.int .i64 p.1,.int .i64 p.2],.agg #[.int .i64 q.1,.int .i64 q.2],.int .i64 n] w fun e w'=>e = .returned (.agg #[.int .i64 (offP p q n).1,.int .i64 (offP p q n).2]) /\ Aft w w':=by
 obtain ⟨s,hs⟩:∃ s,w.heap.size = s:=⟨_,rfl⟩;have F0:=(((Fr.start w).alloc rfl 29 #[.int .i64 p.1,.int .i64 p.2]).alloc (by simp) 29 #[.int .i64 q.1,.int .i64 q.2]).alloc (by simp) 29 #[.int .i64 0,.int .i64 0];simp only [List.nil_append,List.cons_append] at F0;rw [hs] at F0;have h1:=mul_le (a:=q.1) (b:=p.2) (A:=1000000000) (B:=1000) ⟨hq.n0,hq.n1⟩ ⟨by have:=hp.d0;omega,hp.d1⟩ (by decide) (by decide);have h2:=mul_le (a:=p.1) (b:=q.2) (A:=1000000000) (B:=1000) ⟨hp.n0,hp.n1⟩ ⟨by have:=hq.d0;omega,hq.d1⟩ (by decide) (by decide);have h3:=mul_le (a:=n) (b:=p.2) (A:=1000000) (B:=1000) hn ⟨by have:=hp.d0;omega,hp.d1⟩ (by decide) (by decide);have h4:=mul_le (a:=n * p.2) (b:=q.2) (A:=1000000000) (B:=1000) (by omega) ⟨by have:=hq.d0;omega,hq.d1⟩ (by decide) (by decide);have h5:=dd_le hp hq;have hofd:offD p q n = q.1 * p.2 - p.1 * q.2 - n * p.2 * q.2:=rfl;have hob:=offD_le hp hq hn;obtain ⟨T,hT⟩:∃ T,offD p q n = T:=⟨_,rfl⟩;rw [hT] at hofd hob;have HR:=Lib.hid fun W=>ratio_any (T.natAbs:Int) (p.2 * q.2) W (by omega) (by omega) ⟨by omega,by omega⟩
 have hoP:offP p q n = Sheet.low (T.natAbs:Int) (p.2 * q.2):=by unfold offP;rw [hT]
 obtain ⟨R,hR⟩:∃ R,Sheet.low (T.natAbs:Int) (p.2 * q.2) = R:=⟨_,rfl⟩;rw [hoP,hR];rw [hR] at HR;obtain ⟨p1,p2⟩:=p;obtain ⟨q1,q2⟩:=q;dsimp only at *;have HMX:Hid ((if T < -T then -T else T) = (T.natAbs:Int)):=Lib.hid (by split <;> omega);clear hT hR hoP hp hq;obtain ⟨m1,hm1⟩:∃ m,q1 * p2 = m:=⟨_,rfl⟩;obtain ⟨m2,hm2⟩:∃ m,p1 * q2 = m:=⟨_,rfl⟩;obtain ⟨m3,hm3⟩:∃ m,n * p2 = m:=⟨_,rfl⟩;rw [hm3] at h3 h4 hofd;obtain ⟨m4,hm4⟩:∃ m,m3 * q2 = m:=⟨_,rfl⟩;obtain ⟨m5,hm5⟩:∃ m,p2 * q2 = m:=⟨_,rfl⟩;rw [hm1] at h1 hofd;rw [hm2] at h2 hofd;rw [hm4] at h4 hofd;rw [hm5] at h5 HR;have e1:IntKind.i64.wrap (q1 * p2) = m1:=by rw [hm1];exact IntWalk.i64_in _ (by omega)
 have e2:IntKind.i64.wrap (p1 * q2) = m2:=by rw [hm2];exact IntWalk.i64_in _ (by omega)
 have e3:IntKind.i64.wrap (n * p2) = m3:=by rw [hm3];exact IntWalk.i64_in _ (by omega)
 have e4:IntKind.i64.wrap (m3 * q2) = m4:=by rw [hm4];exact IntWalk.i64_in _ (by omega)
 have e5:IntKind.i64.wrap (p2 * q2) = m5:=by rw [hm5];exact IntWalk.i64_in _ (by omega)
 have HOF:=Lib.hid hofd;have HF0:=Lib.hid F0;have h1':-1000000000000 <= m1 /\ m1 <= 1000000000000:=by omega
 have h2':-1000000000000 <= m2 /\ m2 <= 1000000000000:=by omega
 have h4':-1000000000000 <= m4 /\ m4 <= 1000000000000:=by omega
 clear hm1 hm2 hm3 hm4 hm5 hofd F0 h1 h2 h3 h4;go_enter Tryz.func78,Tryz.ntmps78;go_upto_region 2 with fail
 rw [<- HOF.out];clear e1 e2 e3 e4
 try rw [hs]
 generalize ((w.alloc (.cells #[.int .i64 p1,.int .i64 p2] 29)).alloc (.cells #[.int .i64 q1,.int .i64 q2] 29)).alloc (.cells #[.int .i64 0,.int .i64 0] 29) = W1 at *;have y1:W1.cell? ⟨s,1,none⟩ = some (.int .i64 p2):=(HF0.out.nth 0 rfl).cell 1;have y2:=(HF0.out.nth 0 rfl).lt;have y3:W1.cell? ⟨s + 1,1,none⟩ = some (.int .i64 q2):=(HF0.out.nth 1 rfl).cell 1;have y4:=(HF0.out.nth 1 rfl).lt;have z0:=(HF0.out.nth 2 rfl).cell 0;have z1:=(HF0.out.nth 2 rfl).cell 1;have z2:=(HF0.out.nth 2 rfl).lt;have z3:=(HF0.out.nth 2 rfl).frozen 0;have z4:=(HF0.out.nth 2 rfl).frozen 1;simp only [List.getElem?_toArray,List.getElem?_cons_zero,List.getElem?_cons_succ] at z0 z1;go_wp2_with (go_at_call 45;rw [HMX.out];refine (HR.out _).mono ?_;rintro e w7 ⟨rfl,u,rfl⟩)
 have B2:=(((HF0.out.nth 2 rfl).lat u).store 0 (.int .i64 R.1)).store 1 (.int .i64 R.2);have A2:=((HF0.out.aft.then_lat u).then_setCell (p:=⟨s + 1 + 1,0,none⟩) (by show w.heap.size <= s + 1 + 1;omega) (.int .i64 R.1)).then_setCell (p:=⟨s + 1 + 1,1,none⟩) (by show w.heap.size <= s + 1 + 1;omega) (.int .i64 R.2);generalize ((W1.lat u).setCell ⟨s + 1 + 1,0,none⟩ (.int .i64 R.1)).setCell ⟨s + 1 + 1,1,none⟩ (.int .i64 R.2) = X at *;have z0:X.cell? ⟨s + 1 + 1,0,none⟩ = some (.int .i64 R.1):=B2.cell 0;have z1:X.cell? ⟨s + 1 + 1,1,none⟩ = some (.int .i64 R.2):=B2.cell 1;exact bodyPost_ret (v:=.agg #[.int .i64 R.1,.int .i64 R.2]) (by simp [results,Tryz.results78,go_sem,z0,z1]) rfl ⟨rfl,A2⟩
def shX (q:Q4):Int × Int:=(q.a,q.b)
def shY (q:Q4):Int × Int:=(q.x,q.y)
def okS (q:Q4):Bool:=partB q.a q.b (-1000000000) && partB q.x q.y (-1000000000)
theorem okS_sh {q:Q4} (h:okS q = true):ShS (shX q) /\ ShS (shY q):=by
 unfold okS partB at h;simp only [Bool.and_eq_true,fromB_iff] at h;unfold shX shY;exact ⟨⟨by dsimp only;omega,by dsimp only;omega,by dsimp only;omega,by dsimp only;omega⟩,⟨by dsimp only;omega,by dsimp only;omega,by dsimp only;omega,by dsimp only;omega⟩⟩
theorem need1_any (q:Q4) (w:World):Calls Tryz.prog 77 #[.agg #[.int .i64 q.a,.int .i64 q.b,.int .i64 q.x,.int .i64 q.y]] w fun e w'=>e = .returned (.bool (okS q)) /\ Aft w w':=by
 obtain ⟨a,b,x,y⟩:=q;unfold okS;dsimp only;go_enter Tryz.func77,Tryz.ntmps77;cases h1:partB a b (-1000000000)
 ·have H1:=Lib.hid h1;clear h1;go_wp2_with (go_at_call 43;refine (part_any _ _ _ _).mono ?_;rintro e w' ⟨rfl,u,rfl⟩;rw [H1.out])
  go_ret;exact ⟨rfl,(Aft.alloc _ _).then_lat _⟩
 ·have H1:=Lib.hid h1;clear h1;go_wp2_with (first | (go_at_call_of 43 (Value.agg #[Value.int IntKind.i64 a,Value.int IntKind.i64 b]);refine (part_any _ _ _ _).mono ?_;rintro e w' ⟨rfl,u,rfl⟩;rw [H1.out]) | (go_at_call_of 43 (Value.agg #[Value.int IntKind.i64 x,Value.int IntKind.i64 y]);refine (part_any _ _ _ _).mono ?_;rintro e w' ⟨rfl,u2,rfl⟩))
  go_ret;exact ⟨rfl,((Aft.alloc _ _).then_lat _).then_lat _⟩
theorem runs_77 (args:Array Value) (w:World):(callFunc 77 args).run Tryz.prog w = .ok (.enter 77 args) w:=by simp [go_sem]
theorem every_need (L:List Q4) (A:Option Addr) (c:Nat) (w:World) (hA:Quads w A L) :
  Calls Tryz.prog 76 #[.slice A L.length c,.func (.func 77) #[] #[]] w fun e w'=>e = .returned (.bool (L.all okS)) /\ Aft w w' :=
 everyShift (FlatR enc4) FlatR.mono 77 [] okS A L c w hA runs_77 fun x _ W ha v0 v1 v2 v3 hv u=>by
  unfold FlatR enc4 at hv;cases hv;exact need1_any x _
end Go.Proofs
end
section
/- Walks: Needs. -/
namespace Go.Proofs
open Go.RowKit
attribute [local go_sem] Oper.semAt_some
theorem Fr.up {w W:World} {B B':Nat} {bs:List (Nat × TypeId × Array Value)} (h:Fr w B bs W) (hB:B <= B') (hs:B' <= W.heap.size):Fr w B' bs W :=
 ⟨h.aft,fun x hx=>⟨Nat.lt_of_lt_of_le (h.blks x hx).1 hB,(h.blks x hx).2⟩,hs,Nat.le_trans h.ge hB⟩
def encS (q:Q4):Array Value:=#[.int .i64 q.a,.int .i64 q.b,.int .i64 q.x,.int .i64 q.y]
def zerS:Array Value:=#[.int .i64 0,.int .i64 0,.int .i64 0,.int .i64 0]
structure Al2 (W0:World) (sa:Q4) (done:Nat -> Bool) (a:Act) (W:World):Prop where
 aft:Aft W0 W
 late:done 12 = true -> done 10 = true
 x:done 10 = true -> ∃ b,a.eval (.tmp 11) = .pointer (some ⟨b,0,none⟩) /\ W0.heap.size <= b /\ Blk W b 74 (if done 12 = true then encS sa else zerS)
 y:done 11 = true -> ∃ b,a.eval (.tmp 12) = .pointer (some ⟨b,0,none⟩) /\ W0.heap.size <= b /\ Blk W b 74 zerS /\ (done 10 = true -> a.eval (.tmp 11) ≠ .pointer (some ⟨b,0,none⟩))
section
variable {W0 W W':World} {sa:Q4} {done:Nat -> Bool} {a:Act}
theorem Al2.start:Al2 W0 sa (fun _=>false) a W0.drew:=⟨Aft.drew _,(fun h=>h),(fun h=>by cases h),(fun h=>by cases h)⟩
theorem Al2.keep (h:Al2 W0 sa done a W) {i:Nat} {dst:Option Tmp} {v:Value} (hi:i ≠ 10 /\ i ≠ 11 /\ i ≠ 12) (hd:dst ≠ some 11 /\ dst ≠ some 12):Al2 W0 sa (Go.upd done i) (a.put dst v) W:=by
 refine ⟨h.aft,fun p=>?_,fun p=>?_,fun p=>?_⟩
 ·rw [upd_ne' (Ne.symm hi.2.2)] at p;rw [upd_ne' (Ne.symm hi.1)];exact h.late p
 ·rw [upd_ne' (Ne.symm hi.1)] at p;rw [upd_ne' (Ne.symm hi.2.2)];obtain ⟨b,e,hs⟩:=h.x p;exact ⟨b,by rw [evne hd.1];exact e,hs⟩
 ·rw [upd_ne' (Ne.symm hi.2.1)] at p;rw [upd_ne' (Ne.symm hi.1)];obtain ⟨b,e,hs,ht,hu⟩:=h.y p;exact ⟨b,by rw [evne hd.2];exact e,hs,ht,by rw [evne hd.1];exact hu⟩
theorem Al2.step10 (h:Al2 W0 sa done a W) (hz:11 < a.tmps.size) (h10:done 10 = false):Al2 W0 sa (Go.upd done 10) (a.put (some 11) (.pointer (some ⟨W.heap.size,0,none⟩))) (W.alloc (.cells zerS 74)):=by
 have h12:done 12 = false:=by
  cases e:done 12
  ·rfl
  ·rw [h.late e] at h10;cases h10
 refine ⟨h.aft.then_alloc _,fun _=>upd_same' ..,fun p=>⟨W.heap.size,Act.eval_put_same _ _ _ hz,h.aft.size,by rw [upd_ne' (by decide),h12];exact Blk.new _ _ _⟩,fun p=>?_⟩;rw [upd_ne' (by decide)] at p;obtain ⟨b,e,hs,ht,hu⟩:=h.y p;refine ⟨b,by rw [evne (by decide)];exact e,hs,ht.alloc _,fun _=>?_⟩;rw [Act.eval_put_same _ _ _ hz];intro e2;have:=ht.lt;cases e2;omega
theorem Al2.step11 (h:Al2 W0 sa done a W) (hz:12 < a.tmps.size):Al2 W0 sa (Go.upd done 11) (a.put (some 12) (.pointer (some ⟨W.heap.size,0,none⟩))) (W.alloc (.cells zerS 74)):=by
 refine ⟨h.aft.then_alloc _,fun p=>?_,fun p=>?_,fun p=>⟨W.heap.size,Act.eval_put_same _ _ _ hz,h.aft.size,Blk.new _ _ _,fun p=>?_⟩⟩
 ·rw [upd_ne' (by decide)] at p;rw [upd_ne' (by decide)];exact h.late p
 ·rw [upd_ne' (by decide)] at p;obtain ⟨b,e,hs,ht⟩:=h.x p;exact ⟨b,by rw [evne (by decide)];exact e,hs,by rw [upd_ne' (by decide)];exact ht.alloc _⟩
 ·rw [upd_ne' (by decide)] at p;obtain ⟨b,e,hs,ht⟩:=h.x p;rw [evne (by decide),e];intro e2;have:=ht.lt;cases e2;omega
theorem Al2.step12 (h:Al2 W0 sa done a W) {b:Nat} (hb:a.eval (.tmp 11) = .pointer (some ⟨b,0,none⟩)) (h10:done 10 = true) (h12:done 12 = false) {dst:Option Tmp} {v:Value} (hd:dst = none) :
  Al2 W0 sa (Go.upd done 12) (a.put dst v) ((((W.setCell ⟨b,0,none⟩ (.int .i64 sa.a)).setCell ⟨b,1,none⟩ (.int .i64 sa.b)).setCell ⟨b,2,none⟩ (.int .i64 sa.x)).setCell ⟨b,3,none⟩ (.int .i64 sa.y)):=by
 subst hd;obtain ⟨b',e,hs,ht⟩:=h.x h10;rw [hb] at e;cases e;rw [h12,if_neg (by decide)] at ht;refine ⟨(((h.aft.then_setCell (p:=⟨b,0,none⟩) hs _).then_setCell (p:=⟨b,1,none⟩) hs _).then_setCell (p:=⟨b,2,none⟩) hs _).then_setCell (p:=⟨b,3,none⟩) hs _,fun _=>by rw [upd_ne' (by decide)];exact h10,fun p=>⟨b,hb,hs,?_⟩,fun p=>?_⟩
 ·rw [upd_same',if_pos rfl];exact (((ht.store 0 _).store 1 _).store 2 _).store 3 _
 ·rw [upd_ne' (by decide)] at p;rw [upd_ne' (by decide)];obtain ⟨c,e,hs2,ht2,hu⟩:=h.y p;have hne:c ≠ b:=fun e2=>hu h10 (by rw [hb,e2])
  exact ⟨c,e,hs2,(((ht2.far (p:=⟨b,0,none⟩) hne _).far (p:=⟨b,1,none⟩) hne _).far (p:=⟨b,2,none⟩) hne _).far (p:=⟨b,3,none⟩) hne _,hu⟩
end
theorem list2 {α:Type} {us:List α} (h:us.length = 2):∃ x y,us = [x,y]:=by
 match us,h with
 | [x,y],_=>exact ⟨x,y,rfl⟩
theorem op_callV {o:Oper} {a:Act} {w:World} {K:Act -> World -> Prop} {Q:Exit -> Act -> World -> Prop} {f:Nat} {fn:Func} {t:Nat} (hf:Tryz.prog.funcs[f]? = some fn) (hn:(fn.name == "runtime.NumGoroutine") = false) (hb:fn.body.isNone = false)
  (xs:Array Operand) {tys:Array TypeId} (ho:o.op = .call { callee:=.value (.tmp t),args:=xs,argTypes:=tys }) (ht:a.eval (.tmp t) = .func (.func f) #[] #[]) {vs:Array Value} (hx:xs.map a.eval = vs) {R:Ending -> World -> Prop} (hc:Calls Tryz.prog f vs w R)
  (h:∀ e w',R e w' -> ∃ v,e = .returned v /\ K (a.put o.dst v) w'):Oper.wp Tryz.prog o a w K Q:=by
 unfold Oper.wp
 have hrun:(execOp a.eval o).run Tryz.prog w = .ok (.enter f vs) w:=by
  unfold execOp;simp only [ho,resolve,invoke,Sem.run_bind,hx,ht];simp [go_sem];exact run_enters hf hn hb _ _
 rw [hrun,Oper.upon_enter];refine hc.mono ?_;intro e w' hr;obtain ⟨v,rfl,hk⟩:=h e w' hr;exact hk
structure Sl2 (W0:World) (ix tm:Nat) (p q:Int × Int) (done:Nat -> Bool) (a:Act) (W:World):Prop where
 aft:Aft W0 W
 s:done ix = true -> ∃ b,a.eval (.tmp tm) = .slice (some ⟨b,0,none⟩) 2 2 /\ W0.heap.size <= b /\ Blk W b 29 #[.int .i64 p.1,.int .i64 p.2,.int .i64 q.1,.int .i64 q.2]
section
variable {W0 W W':World} {ix tm:Nat} {p q:Int × Int} {done:Nat -> Bool} {a:Act}
theorem Sl2.start:Sl2 W0 ix tm p q (fun _=>false) a W0.drew:=⟨Aft.drew _,(fun h=>by cases h)⟩
theorem Sl2.keep (h:Sl2 W0 ix tm p q done a W) (ha:Aft W W') {i:Nat} {dst:Option Tmp} {v:Value} (hi:i ≠ ix) (hd:dst ≠ some tm):Sl2 W0 ix tm p q (Go.upd done i) (a.put dst v) W':=by
 refine ⟨h.aft.trans ha,fun p=>?_⟩;rw [upd_ne' (Ne.symm hi)] at p;obtain ⟨b,e,h1,h2⟩:=h.s p;exact ⟨b,by rw [evne hd];exact e,h1,h2.aft ha⟩
theorem Sl2.step (h:Sl2 W0 ix tm p q done a W) (hz:tm < a.tmps.size):Sl2 W0 ix tm p q (Go.upd done ix) (a.put (some tm) (.slice (some ⟨W.heap.size,0,none⟩) 2 2)) (W.alloc (.cells #[.int .i64 p.1,.int .i64 p.2,.int .i64 q.1,.int .i64 q.2] 29)) :=
 ⟨h.aft.then_alloc _,fun _=>⟨W.heap.size,Act.eval_put_same _ _ _ hz,h.aft.size,Blk.new _ _ _⟩⟩
theorem prs_two {W:World} {b:Nat} {p q:Int × Int} (h:Blk W b 29 #[.int .i64 p.1,.int .i64 p.2,.int .i64 q.1,.int .i64 q.2]):Prs W (some ⟨b,0,none⟩) [p,q]:=by
 refine ⟨by show 2 * 2 <= 17592186043904;decide,.inr ⟨b,0,rfl,h.lt,fun i hi=>?_⟩⟩
 match i,hi with
 | 0,_=>exact ⟨enc2 p,rfl,rfl,fun j hj=>by match j,hj with | 0,_=>exact h.cell 0 | 1,_=>exact h.cell 1⟩
 | 1,_=>exact ⟨enc2 q,rfl,rfl,fun j hj=>by match j,hj with | 0,_=>exact h.cell 2 | 1,_=>exact h.cell 3⟩
end
def q4D (L:List Q4) (i:Int):Q4:=L.getD i.toNat ⟨0,1,0,1⟩
def stepN (L:List Q4) (out:Int × Int) (j:Q4):Int × Int:=grL out [offP (shX (q4D L j.a)) (shX (q4D L j.b)) j.x,offP (shY (q4D L j.a)) (shY (q4D L j.b)) j.y]
def needsP (S:SetL) (L:List Q4):Int × Int:=S.J.foldl (stepN L) (0,1)
def needsE (S:SetL) (L:List Q4):Int:=if setE S ≠ 0 then setE S else if (L.length:Int) ≠ S.n then 2 else if L.all okS then 0 else 4
theorem needsE_ok {S:SetL} {L:List Q4} (h:needsE S L = 0):setE S = 0 /\ (L.length:Int) = S.n /\ L.all okS = true:=by
 unfold needsE at h;split at h
 ·rename_i h1;exact absurd h h1
 rename_i h1
 split at h
 ·cases h
 rename_i h2
 split at h
 ·rename_i h3;exact ⟨by simpa using h1,by simpa using h2,h3⟩
 ·cases h
end Go.Proofs
end
