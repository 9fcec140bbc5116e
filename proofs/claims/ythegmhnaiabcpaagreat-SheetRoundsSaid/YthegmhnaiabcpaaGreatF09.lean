/- Own texts, merged: Sq St Su0 Rf0. -/
import Derived.Test.YthegmhnaiabcpaaGreatF08
set_option linter.unusedSimpArgs false
set_option linter.unusedVariables false
set_option linter.unnecessarySimpa false
section
/- Walks: reckon. -/
namespace Go.Proofs
open Go.RowKit
attribute [local go_sem] Oper.semAt_some
theorem FolR.val2 {w:World} {J:List Sheet.Jo} {D N:Int} {a n:Nat} {row:Nat -> Int} {by_:Nat -> Nat × Bool} {at_:Nat} {e:Ending} {w':World} (h:FolR w J D N a n row by_ at_ e w'):∃ A n9 c9,e = .returned (.slice A n9 c9) /\
  ((A = none /\ n9 = 0 /\ c9 = 0 /\ Aft w w' /\ NilP J a row by_ at_) \/ ∃ g l,A = some ⟨g,0,none⟩ /\ n9 = l.length /\ Aft w w' /\ w'.ownsRow w.heap.size 34 2 (.slice (some ⟨g,0,none⟩) l.length c9) l.length ((l.map legI).flatMap encG) /\ Sheet.Clash n J D N l):=by
 rcases h.2 with ⟨rfl,hn⟩ | ⟨g,c,l,rfl,h1,h2⟩
 ·exact ⟨_,_,_,rfl,.inl ⟨rfl,rfl,rfl,h.1,hn⟩⟩
 ·exact ⟨_,_,_,rfl,.inr ⟨g,l,rfl,rfl,h.1,h1,h2⟩⟩
def ReckR (w0 w:World) (d:Nat) (S:SetL) (A:Option Addr) (c:Nat) (north:Bool) (D N:Int) (e:Ending) (w':World):Prop :=
 ∃ ap' bf',w.grownBy w' (some d) /\ WorkAt w0 w' d S A c ap' bf' /\ ((e = .returned (.slice none 0 0) /\ ∀ a,a < S.n.toNat -> RowDone S north D N ap' a) \/
  ∃ g c l,e = .returned (.slice (some ⟨g,0,none⟩) l.length c) /\ w'.ownsRow w.heap.size 34 2 (.slice (some ⟨g,0,none⟩) l.length c) l.length ((l.map legI).flatMap encG) /\ Sheet.Clash S.n.toNat (joOf north S.J) D N l)
structure RecB (w0 w:World) (d s:Nat) (kw:FuncId) (S:SetL) (A:Option Addr) (c:Nat) (D N:Int) (ap:Nat -> Int) (bf:Nat -> Nat × Bool) (W:World):Prop where
 fr:FrD w d (s + 1 + 1) [(s,101,#[.func (.func kw) #[] #[]]),(s + 1,29,#[.int .i64 N,.int .i64 D])] [] W
 wk:WorkAt w0 W d S A c ap bf
theorem RecB.later {w0 w W W':World} {d s:Nat} {kw:FuncId} {S:SetL} {A:Option Addr} {c:Nat} {D N:Int} {ap:Nat -> Int} {bf:Nat -> Nat × Bool} (h:RecB w0 w d s kw S A c D N ap bf W) (ha:Aft W W'):RecB w0 w d s kw S A c D N ap bf W':=⟨h.fr.later ha,h.wk.later ha⟩
def RecI (w0 w:World) (d s:Nat) (kw:FuncId) (S:SetL) (A:Option Addr) (c:Nat) (north:Bool) (D N:Int) (a:Nat) (W:World):Prop :=
 ∃ ap bf,RecB w0 w d s kw S A c D N ap bf W /\ ∀ a',a' < a -> RowDone S north D N ap a'
def RecF (w0 w:World) (d s:Nat) (kw:FuncId) (S:SetL) (A:Option Addr) (c:Nat) (north:Bool) (D N:Int) (a b:Nat) (W:World):Prop :=
 ∃ ap bf,RecB w0 w d s kw S A c D N ap bf W /\ (∀ a',a' < a -> RowDone S north D N ap a') /\ ∀ i,i < b -> ap (12 * a + i) = Sheet.far
def RecP (w0 w:World) (d s:Nat) (kw:FuncId) (S:SetL) (A:Option Addr) (c:Nat) (north:Bool) (D N:Int) (a k:Nat) (W:World):Prop :=
 ∃ ap bf,RecB w0 w d s kw S A c D N ap bf W /\ (∀ a',a' < a -> RowDone S north D N ap a') /\ Sheet.RowI (joOf north S.J) D N a (rowOf S.n.toNat ap a) (byOf bf a) /\ Sheet.Lens (joOf north S.J) D N a (rowOf S.n.toNat ap a) (k * S.n.toNat) /\
  ∃ L,Sheet.Lev (Sheet.sc D N (Sheet.legs (joOf north S.J))) a (fun c=>Sheet.opt (rowOf S.n.toNat ap a c)) (Sheet.viaOf (joOf north S.J) D N a (rowOf S.n.toNat ap a) (byOf bf a)) L k
theorem RecF.step {w0 w W:World} {d s:Nat} {kw:FuncId} {S:SetL} {A:Option Addr} {c:Nat} {north:Bool} {D N:Int} {a b:Nat} (h:RecF w0 w d s kw S A c north D N a b W) (hn:S.n.toNat <= 12) (ha:a < 12) (hb:b < 12):RecF w0 w d s kw S A c north D N a (b + 1) (W.setCell ⟨d,2 + a * 12 + b,none⟩ (.int .i64 36028797018963968)):=by
 obtain ⟨ap,bf,h1,h2,h3⟩:=h;refine ⟨_,bf,⟨h1.fr.grown (only_setCell (only_refl _ _) (p:=⟨d,2 + a * 12 + b,none⟩) (.inl rfl) _) (.inl rfl),setAp2 h1.wk ha hb 36028797018963968⟩,fun a' ha'=>(h2 a' ha').congr hn fun i hi=>?_,fun i hi=>?_⟩
 ·unfold updF;rw [if_neg (by omega)]
 ·unfold updF;by_cases e:i = b
  ·subst e;rw [if_pos rfl];rfl
  ·rw [if_neg (by omega)];exact h3 i (by omega)
theorem RecF.start {w0 w W:World} {d s:Nat} {kw:FuncId} {S:SetL} {A:Option Addr} {c:Nat} {north:Bool} {D N:Int} {a:Nat} (h:RecF w0 w d s kw S A c north D N a S.n.toNat W) (hn:S.n.toNat <= 12) (ha:a < S.n.toNat):RecP w0 w d s kw S A c north D N a 0 (W.setCell ⟨d,2 + a * 12 + a,none⟩ (.int .i64 0)):=by
 obtain ⟨ap,bf,h1,h2,h3⟩:=h
 have e:rowOf S.n.toNat (updF ap (12 * a + a) 0) a = fun c=>if c = a then 0 else Sheet.far:=by
  funext c
  rw [rowOf_set ha];unfold Sheet.upd rowOf;by_cases e:c = a
  ·rw [if_pos e,if_pos e]
  ·rw [if_neg e,if_neg e];by_cases hc:c < S.n.toNat
   ·rw [if_pos hc];exact h3 c hc
   ·rw [if_neg hc]
 refine ⟨_,bf,⟨h1.fr.grown (only_setCell (only_refl _ _) (p:=⟨d,2 + a * 12 + a,none⟩) (.inl rfl) _) (.inl rfl),setAp2 h1.wk (by omega) (by omega) 0⟩,fun a' ha'=>(h2 a' ha').congr hn fun i hi=>?_,?_,?_,?_⟩
 ·unfold updF;rw [if_neg (by omega)]
 ·rw [e];exact Sheet.RowI.start _ _ _ _ _
 ·rw [e];exact Sheet.Lens.start.more (Nat.zero_le _)
 ·rw [e];exact ⟨_,Sheet.lev_start _ _ _ _ _⟩
set_option maxRecDepth 100000 in
set_option maxHeartbeats 4000000 in
theorem reckon_any {kw:FuncId} {north:Bool} (hK:WayOk kw north) (S:SetL) (A:Option Addr) (c d:Nat) (ap:Nat -> Int) (bf:Nat -> Nat × Bool) (w0 w:World) (hW:WorkAt w0 w d S A c ap bf) (hS:SetOk S) (N D:Int) (hp:PlayOk N D) :
  Calls Tryz.prog 44 #[.pointer (some ⟨d,0,none⟩),.agg #[.func (.func kw) #[] #[]],.agg #[.int .i64 N,.int .i64 D]] w (ReckR w0 w d S A c north D N):=by
 have hn1:=hS.n1;have hn2:=hS.n2;have hn12:S.n.toNat <= 12:=by omega
 have hdl:=hW.lt;have hb0:=hW.base;have F0:=((FrD.start w hW.lt).alloc rfl 101 #[.func (.func kw) #[] #[]]).alloc (by simp) 29 #[.int .i64 N,.int .i64 D];simp only [List.nil_append,List.cons_append] at F0;obtain ⟨W2,hW2⟩:∃ W2,(w.alloc (.cells #[.func (.func kw) #[] #[]] 101)).alloc (.cells #[.int .i64 N,.int .i64 D] 29) = W2:=⟨_,rfl⟩;rw [hW2] at F0;have HW2:=Lib.hid (hW.later (hW2 ▸ (Aft.alloc w _).then_alloc _));obtain ⟨s,hs⟩:∃ s,w.heap.size = s:=⟨_,rfl⟩;rw [hs] at F0;have HI0:Hid (RecI w0 w d s kw S A c north D N 0 W2):=Lib.hid ⟨ap,bf,⟨F0,HW2.out⟩,fun a' h=>absurd h (Nat.not_lt_zero _)⟩;have HS:=Lib.hid hS;have HP:=Lib.hid hp;have HKW:=Lib.hid hK;have qN:∀ (w:World) (a:Option Addr) (n c n' c':Nat),(binOp .neq 25 (.slice a n c) (.slice none n' c')).run Tryz.prog w = .ok (.bool (!a.isNone)) w:=fun w a n c n' c'=>run_neq_slice_nil_any w _ _ a n c n' c' Tryz.underlying25
 have k0:=HW2.out.k0;have k1:=HW2.out.lt;clear hW hS hp hK F0;go_enter Tryz.func44,Tryz.ntmps44;go_upto_block 0 with fail
 try rw [hW2]
 try rw [hs]
 clear hW2 k0 k1 HW2;refine wp_block ?_;go_loopw [16] (fun i wr=>∃ a:Nat,i = .int .i64 (a:Nat) /\ a <= S.n.toNat /\ RecI w0 w d s kw S A c north D N a wr) (fun i _=>S.n.toNat - (intOf i).toNat)
 case atStart=>exact ⟨0,rfl,by omega,HI0.out⟩
 case round =>
  obtain ⟨a,rfl,hal,ap1,bf1,hB1,hD1⟩:=hrel;clear HI0;by_cases han:a < S.n.toNat
  ·have t1:decide ((a:Int) < S.n) = true:=by simp;omega
   have ha12:a < 12:=by omega
   have ia:(0:Int) <= (a:Int) /\ (a:Int) < 12:=by omega
   have hcl:=fun ty=>run_clear_by hB1.wk ha12 ty
   obtain ⟨bf2,hw2⟩:=clear_by ha12 12 0 wr bf1 (by omega) hB1.wk;rw [show 146 + a * 24 + 0 * 2 = 146 + a * 24 by omega] at hw2;have hg2:=only_cells (zs2 12) (146 + a * 24) wr (only_refl wr (some d));have HB2:Hid (RecB w0 w d s kw S A c D N ap1 bf2 (wr.setCells d (146 + a * 24) (zs2 12))):=Lib.hid ⟨hB1.fr.grown hg2 (.inl rfl),hw2⟩;have HD1:=Lib.hid hD1;clear hB1 hD1 hw2 hg2;go_upto_region 5 with fail
   generalize wr.setCells d (146 + a * 24) (zs2 12) = W3 at *;clear hcl;have k0:=HB2.out.wk.k0;have k1:=HB2.out.wk.lt;go_upto_block 2 with fail
   clear k0 k1;have HF0:Hid (RecF w0 w d s kw S A c north D N a 0 W3):=Lib.hid ⟨ap1,bf2,HB2.out,HD1.out,fun i h=>absurd h (Nat.not_lt_zero _)⟩;clear HB2 HD1;refine wp_block ?_;go_loopw [30] (fun i wr=>∃ b:Nat,i = .int .i64 (b:Nat) /\ b <= S.n.toNat /\ RecF w0 w d s kw S A c north D N a b wr) (fun i _=>S.n.toNat - (intOf i).toNat)
   case atStart=>exact ⟨0,rfl,by omega,HF0.out⟩
   case round =>
    obtain ⟨b,rfl,hbl,hF⟩:=hrel;have HF:=Lib.hid hF;clear HF0 hF;obtain ⟨ap2,bf2,hB2,-⟩:=HF.out;by_cases hbn:b < S.n.toNat
    ·have t2:decide ((b:Int) < S.n) = true:=by simp;omega
     have ib:(0:Int) <= (b:Int) /\ (b:Int) < 12:=by omega
     have HF2:=Lib.hid (HF.out.step hn12 ha12 (by omega));have k1:=hB2.wk.lt;have k2:=kap2 hB2.wk (n:=S.n.toNat) (by omega) han hbn;have k3:=hB2.wk.fz (2 + a * 12 + b);clear hB2;go_wp2_with fail
     exact ⟨⟨b + 1,by go_num,by omega,HF2.out⟩,by simp [intOf];omega⟩
    ·have eb:b = S.n.toNat:=by omega
     have t2:decide ((b:Int) < S.n) = false:=by simp;omega
     have HPP:Hid (RecP w0 w d s kw S A c north D N a 0 (wr.setCell ⟨d,2 + a * 12 + a,none⟩ (.int .i64 0))):=Lib.hid (by
      have h:=HF.out;rw [eb] at h;exact h.start hn12 han)
     have k0:=hB2.wk.k0;have k1:=hB2.wk.lt;have k2:=kap2 hB2.wk (n:=S.n.toNat) (by omega) han han;have k3:=hB2.wk.fz (2 + a * 12 + a);clear hB2 hbn HF eb hbl;go_upto_region 11 with fail
     generalize wr.setCell ⟨d,2 + a * 12 + a,none⟩ (.int .i64 0) = W5 at *;clear k0 k1 k2 k3;obtain ⟨ap3,bf3,hB3,-⟩:=HPP.out;have k0:=hB3.wk.k0;have k1:=hB3.wk.lt;go_upto_block 4 with fail
     clear k0 k1 hB3;refine wp_block ?_;have HP0:Hid (0 < S.n.toNat):=Lib.hid (by omega);go_loopw [53] (fun i wr=>∃ k:Nat,i = .int .i64 (k:Nat) /\ k < S.n.toNat /\ RecP w0 w d s kw S A c north D N a k wr) (fun i _=>S.n.toNat - (intOf i).toNat)
     case atStart=>exact ⟨0,rfl,HP0.out,HPP.out⟩
     case round =>
      obtain ⟨k,rfl,hkn,ap4,bf4,hB4,hD4,hR4,hL4,L,hV4⟩:=hrel;clear HPP;have t3:decide ((k:Int) < S.n) = true:=by simp;omega
      have hkk:k * S.n.toNat + S.n.toNat <= 190:=by
       have h1:k * S.n.toNat <= 11 * S.n.toNat:=Nat.mul_le_mul_right _ (by omega);omega
      have HPA:=Lib.hid (pass_any HKW.out S A c d ap4 bf4 w0 wr hB4.wk HS.out a han N D HP.out (k * S.n.toNat) hkk hR4 hL4);have y1:wr.cell? ⟨s,0,none⟩ = some (.func (.func kw) #[] #[]):=(hB4.fr.nth 0 rfl).cell 0;have y2:=(hB4.fr.nth 0 rfl).lt;have y3:wr.cell? ⟨s + 1,0,none⟩ = some (.int .i64 N):=(hB4.fr.nth 1 rfl).cell 0;have y4:wr.cell? ⟨s + 1,1,none⟩ = some (.int .i64 D):=(hB4.fr.nth 1 rfl).cell 1;have y5:=(hB4.fr.nth 1 rfl).lt;have HB4:=Lib.hid hB4;have HD4:=Lib.hid hD4;have HR4:=Lib.hid hR4;have HL4:=Lib.hid hL4;have HV4:=Lib.hid hV4;clear hB4 hD4 hR4 hL4 hV4;go_upto_region 14 with (go_at_call 98;refine HPA.out.mono ?_;rintro e W6 ⟨x,ap5,bf5,rfl,hg6,hw6,hps6⟩;have HG6:=Lib.hid hg6;have HW6:=Lib.hid hw6;have HPS:=Lib.hid hps6;clear hg6 hw6 hps6)
      clear y1 y2 y3 y4 y5 HPA;have HB6:Hid (RecB w0 w d s kw S A c D N ap5 bf5 W6):=Lib.hid ⟨HB4.out.fr.grown HG6.out (.inl rfl),HW6.out⟩;have HD6:Hid (∀ a',a' < a -> RowDone S north D N ap5 a'):=Lib.hid fun a' ha'=>(HD4.out a' ha').congr hn12 fun i hi=>HPS.out.rest i (by omega)
      rcases HPS.out.at_ with ⟨hx,he⟩ | ⟨q,hq,hx,hne⟩
      ·have HRD:Hid (RowDone S north D N ap5 a):=Lib.hid ⟨⟨_,HPS.out.ps.core⟩,HPS.out.ps.calm (HS.out.ok north) han (fun c=>by rw [he])⟩;subst hx;clear he;go_wp2_with fail
       exact ⟨⟨a + 1,by go_num,by omega,ap5,bf5,HB6.out,fun a' ha'=>by
        by_cases e:a' = a
        ·subst e;exact HRD.out
        ·exact HD6.out a' (by omega)⟩,by simp [intOf];omega⟩
      ·subst hx
       have hmet:rowOf S.n.toNat ap5 a q ≠ Sheet.far:=by
        intro e;apply hne;have h1:=Sheet.opt_none.2 e;rw [h1];refine (Classical.byContradiction fun h2=>?_);have h3:Sheet.opt (rowOf S.n.toNat ap4 a q) ≠ none:=fun h=>h2 h.symm
        obtain ⟨y,hy⟩:=Option.ne_none_iff_exists'.1 h3;obtain ⟨y',hy',_⟩:=HPS.out.ps.mid.mono q y hy;rw [h1] at hy';cases hy'
       obtain ⟨L',hV5,hL5⟩:=HPS.out.ps.lev (HS.out.ok north) han HR4.out HV4.out;have hLq:=hL5 q hne;have HBK:=Lib.hid (back_any (north:=north) S A c d ap5 bf5 w0 W6 HB6.out.wk HS.out a han N D HPS.out.ps.core q hq hmet);have HV5:=Lib.hid hV5;have HLQ:=Lib.hid hLq;have HMET:=Lib.hid hmet;clear hne hV5 hL5 hLq hmet;go_upto_region 16 with (go_at_call 99;refine HBK.out.mono ?_;rintro e W7 hfin;obtain ⟨A9,n9,c9,rfl,hfin2⟩:=hfin.val2;have HFIN:=Lib.hid hfin2;clear hfin hfin2)
       rcases HFIN.out with ⟨rfl,rfl,rfl,ha7,hnil⟩ | ⟨g7,l7,rfl,rfl,ha7,ho7,hcl7⟩
       ·have HA7:=Lib.hid ha7;have HK1:Hid (k + 1 < S.n.toNat):=Lib.hid (by
         refine Classical.byContradiction fun hk1=>?_
         have ek:k + 1 = S.n.toNat:=by omega
         obtain ⟨f,m,h1,h2,h3,h4,h5⟩:=hnil;have hv:=HV5.out;rw [ek] at hv;exact Sheet.back_ends (HS.out.ok north) han HPS.out.ps.core hv h1 h2 h3 (by rw [h4,HLQ.out,ek]) (by rw [h4];exact HMET.out) h5)
        clear ha7 hnil HFIN HBK HLQ HMET;go_wp2_with fail
        exact ⟨⟨k + 1,by go_num,HK1.out,ap5,bf5,HB6.out.later HA7.out,HD6.out,HPS.out.ps.core,by rw [Nat.add_mul,Nat.one_mul];exact HPS.out.lens,_,HV5.out⟩,by simp [intOf];omega⟩
       ·have HA7:=Lib.hid ha7;have HO7:=Lib.hid ho7;have HC7:=Lib.hid hcl7;have hge:=HB6.out.fr.grow.size;clear ha7 ho7 hcl7 HFIN HBK HLQ HMET;go_wp2_with fail
        go_ret;have hB7:=HB6.out.later HA7.out;exact ⟨ap5,bf5,hB7.fr.grow,hB7.wk,.inr ⟨g7,c9,l7,rfl,World.ownsRow.mono HO7.out hge,HC7.out⟩⟩
  ·have ea:a = S.n.toNat:=by omega
   have t1:decide ((a:Int) < S.n) = false:=by simp;omega
   have HB1:=Lib.hid hB1;have HD1:=Lib.hid hD1;clear hB1 hD1;go_wp2_with fail
   go_ret;exact ⟨ap1,bf1,HB1.out.fr.grow,HB1.out.wk,.inl ⟨rfl,fun a' ha'=>HD1.out a' (by omega)⟩⟩
end Go.Proofs
end
section
/- Walks: ratio,greatest. -/
namespace Go.Proofs
open Go.RowKit
attribute [local go_sem] Oper.semAt_some
theorem low_gcd (n d:Int) (hd:0 < d) (g:Nat) (hg:Nat.gcd n.natAbs d.toNat = g):0 < g /\ Int.tdiv n g = (Sheet.low n d).1 /\ Int.tdiv d g = (Sheet.low n d).2:=by
 have hg0:0 < g:=by rw [<- hg];exact Nat.gcd_pos_of_pos_right _ (by omega)
 have hg1:((g:Int)) ∣ n:=by
  rw [<- hg];exact Int.natAbs_dvd_natAbs.1 (by simpa using Nat.gcd_dvd_left _ _)
 have hg2:((g:Int)) ∣ d:=by
  rw [<- hg];have h:=Int.natCast_dvd_natCast.2 (Nat.gcd_dvd_right n.natAbs d.toNat);have e:(d.toNat:Int) = d:=by omega
  rwa [e] at h
 unfold Sheet.low;rw [hg];exact ⟨hg0,Int.tdiv_eq_ediv_of_dvd hg1,Int.tdiv_eq_ediv_of_dvd hg2⟩
set_option maxRecDepth 100000 in
set_option maxHeartbeats 2000000 in
theorem ratio_any (n d:Int) (w:World) (hd:0 < d) (hd2:d <= 1000000000000000000) (hn:-1000000000000000000 <= n /\ n <= 1000000000000000000) :
  Calls Tryz.prog 45 #[.int .i64 n,.int .i64 d] w fun e w'=>e = .returned (.agg #[.int .i64 (Sheet.low n d).1,.int .i64 (Sheet.low n d).2]) /\ Aft w w':=by
 obtain ⟨dn,rfl⟩:∃ dn:Nat,d = dn:=⟨d.toNat,by omega⟩;obtain ⟨N0,hN0⟩:∃ N0,n.natAbs = N0:=⟨_,rfl⟩;have hab:(if n < -n then -n else n) = (N0:Int):=by split <;> omega
 have hN1:N0 <= 1000000000000000000:=by omega
 have HL:=Lib.hid (low_gcd n dn (by omega));rw [hN0] at HL;have HAB:=Lib.hid hab;obtain ⟨q1,hq1⟩:∃ q,(Sheet.low n dn).1 = q:=⟨_,rfl⟩;obtain ⟨q2,hq2⟩:∃ q,(Sheet.low n dn).2 = q:=⟨_,rfl⟩;rw [hq1,hq2] at HL ⊢;clear hab hN0 hq1 hq2;go_enter Tryz.func45,Tryz.ntmps45;go_upto_block 0 with fail
 rw [HAB.out];have HB0:=Lib.hid (Blk.new w 29 #[.int .i64 0,.int .i64 0]);have HA0:=Lib.hid (Aft.alloc w (.cells #[.int .i64 0,.int .i64 0] 29));generalize w.alloc (.cells #[.int .i64 0,.int .i64 0] 29) = W1 at *;obtain ⟨s,hs⟩:∃ s,w.heap.size = s:=⟨_,rfl⟩;rw [hs] at HB0 ⊢;refine wp_block ?_;go_loopw [5,6] (fun x y wr=>∃ a b:Nat,x = .int .i64 (a:Nat) /\ y = .int .i64 (b:Nat) /\ a <= 1000000000000000000 /\ b <= 1000000000000000000 /\ Hid (Nat.gcd a b = Nat.gcd N0 dn) /\ Aft w wr /\ Blk wr s 29 #[.int .i64 0,.int .i64 0]) (fun _ y _=>(intOf y).toNat)
 case atStart=>exact ⟨N0,dn,rfl,rfl,hN1,by omega,Lib.hid rfl,HA0.out,HB0.out⟩
 case round =>
  obtain ⟨a,b,rfl,rfl,ha,hb,HG,haw,hbw⟩:=hrel;have HAW:=Lib.hid haw;have HBW:=Lib.hid hbw;clear haw hbw HA0 HB0;by_cases hb0:0 < b
  ·have t1:decide ((0:Int) < (b:Int)) = true:=by simp;omega
   have hm:(a:Int) % (b:Int) = ((a % b:Nat):Int):=by simp
   have htm:Int.tmod (a:Int) (b:Int) = ((a % b:Nat):Int):=by rw [Int.tmod_eq_emod_of_nonneg (by omega)];simp
   have hlt:a % b < b:=Nat.mod_lt _ hb0;have HG2:Hid (Nat.gcd b (a % b) = Nat.gcd N0 dn):=Lib.hid (by rw [<- HG.out,Nat.gcd_comm b (a % b),<- Nat.gcd_rec b a,Nat.gcd_comm]);have hb0':((b:Int) == 0) = false:=by simp;omega
   obtain ⟨r,hr⟩:∃ r,a % b = r:=⟨_,rfl⟩;rw [hr] at hm htm hlt HG2;clear hr;go_upto_region 3 with fail
   go_quiet (fail);go_wp2_with fail
   exact ⟨⟨b,r,rfl,rfl,by omega,by omega,HG2,HAW.out.then_drewN nq,HBW.out.drewN nq⟩,by simp [intOf];omega⟩
  ·have eb:b = 0:=by omega
   have t1:decide ((0:Int) < (b:Int)) = false:=by simp;omega
   obtain ⟨hg0,hg1,hg2⟩:=HL.out a (by have:=HG.out;rw [eb,Nat.gcd_zero_right] at this;rw [this];simp)
   have hab1:-1000000000000000000 <= q1 /\ q1 <= 1000000000000000000:=by
    have h1:=Int.natAbs_tdiv n a;rw [hg1,Int.natAbs_natCast] at h1;have h2:n.natAbs.div a <= n.natAbs:=Nat.div_le_self _ _;omega
   have hab2:-1000000000000000000 <= q2 /\ q2 <= 1000000000000000000:=by
    have h1:=Int.natAbs_tdiv (dn:Int) a;rw [hg2,Int.natAbs_natCast (n:=a)] at h1;have h2:(dn:Int).natAbs.div a <= (dn:Int).natAbs:=Nat.div_le_self _ _;omega
   have w1:IntKind.i64.wrap q1 = q1:=IntWalk.i64_in _ (by omega);have w2:IntKind.i64.wrap q2 = q2:=IntWalk.i64_in _ (by omega);have ha0:((a:Int) == 0) = false:=by simp;omega
   have ha00:¬ ((a:Int) = 0):=by omega
   have ha000:¬ (a = 0):=by omega
   clear eb HG;go_upto_region 4 with fail
   refine wp_region_valsT (by kernel_rfl) 7 25 rfl (by kernel_rfl) (by kernel_rfl) (by kernel_rfl) [.int .i64 n,.int .i64 (a:Nat),.int .i64 q1,.int .i64 (dn:Nat),.int .i64 (a:Nat),.int .i64 q2,.agg #[.int .i64 q1,.int .i64 q2]] rfl (fun _ W=>Aft wr W) (Aft.drew _) ?st1 ?fi1
   case st1 =>
    intro i o v ho hv
    match i,ho,hv with
    | 0,ho,hv =>
     cases ho;cases hv;refine .inl ⟨rfl,fun done a W hd hp hk hw K hK=>?_⟩;have e0:=hk.same 0 (by decide);exact op_val (by simp [go_sem,ev' e0]) (hK _ hw)
    | 1,ho,hv =>
     cases ho;cases hv;refine .inl ⟨rfl,fun done a W hd hp hk hw K hK=>?_⟩;have e5:=hk.same 5 (by decide);exact op_val (by simp [go_sem,ev' e5]) (hK _ hw)
    | 2,ho,hv =>
     cases ho;cases hv;refine .inl ⟨rfl,fun done a W hd hp hk hw K hK=>?_⟩;have e18:=hk.at_ 0 _ 18 _ rfl (by decide) _ rfl rfl rfl;have e19:=hk.at_ 1 _ 19 _ rfl (by decide) _ rfl rfl rfl;exact op_val (by simp [go_sem,ev' e18,ev' e19,hg1,w1,ha0,ha00,ha000]) (hK _ hw)
    | 3,ho,hv =>
     cases ho;cases hv;refine .inl ⟨rfl,fun done a W hd hp hk hw K hK=>?_⟩;have e1:=hk.same 1 (by decide);exact op_val (by simp [go_sem,ev' e1]) (hK _ hw)
    | 4,ho,hv =>
     cases ho;cases hv;refine .inl ⟨rfl,fun done a W hd hp hk hw K hK=>?_⟩;have e5:=hk.same 5 (by decide);exact op_val (by simp [go_sem,ev' e5]) (hK _ hw)
    | 5,ho,hv =>
     cases ho;cases hv;refine .inl ⟨rfl,fun done a W hd hp hk hw K hK=>?_⟩;have e21:=hk.at_ 3 _ 21 _ rfl (by decide) _ rfl rfl rfl;have e22:=hk.at_ 4 _ 22 _ rfl (by decide) _ rfl rfl rfl;exact op_val (by simp [go_sem,ev' e21,ev' e22,hg2,w2,ha0,ha00,ha000]) (hK _ hw)
    | 6,ho,hv =>
     cases ho;cases hv;refine .inl ⟨rfl,fun done a W hd hp hk hw K hK=>?_⟩;have e20:=hk.at_ 2 _ 20 _ rfl (by decide) _ rfl rfl rfl;have e23:=hk.at_ 5 _ 23 _ rfl (by decide) _ rfl rfl rfl;exact op_val (by simp [go_sem,ev' e20,ev' e23]) (hK _ hw)
    | _ + 7,_,hv=>cases hv
   intro done W hd hw;simp only [List.drop_succ_cons,List.drop_zero,List.zip_cons_cons,List.zip_nil_right,putAll];simp only [Act.put,List.setIfInBounds_toArray,List.set];clear hd;have HW:=Lib.hid hw;have y1:=(HBW.out.aft hw).cell 0;have y2:=(HBW.out.aft hw).cell 1;have y3:=(HBW.out.aft hw).frozen 0;have y4:=(HBW.out.aft hw).frozen 1;have y5:=(HBW.out.aft hw).lt;have HB:=Lib.hid (HBW.out.aft hw);simp only [List.getElem?_toArray,List.getElem?_cons_zero,List.getElem?_cons_succ] at y1 y2;clear hw hg1 hg2 w1 w2 ha0 ha00 ha000;go_wp2_with fail
   have B2:=(HB.out.store 0 (.int .i64 q1)).store 1 (.int .i64 q2);have A2:=((HAW.out.trans HW.out).then_setCell (p:=⟨s,0,none⟩) (by show w.heap.size <= s;omega) (.int .i64 q1)).then_setCell (p:=⟨s,1,none⟩) (by show w.heap.size <= s;omega) (.int .i64 q2);generalize (W.setCell ⟨s,0,none⟩ (.int .i64 q1)).setCell ⟨s,1,none⟩ (.int .i64 q2) = X at *;have z0:X.cell? ⟨s,0,none⟩ = some (.int .i64 q1):=B2.cell 0;have z1:X.cell? ⟨s,1,none⟩ = some (.int .i64 q2):=B2.cell 1;exact bodyPost_ret (v:=.agg #[.int .i64 q1,.int .i64 q2]) (by simp [results,Tryz.results45,go_sem,z0,z1]) rfl ⟨rfl,A2⟩
def moreB (a b:Int × Int):Bool:=decide (b.1 * a.2 < a.1 * b.2)
def gr2 (a b:Int × Int):Int × Int:=if moreB b a then b else a
def grL (first:Int × Int) (l:List (Int × Int)):Int × Int:=l.foldl gr2 first
structure RatS (p:Int × Int):Prop where
 n0:0 <= p.1
 n1:p.1 <= 3000000000000
 d0:1 <= p.2
 d1:p.2 <= 1000000
theorem grL_take (first:Int × Int) (l:List (Int × Int)) (k:Nat) (h:k < l.length):grL first (l.take (k + 1)) = gr2 (grL first (l.take k)) l[k]:=by
 unfold grL;rw [List.take_succ_eq_append_getElem h,List.foldl_append];rfl
theorem RatS.gr2 {a b:Int × Int} (ha:RatS a) (hb:RatS b):RatS (gr2 a b):=by unfold Go.Proofs.gr2;split <;> assumption
theorem RatS.grL {first:Int × Int} {l:List (Int × Int)} (hf:RatS first) (hl:∀ r ∈ l,RatS r):RatS (grL first l):=by
 unfold Go.Proofs.grL
 induction l generalizing first with
 | nil=>exact hf
 | cons x r ih=>exact ih (hf.gr2 (hl x (by simp))) (fun y hy=>hl y (by simp [hy]))
theorem prod_le {a b:Int} (ha:0 <= a) (ha2:a <= 3000000000000) (hb:1 <= b) (hb2:b <= 1000000):0 <= a * b /\ a * b <= 3000000000000000000:=by
 refine ⟨Int.mul_nonneg ha (by omega),?_⟩;have h1:a * b <= 3000000000000 * b:=Int.mul_le_mul_of_nonneg_right ha2 (by omega);omega
set_option maxRecDepth 100000 in
set_option maxHeartbeats 2000000 in
theorem greatest_any (first:Int × Int) (A:Option Addr) (l:List (Int × Int)) (c:Nat) (w:World) (hA:Prs w A l) (hf:RatS first) (hl:∀ r ∈ l,RatS r) :
  Calls Tryz.prog 79 #[.agg #[.int .i64 first.1,.int .i64 first.2],.slice A l.length c] w fun e w'=>e = .returned (.agg #[.int .i64 (grL first l).1,.int .i64 (grL first l).2]) /\ Aft w w':=by
 have hlen:=hA.len;obtain ⟨s,hs⟩:∃ s,w.heap.size = s:=⟨_,rfl⟩;have F0:=((Fr.start w).alloc rfl 29 #[.int .i64 first.1,.int .i64 first.2]).alloc (by simp) 29 #[.int .i64 0,.int .i64 0];simp only [List.nil_append,List.cons_append] at F0;rw [hs] at F0;have HI0:Hid (Fr w (s + 1 + 1) [(s,29,#[.int .i64 (grL first (l.take 0)).1,.int .i64 (grL first (l.take 0)).2]),(s + 1,29,#[.int .i64 0,.int .i64 0])] ((w.alloc (.cells #[.int .i64 first.1,.int .i64 first.2] 29)).alloc (.cells #[.int .i64 0,.int .i64 0] 29))):=Lib.hid F0;obtain ⟨R,hR⟩:∃ R,grL first l = R:=⟨_,rfl⟩
 rw [hR];have HRR:=Lib.hid hR;have HA:=Lib.hid hA;have HF:=Lib.hid hf;have HL:=Lib.hid hl;clear F0 hR hA hf hl;go_enter Tryz.func79,Tryz.ntmps79;go_upto_block 0 with fail
 try rw [hs]
 generalize ((w.alloc (.cells #[.int .i64 first.1,.int .i64 first.2] 29)).alloc (.cells #[.int .i64 0,.int .i64 0] 29)) = W1 at *;refine wp_block ?_;go_loopw [9] (fun i wr=>∃ k:Nat,i = .int .i64 (k:Nat) /\ k <= l.length /\ Fr w (s + 1 + 1) [(s,29,#[.int .i64 (grL first (l.take k)).1,.int .i64 (grL first (l.take k)).2]),(s + 1,29,#[.int .i64 0,.int .i64 0])] wr) (fun i _=>l.length - (intOf i).toNat)
 case atStart=>exact ⟨0,rfl,by omega,HI0.out⟩
 case round =>
  obtain ⟨k,rfl,hk,hI⟩:=hrel;have HI:=Lib.hid hI;clear HI0 hI;by_cases hkl:k < l.length
  ·have t1:decide (k < l.length) = true:=by simpa using hkl
   obtain ⟨b,o,rfl,hb,hc⟩:=(HA.out.aft HI.out.aft).at hkl;obtain ⟨x1,x2⟩:=hc k hkl;have HT:=Lib.hid (grL_take first l k hkl);have hr1:=HL.out _ (List.getElem_mem hkl);have hr2:RatS (grL first (l.take k)):=HF.out.grL fun r hr=>HL.out r (List.mem_of_mem_take hr)
   obtain ⟨r,hr⟩:∃ r,l[k] = r:=⟨_,rfl⟩;obtain ⟨g,hg⟩:∃ g,grL first (l.take k) = g:=⟨_,rfl⟩
   rw [hr] at x1 x2 HT hr1;rw [hg] at HT hr2 HI;clear hr hg hc;have HI2:=Lib.hid (HI.out.later (Aft.alloc wr (.cells #[.int .i64 r.1,.int .i64 r.2] 29)));have y0:=(HI.out.nth 0 rfl).cell 0;have y1:=(HI.out.nth 0 rfl).cell 1;have y2:=(HI.out.nth 0 rfl).lt;have y3:=(HI.out.nth 0 rfl).frozen 0;have y4:=(HI.out.nth 0 rfl).frozen 1;simp only [List.getElem?_toArray,List.getElem?_cons_zero,List.getElem?_cons_succ] at y0 y1;obtain ⟨p1,p1'⟩:=prod_le hr1.n0 hr1.n1 hr2.d0 hr2.d1;obtain ⟨p2,p2'⟩:=prod_le hr2.n0 hr2.n1 hr1.d0 hr1.d1;have e1:IntKind.i64.wrap (r.1 * g.2) = r.1 * g.2:=IntWalk.i64_in _ (by omega);have e2:IntKind.i64.wrap (g.1 * r.2) = g.1 * r.2:=IntWalk.i64_in _ (by omega);clear hr1 hr2;by_cases hm:g.1 * r.2 < r.1 * g.2
   ·have t2:decide (g.1 * r.2 < r.1 * g.2) = true:=by simpa using hm
    have HT2:Hid (grL first (l.take (k + 1)) = r):=Lib.hid (by rw [HT.out];unfold gr2 moreB;rw [if_pos (by simpa using hm)]);clear hm;go_wp2_with fail
    exact ⟨⟨k + 1,by go_num,by omega,by rw [HT2.out];exact ((HI.out.store (g:=s) (t:=29) (cs:=#[.int .i64 g.1,.int .i64 g.2]) (by simp) 0 (.int .i64 r.1) (bs':=[(s,29,#[.int .i64 r.1,.int .i64 g.2]),(s + 1,29,#[.int .i64 0,.int .i64 0])]) (by simp)).store (g:=s) (t:=29) (cs:=#[.int .i64 r.1,.int .i64 g.2]) (by simp) 1 (.int .i64 r.2) (bs':=[(s,29,#[.int .i64 r.1,.int .i64 r.2]),(s + 1,29,#[.int .i64 0,.int .i64 0])]) (by simp)).later (Aft.alloc _ _)⟩,by simp [intOf];omega⟩
   ·have t2:decide (g.1 * r.2 < r.1 * g.2) = false:=by simpa using hm
    have HT2:Hid (grL first (l.take (k + 1)) = g):=Lib.hid (by rw [HT.out];unfold gr2 moreB;rw [if_neg (by simpa using hm)]);clear hm;go_wp2_with fail
    exact ⟨⟨k + 1,by go_num,by omega,by rw [HT2.out];exact HI2.out⟩,by simp [intOf];omega⟩
  ·have t1:decide (k < l.length) = false:=by simpa using hkl
   have ek:l.take k = l:=List.take_of_length_le (by omega);rw [ek,HRR.out] at HI;have y0:=(HI.out.nth 0 rfl).cell 0;have y1:=(HI.out.nth 0 rfl).cell 1;have y2:=(HI.out.nth 0 rfl).lt;have z0:=(HI.out.nth 1 rfl).cell 0;have z1:=(HI.out.nth 1 rfl).cell 1;have z2:=(HI.out.nth 1 rfl).lt;have z3:=(HI.out.nth 1 rfl).frozen 0;have z4:=(HI.out.nth 1 rfl).frozen 1;simp only [List.getElem?_toArray,List.getElem?_cons_zero,List.getElem?_cons_succ] at y0 y1 z0 z1;clear ek;go_wp2_with fail
   have B2:=((HI.out.nth 1 rfl).store 0 (.int .i64 R.1)).store 1 (.int .i64 R.2);have A2:=(HI.out.aft.then_setCell (p:=⟨s + 1,0,none⟩) (by show w.heap.size <= s + 1;omega) (.int .i64 R.1)).then_setCell (p:=⟨s + 1,1,none⟩) (by show w.heap.size <= s + 1;omega) (.int .i64 R.2);generalize (wr.setCell ⟨s + 1,0,none⟩ (.int .i64 R.1)).setCell ⟨s + 1,1,none⟩ (.int .i64 R.2) = X at *;have z0:X.cell? ⟨s + 1,0,none⟩ = some (.int .i64 R.1):=B2.cell 0;have z1:X.cell? ⟨s + 1,1,none⟩ = some (.int .i64 R.2):=B2.cell 1;exact bodyPost_ret (v:=.agg #[.int .i64 R.1,.int .i64 R.2]) (by simp [results,Tryz.results79,go_sem,z0,z1]) rfl ⟨rfl,A2⟩
end Go.Proofs
end
section
/- Words: what rounds prove. -/
namespace Go.Proofs
open Go.RowKit
open Sheet (sumN IsWalk)
theorem sumN_take {J:List Sheet.Jo} {l:List (Nat × Bool)} {k:Nat} (h:k < l.length):sumN J (l.take (k + 1)) = sumN J (l.take k) + Sheet.num J l[k]:=by
 rw [List.take_succ_eq_append_getElem h,Sheet.sumN_append];simp [sumN]
theorem sumN_le {S:SetL} {north:Bool} (hS:SetOk S):∀ {l:List (Nat × Bool)},(∀ g ∈ l,g.1 < S.J.length) -> -(1000000 * (l.length:Int)) <= sumN (joOf north S.J) l /\ sumN (joOf north S.J) l <= 1000000 * (l.length:Int)
 | [],_=>by simp [sumN]
 | g :: r,h=>by
  have h1:=sumN_le (north:=north) hS (l:=r) (fun x hx=>h x (by simp [hx]));have hg:=h g (by simp);have h2:=num_le (north:=north) hS hg;rw [<- num_of (north:=north) hg] at h2;simp only [sumN,List.length_cons];omega
theorem IsWalk.ok {J:List Sheet.Jo}:∀ {a b:Nat} {l:List (Nat × Bool)},IsWalk J a l b -> ∀ g ∈ l,g.1 < J.length
 | _,_,[],_,g,hg=>by cases hg
 | _,_,x :: r,⟨h1,_,h3⟩,g,hg=>by
  rcases List.mem_cons.1 hg with rfl | hg
  ·exact h1
  ·exact IsWalk.ok h3 g hg
theorem low_le {n d:Int} (hn:0 <= n) (hd:0 < d):0 <= (Sheet.low n d).1 /\ (Sheet.low n d).1 <= n /\ 1 <= (Sheet.low n d).2 /\ (Sheet.low n d).2 <= d:=by
 obtain ⟨g,g0,h1,h2,h3,-⟩:=Sheet.low_facts n d hd;generalize Sheet.low n d = x at *
 have e1:x.1 <= x.1 * g:=by
  by_cases h:0 <= x.1
  ·have:=Int.mul_le_mul_of_nonneg_left (show 1 <= g by omega) h;omega
  ·omega
 have e2:x.2 <= x.2 * g:=by
  have:=Int.mul_le_mul_of_nonneg_left (show 1 <= g by omega) (Int.le_of_lt h3);omega
 have e3:0 <= x.1:=by
  refine Int.not_lt.1 fun h=>?_
  have:=Int.mul_neg_of_neg_of_pos h g0;omega
 omega
theorem low_low (n d:Int) (hd:0 < d):Sheet.low (Sheet.low n d).1 (Sheet.low n d).2 = Sheet.low n d:=by
 obtain ⟨g,g0,h1,h2,h3,h4⟩:=Sheet.low_facts n d hd;generalize Sheet.low n d = x at *;unfold Sheet.low;rw [h4]
 simp
structure LP (S:SetL) (north:Bool) (p:Int × Int):Prop where
 least:Sheet.Least (Sheet.legs (joOf north S.J)) p.1 p.2
 low:Sheet.low p.1 p.2 = p
 n1:p.1 <= 12000000
 d1:p.2 <= 12
theorem LP.same {S:SetL} {north:Bool} {p q:Int × Int} (h:LP S north p) (h':LP S north q):p = q:=by
 rw [<- h.low,<- h'.low];exact h.least.low h'.least
def RoundP (S:SetL) (north:Bool) (l:List (Nat × Bool)) (p:Int × Int):Prop:=0 < l.length /\ l.length <= 12 /\ (∃ c,IsWalk (joOf north S.J) c l c) /\ sumN (joOf north S.J) l < 0 /\ p = Sheet.low (-(sumN (joOf north S.J) l)) l.length
end Go.Proofs
end
section
/- Plain: what the reference's worst reckons. -/
namespace Sheet
theorem fr_trans {a b c d e f:Int} (h1:a * d <= c * b) (h2:c * f <= e * d) (hd:0 < d) (hb:0 <= b) (hf:0 <= f):a * f <= e * b:=by
 have a1:a * d * f <= c * b * f:=Int.mul_le_mul_of_nonneg_right h1 hf;have a2:c * f * b <= e * d * b:=Int.mul_le_mul_of_nonneg_right h2 hb;have e1:a * f * d = a * d * f:=by rw [Int.mul_assoc,Int.mul_comm f d,<- Int.mul_assoc]
 have e2:c * b * f = c * f * b:=by rw [Int.mul_assoc,Int.mul_comm b f,<- Int.mul_assoc]
 have e3:e * d * b = e * b * d:=by rw [Int.mul_assoc,Int.mul_comm d b,<- Int.mul_assoc]
 exact Int.le_of_mul_le_mul_right (show a * f * d <= e * b * d by omega) hd
def optW (x:Int):Option Int:=if x = -1000000000000000000 then none else some x
theorem optW_some {x m:Int}:optW x = some m ↔ x ≠ -1000000000000000000 /\ x = m:=by
 unfold optW;by_cases h:x = -1000000000000000000
 ·rw [if_pos h];exact ⟨(fun e=>by cases e),fun e=>absurd h e.1⟩
 ·rw [if_neg h];exact ⟨fun e=>by cases e;exact ⟨h,rfl⟩,fun e=>by rw [e.2]⟩
theorem optW_none {x:Int}:optW x = none ↔ x = -1000000000000000000:=by
 unfold optW;by_cases h:x = -1000000000000000000 <;> simp [h]
def mx (x y:Int):Int:=if x < y then y else x
theorem mx_le (x y:Int):x <= mx x y /\ y <= mx x y /\ (mx x y = x \/ mx x y = y):=by unfold mx;split <;> omega
def putR (f:Nat -> Int) (a:Nat) (x:Int):Nat -> Int:=fun i=>if i = a then x else f i
theorem putR_self (f:Nat -> Int) (a:Nat) (x:Int):putR f a x a = x:=if_pos rfl
theorem putR_ne (f:Nat -> Int) {a c:Nat} (x:Int) (h:c ≠ a):putR f a x c = f c:=if_neg h
def wg1 (J:List Jo) (P:Nat -> Int) (g:Nat × Bool) (f:Nat -> Int):Nat -> Int:=if -1000000000000000000 < P (from_ J g) then putR f (into J g) (mx (f (into J g)) (P (from_ J g) + num J g)) else f
def wkR (J:List Jo) (P:Nat -> Int):Nat -> Nat -> Int
 | 0=>fun _=>-1000000000000000000
 | i + 1=>wg1 J P (i,true) (wg1 J P (i,false) (wkR J P i))
def wkT (J:List Jo):Nat -> Nat -> Int
 | 0=>fun _=>0
 | k + 1=>wkR J (wkT J k) J.length
structure WrI (J:List Jo) (n:Nat) (P:Nat -> Int) (M:Int) (tr:Nat × Bool -> Prop) (f:Nat -> Int):Prop where
 has:∀ c,c < n -> f c ≠ -1000000000000000000 -> ∃ g:Nat × Bool,g.1 < J.length /\ into J g = c /\ P (from_ J g) ≠ -1000000000000000000 /\ f c = P (from_ J g) + num J g
 ge:∀ g:Nat × Bool,tr g -> g.1 < J.length -> P (from_ J g) ≠ -1000000000000000000 -> f (into J g) ≠ -1000000000000000000 /\ P (from_ J g) + num J g <= f (into J g)
 bnd:∀ c,c < n -> f c = -1000000000000000000 \/ (-(M + 1000000) <= f c /\ f c <= M + 1000000)
section
variable {J:List Jo} {n:Nat} {P:Nat -> Int} {M:Int} {tr tr':Nat × Bool -> Prop} {f:Nat -> Int}
theorem WrI.congr (h:WrI J n P M tr f) (ht:∀ g,tr' g -> tr g):WrI J n P M tr' f:=⟨h.has,fun g hg=>h.ge g (ht g hg),h.bnd⟩
theorem WrI.leg (h:WrI J n P M tr f) (hJ:Ok n J) (hM:0 <= M) (hM2:M <= 100000000) (hP:∀ c,c < n -> P c = -1000000000000000000 \/ (-M <= P c /\ P c <= M)) {g:Nat × Bool} (hg:g.1 < J.length) (hw:-1000000 <= num J g /\ num J g <= 1000000) :
  WrI J n P M (fun y=>tr y \/ y = g) (wg1 J P g f):=by
 have hin:=hJ.in _ _ _ (leg_mem hg);unfold wg1;by_cases e:-1000000000000000000 < P (from_ J g)
 ·rw [if_pos e];obtain ⟨h1,h2,h3⟩:=mx_le (f (into J g)) (P (from_ J g) + num J g);have hpb:=hP _ hin.1;have hfb:=h.bnd _ hin.2;have hmb:mx (f (into J g)) (P (from_ J g) + num J g) ≠ -1000000000000000000:=by omega
  refine ⟨fun c hc hf=>?_,fun y hy hl hp=>?_,fun c hc=>?_⟩
  ·by_cases ec:c = into J g
   ·subst ec;rw [putR_self] at hf ⊢;rcases h3 with h4 | h4
    ·rw [h4] at hf ⊢;exact h.has _ hc hf
    ·rw [h4];exact ⟨g,hg,rfl,by omega,rfl⟩
   ·rw [putR_ne _ _ ec] at hf ⊢;exact h.has c hc hf
  ·by_cases ec:into J y = into J g
   ·rw [ec,putR_self];refine ⟨hmb,?_⟩;rcases hy with hy | rfl
    ·have:=(h.ge y hy hl hp).2;rw [ec] at this;omega
    ·exact h2
   ·rw [putR_ne _ _ ec];rcases hy with hy | rfl
    ·exact h.ge y hy hl hp
    ·exact absurd rfl ec
  ·by_cases ec:c = into J g
   ·subst ec;rw [putR_self];omega
   ·rw [putR_ne _ _ ec];exact h.bnd c hc
 ·rw [if_neg e];refine ⟨h.has,fun y hy hl hp=>?_,h.bnd⟩;rcases hy with hy | rfl
  ·exact h.ge y hy hl hp
  ·have:=hP _ hin.1;omega
end
theorem wkR_is {J:List Jo} {n:Nat} {P:Nat -> Int} {M:Int} (hJ:Ok n J) (hw:∀ g:Nat × Bool,g.1 < J.length -> -1000000 <= num J g /\ num J g <= 1000000) (hM:0 <= M) (hM2:M <= 100000000) (hP:∀ c,c < n -> P c = -1000000000000000000 \/ (-M <= P c /\ P c <= M)) :
  ∀ i,i <= J.length -> WrI J n P M (fun g=>g.1 < i) (wkR J P i)
 | 0,_=>⟨fun _ _ h=>absurd rfl h,fun _ h=>absurd h (Nat.not_lt_zero _),fun _ _=>.inl rfl⟩
 | i + 1,hi=>by
  have h0:=wkR_is hJ hw hM hM2 hP i (by omega);have h1:=h0.leg hJ hM hM2 hP (g:=(i,false)) (by show i < J.length;omega) (hw _ (by show i < J.length;omega));have h2:=h1.leg hJ hM hM2 hP (g:=(i,true)) (by show i < J.length;omega) (hw _ (by show i < J.length;omega));refine h2.congr fun g hg=>?_
  obtain ⟨g1,g2⟩:=g;by_cases e:g1 < i
  ·exact .inl (.inl e)
  ·have:g1 = i:=by have:g1 < i + 1:=hg;omega
   subst this;cases g2
   ·exact .inl (.inr rfl)
   ·exact .inr rfl
theorem wkT_bnd {J:List Jo} {n:Nat} (hJ:Ok n J) (hw:∀ g:Nat × Bool,g.1 < J.length -> -1000000 <= num J g /\ num J g <= 1000000):∀ k,k <= 12 -> ∀ c,c < n -> wkT J k c = -1000000000000000000 \/ (-(1000000 * (k:Int)) <= wkT J k c /\ wkT J k c <= 1000000 * (k:Int))
 | 0,_,_,_=>.inr (by unfold wkT;omega)
 | k + 1,hk,c,hc=>by
  have h:=(wkR_is hJ hw (M:=1000000 * (k:Int)) (by omega) (by omega) (wkT_bnd hJ hw k (by omega)) J.length (Nat.le_refl _)).bnd c hc;show wkR J (wkT J k) J.length c = _ \/ _ <= wkR J (wkT J k) J.length c /\ wkR J (wkT J k) J.length c <= _;have e:1000000 * ((k + 1:Nat):Int) = 1000000 * (k:Int) + 1000000:=by omega
  rw [e];exact h
theorem wkT_table {J:List Jo} {n:Nat} (hJ:Ok n J) (hw:∀ g:Nat × Bool,g.1 < J.length -> -1000000 <= num J g /\ num J g <= 1000000):∀ k,k <= 12 -> ∀ c,c < n -> Table (legs J) (fun i b=>optW (wkT J i b)) k c
 | 0,_,c,hc=>table_zero (n:=n) (fun b _=>rfl) hc
 | k + 1,hk,c,hc=>by
  have h:=wkR_is hJ hw (M:=1000000 * (k:Int)) (by omega) (by omega) (wkT_bnd hJ hw k (by omega)) J.length (Nat.le_refl _);have hb:=wkT_bnd hJ hw (k + 1) hk;refine table_step hJ.in (wkT_table hJ hw k (by omega)) (fun m hm=>?_) (fun b w y he hy=>?_)
  ·obtain ⟨h1,rfl⟩:=optW_some.1 hm;obtain ⟨g,g1,g2,g3,g4⟩:=h.has c hc h1;refine ⟨from_ J g,num J g,wkT J k (from_ J g),?_,optW_some.2 ⟨g3,rfl⟩,g4⟩;rw [<- g2];exact leg_mem g1
  ·obtain ⟨h1,rfl⟩:=optW_some.1 hy;obtain ⟨g,g1,g2,g3,g4⟩:=mem_leg he;subst g2 g3 g4;obtain ⟨h2,h3⟩:=h.ge g g1 g1 h1;exact ⟨_,optW_some.2 ⟨h2,rfl⟩,h3⟩
structure LmI (n:Nat) (W:Nat -> Nat -> Option Int) (a:Nat) (m:Int) (k:Nat) (p:Int × Int):Prop where
 n0:-24000000 <= p.1 /\ p.1 <= 24000000
 d0:0 <= p.2 /\ p.2 <= n
 none:p.2 = 0 -> ∀ k',k' < k -> W k' a = none
 low:p.2 ≠ 0 -> Sheet.low p.1 p.2 = p
 has:p.2 ≠ 0 -> ∃ k' mk,k' < k /\ W k' a = some mk /\ p.1 * ((n - k':Nat):Int) = (m - mk) * p.2
 all:∀ k' mk,k' < k -> W k' a = some mk -> p.1 * ((n - k':Nat):Int) <= (m - mk) * p.2
section
variable {n:Nat} {W:Nat -> Nat -> Option Int} {a:Nat} {m:Int} {k:Nat} {p:Int × Int}
theorem LmI.start:LmI n W a m 0 (0,0):=⟨by decide,⟨by decide,by show (0:Int) <= n;omega⟩,fun _ _ h=>absurd h (Nat.not_lt_zero _),fun h=>absurd rfl h,fun h=>absurd rfl h,fun _ _ h=>absurd h (Nat.not_lt_zero _)⟩
theorem LmI.skip (h:LmI n W a m k p) (hw:W k a = Option.none):LmI n W a m (k + 1) p:=by
 refine ⟨h.n0,h.d0,fun e k' hk=>?_,h.low,fun e=>?_,fun k' mk hk hm=>?_⟩
 ·by_cases e2:k' = k
  ·rw [e2];exact hw
  ·exact h.none e k' (by omega)
 ·obtain ⟨k',mk,h1,h2⟩:=h.has e;exact ⟨k',mk,by omega,h2⟩
 ·by_cases e2:k' = k
  ·rw [e2,hw] at hm;cases hm
  ·exact h.all k' mk (by omega) hm
theorem LmI.keep (h:LmI n W a m k p) {mk:Int} (hw:W k a = some mk) (hk:k < n) (hp:p.2 ≠ 0) (hle:¬ (Sheet.low (m - mk) ((n - k:Nat):Int)).1 * p.2 < p.1 * (Sheet.low (m - mk) ((n - k:Nat):Int)).2):LmI n W a m (k + 1) p:=by
 obtain ⟨g,g0,e1,e2,d0,-⟩:=low_facts (m - mk) ((n - k:Nat):Int) (by omega);generalize Sheet.low (m - mk) ((n - k:Nat):Int) = r at *;refine ⟨h.n0,h.d0,fun e=>absurd e hp,h.low,fun e=>?_,fun k' mk' hk' hm=>?_⟩
 ·obtain ⟨k',mk,h1,h2⟩:=h.has e;exact ⟨k',mk,by omega,h2⟩
 ·by_cases e:k' = k
  ·subst e;rw [hw] at hm;cases hm;refine fr_trans (c:=r.1) (d:=r.2) (by omega) ?_ d0 h.d0.1 (by omega);rw [e1,e2];rw [Int.mul_comm r.2 g,<- Int.mul_assoc];exact Int.le_refl _
  ·exact h.all k' mk' (by omega) hm
theorem LmI.take (h:LmI n W a m k p) {mk:Int} (hw:W k a = some mk) (hk:k < n) (hb:-24000000 <= m - mk /\ m - mk <= 24000000) (hlt:p.2 = 0 \/ (Sheet.low (m - mk) ((n - k:Nat):Int)).1 * p.2 < p.1 * (Sheet.low (m - mk) ((n - k:Nat):Int)).2):LmI n W a m (k + 1) (Sheet.low (m - mk) ((n - k:Nat):Int)):=by
 obtain ⟨g,g0,e1,e2,d0,hg⟩:=low_facts (m - mk) ((n - k:Nat):Int) (by omega);have hll:=Go.Proofs.low_low (m - mk) ((n - k:Nat):Int) (by omega);generalize Sheet.low (m - mk) ((n - k:Nat):Int) = r at *
 have hd:r.2 <= ((n - k:Nat):Int):=by
  rw [e2];have:=Int.mul_le_mul_of_nonneg_left (show (1:Int) <= g by omega) (Int.le_of_lt d0);omega
 have hn:-24000000 <= r.1 /\ r.1 <= 24000000:=by
  by_cases e:0 <= r.1
  ·have:=Int.mul_le_mul_of_nonneg_left (show (1:Int) <= g by omega) e;omega
  ·have:=Int.mul_le_mul_of_nonneg_left (show (1:Int) <= g by omega) (show 0 <= -r.1 by omega);rw [Int.neg_mul,Int.neg_mul] at this;omega
 have heq:r.1 * ((n - k:Nat):Int) = (m - mk) * r.2:=by
  rw [e1,e2,Int.mul_comm r.2 g,<- Int.mul_assoc]
 refine ⟨hn,⟨by omega,by omega⟩,fun e=>by omega,fun _=>hll,fun _=>⟨k,mk,by omega,hw,heq⟩,fun k' mk' hk' hm=>?_⟩;by_cases e:k' = k
 ·subst e;rw [hw] at hm;cases hm;omega
 ·by_cases hp:p.2 = 0
  ·have:=h.none hp k' (by omega);rw [this] at hm;cases hm
  ·have h1:=h.all k' mk' (by omega) hm;have:=h.d0.1;exact fr_trans (c:=p.1) (d:=p.2) (by omega) h1 (by omega) (by omega) (by omega)
theorem LmI.shows (h:LmI n W a m n p) (hn:0 < n) (h0:W 0 a = some 0):0 < p.2 /\ Shows n W a m p.1 p.2:=by
 have hp:p.2 ≠ 0:=fun e=>by
  have:=h.none e 0 hn;rw [h0] at this;cases this
 have:=h.d0.1;refine ⟨by omega,⟨by omega,?_,h.all⟩⟩;obtain ⟨k',mk,h1,h2,h3⟩:=h.has hp;exact ⟨k',mk,h1,h2,h3⟩
end
structure BmI (n:Nat) (W:Nat -> Nat -> Option Int) (a:Nat) (p:Int × Int):Prop where
 n0:0 <= p.1 /\ p.1 <= 24000000
 d0:0 < p.2 /\ p.2 <= n
 low:Sheet.low p.1 p.2 = p
 has:p.1 = 0 \/ ∃ a m,a < n /\ W n a = some m /\ Shows n W a m p.1 p.2
 all:∀ a' m,a' < a -> W n a' = some m -> ∃ x y,Shows n W a' m x y /\ x * p.2 <= p.1 * y
section
variable {n:Nat} {W:Nat -> Nat -> Option Int} {a:Nat} {p:Int × Int}
theorem BmI.start (hn:0 < n):BmI n W 0 (0,1):=⟨by decide,⟨by decide,by show (1:Int) <= n;omega⟩,by decide,.inl rfl,fun _ _ h=>absurd h (Nat.not_lt_zero _)⟩
theorem BmI.skip (h:BmI n W a p) (hw:W n a = none):BmI n W (a + 1) p :=
 ⟨h.n0,h.d0,h.low,h.has,fun a' m ha hm=>by
  by_cases e:a' = a
  ·rw [e,hw] at hm;cases hm
  ·exact h.all a' m (by omega) hm⟩
theorem BmI.keep (h:BmI n W a p) (hn:0 < n) (h0:W 0 a = some 0) {m:Int} {q:Int × Int} (hw:W n a = some m) (hq:LmI n W a m n q) (hle:¬ p.1 * q.2 < q.1 * p.2):BmI n W (a + 1) p :=
 ⟨h.n0,h.d0,h.low,h.has,fun a' m' ha hm=>by
  by_cases e:a' = a
  ·subst e;rw [hw] at hm;cases hm;exact ⟨q.1,q.2,(hq.shows hn h0).2,by omega⟩
  ·exact h.all a' m' (by omega) hm⟩
theorem BmI.take (h:BmI n W a p) (hn:0 < n) (ha:a < n) (h0:W 0 a = some 0) {m:Int} {q:Int × Int} (hw:W n a = some m) (hq:LmI n W a m n q) (hlt:p.1 * q.2 < q.1 * p.2):BmI n W (a + 1) q:=by
 obtain ⟨h1,h2⟩:=hq.shows hn h0
 have hq0:0 <= q.1:=by
  have:=Int.mul_nonneg h.n0.1 (Int.le_of_lt h1);by_cases e:0 <= q.1
  ·exact e
  ·have:=Int.mul_nonneg (show 0 <= -q.1 by omega) (Int.le_of_lt h.d0.1);rw [Int.neg_mul] at this;omega
 refine ⟨⟨hq0,hq.n0.2⟩,⟨h1,hq.d0.2⟩,hq.low (by omega),.inr ⟨a,m,ha,hw,h2⟩,fun a' m' ha' hm=>?_⟩;by_cases e:a' = a
 ·subst e;rw [hw] at hm;cases hm;exact ⟨q.1,q.2,h2,Int.le_refl _⟩
 ·obtain ⟨x,y,h3,h4⟩:=h.all a' m' (by omega) hm;have:=h.d0.1;have:=h3.y0;exact ⟨x,y,h3,fr_trans h4 (by omega) h.d0.1 (by omega) (by omega)⟩
end
theorem Least.of_eq {E:List Edge} {p q N D:Int} (h:Least E p q) (hD:0 < D) (hN:0 <= N) (he:N * q = p * D):Least E N D:=by
 have hq:=h.q0;refine ⟨hD,hN,fun a k s hw hk=>?_,?_⟩
 ·have h1:=h.most a k s hw hk
  have:(D * s) * q <= (N * k) * q:=by
   have e1:(D * s) * q = D * (q * s):=by rw [Int.mul_assoc,Int.mul_comm s q]
   have e2:(N * k) * q = D * (p * k):=by rw [Int.mul_assoc,Int.mul_comm (k:Int) q,<- Int.mul_assoc,he,Int.mul_comm p D,Int.mul_assoc]
   rw [e1,e2];exact Int.mul_le_mul_of_nonneg_left h1 (Int.le_of_lt hD)
  exact Int.le_of_mul_le_mul_right this hq
 ·rcases h.has with rfl | ⟨c,j,s,hw,hj,hs⟩
  ·left;rw [Int.zero_mul] at he;rcases Int.mul_eq_zero.1 he with e | e
   ·exact e
   ·omega
  ·right;refine ⟨c,j,s,hw,hj,?_⟩
   have:(D * s) * q = (N * j) * q:=by
    have e1:(D * s) * q = D * (q * s):=by rw [Int.mul_assoc,Int.mul_comm s q]
    have e2:(N * j) * q = D * (p * j):=by rw [Int.mul_assoc,Int.mul_comm (j:Int) q,<- Int.mul_assoc,he,Int.mul_comm p D,Int.mul_assoc]
    rw [e1,e2,hs]
   exact Int.eq_of_mul_eq_mul_right (by omega) this
theorem BmI.least {J:List Jo} {n:Nat} (hJ:Ok n J) (hw:∀ g:Nat × Bool,g.1 < J.length -> -1000000 <= num J g /\ num J g <= 1000000) (hn:0 < n) (hn2:n <= 12) {p:Int × Int} (h:BmI n (fun i b=>optW (wkT J i b)) n p):Least (legs J) p.1 p.2 /\ p.1 <= 12000000 /\ p.2 <= 12:=by
 obtain ⟨x,y,hl⟩:=least_ex hJ.in;have hk:=karp hJ.in hn (W:=fun i b=>optW (wkT J i b)) (fun k b hk hb=>wkT_table hJ hw k (by omega) b hb) hl h.d0.1 h.n0.1 h.has h.all;have hle:=hl.of_eq h.d0.1 h.n0.1 hk;have hd:=h.d0;refine ⟨hle,?_,by omega⟩;rcases hle.has with e | ⟨c,j,s,h1,h2,h3⟩
 ·omega
 ·have h4:=h1.bound (p:=0) (q:=1) (M:=1000000) fun a b w he=>by
   obtain ⟨g,g1,-,-,g4⟩:=mem_leg he;have:=hw g g1;omega
  have h5:p.2 * s <= p.2 * (1000000 * (j:Int)):=Int.mul_le_mul_of_nonneg_left (by omega) (Int.le_of_lt hd.1)
  have h6:p.1 * (j:Int) <= (p.2 * 1000000) * j:=by
   rw [Int.mul_assoc];omega
  have h7:=Int.le_of_mul_le_mul_right h6 (show (0:Int) < j by omega);omega
end Sheet
end
