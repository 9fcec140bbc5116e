/- Own texts, merged: Sk Sq0. -/
import Derived.Test.YthegmhnaiabcpaaGreatF07
set_option linter.unusedSimpArgs false
set_option linter.unusedVariables false
set_option linter.unnecessarySimpa false
section
/- Walks: follow,back. -/
namespace Go.Proofs
open Go.RowKit
attribute [local go_sem] Oper.semAt_some
structure FolI (w0 w:World) (d s:Nat) (S:SetL) (A:Option Addr) (c9:Nat) (sa:Nat) (ap:Nat -> Int) (bf:Nat -> Nat × Bool) (m:List Nat) (vm vo:Value) (W:World):Prop where
 fr:Fr w (s + 1 + 1 + 1 + 1 + 1) [(s,91,#[.pointer (some ⟨d,0,none⟩)]),(s + 1,3,#[.int .i64 (sa:Nat)]),(s + 1 + 1,58,#[vm]),(s + 1 + 1 + 1,25,#[vo]),(s + 1 + 1 + 1 + 1,190,#[.func (.func 120) #[] #[.pointer (some ⟨s + 1 + 1,0,none⟩),.pointer (some ⟨s + 1 + 1 + 1,0,none⟩),.pointer (some ⟨s + 1,0,none⟩),.pointer (some ⟨s,0,none⟩),.pointer (some ⟨s + 1 + 1 + 1 + 1,0,none⟩)]])] W
 wk:WorkAt w0 W d S A c9 ap bf
 om:W.ownsRow (s + 1 + 1 + 1 + 1 + 1) 3 1 vm (m.map Int.ofNat).length ((m.map Int.ofNat).map (Value.int .i64))
 oo:W.ownsRow (s + 1 + 1 + 1 + 1 + 1) 34 2 vo ((m.map (byOf bf sa)).map legI).length (((m.map (byOf bf sa)).map legI).flatMap encG)
theorem FolI.later {w0 w W W':World} {d s:Nat} {S:SetL} {A:Option Addr} {c9:Nat} {sa:Nat} {ap:Nat -> Int} {bf:Nat -> Nat × Bool} {m:List Nat} {vm vo:Value} (h:FolI w0 w d s S A c9 sa ap bf m vm vo W) (ha:Aft W W'):FolI w0 w d s S A c9 sa ap bf m vm vo W' :=
 ⟨h.fr.later ha,h.wk.later ha,own_aft h.om ha,own_aft h.oo ha⟩
theorem fromN {S:SetL} (hS:SetOk S) {north:Bool} {g:Nat × Bool} (hg:g.1 < S.J.length):fromI S.J[g.1] g.2 = (Sheet.from_ (joOf north S.J) g:Nat):=by
 have:=(from_of (north:=north) hS hg).1;rw [this];unfold fromQ;rw [List.getElem?_eq_getElem hg]
theorem FolR.val {w:World} {J:List Sheet.Jo} {D N:Int} {a n:Nat} {row:Nat -> Int} {by_:Nat -> Nat × Bool} {at_:Nat} {e:Ending} {w':World} (h:FolR w J D N a n row by_ at_ e w'):∃ v,e = .returned v:=by
 rcases h.2 with ⟨rfl,_⟩ | ⟨g,c,l,rfl,_⟩
 ·exact ⟨_,rfl⟩
 ·exact ⟨_,rfl⟩
theorem own_apart {w w':World} {base base':Nat} {t t':TypeId} {size size':Nat} {v v':Value} {n n':Nat} {xs xs':List Value} (h:w.ownsRow base t size v n xs) (h':w.ownsRow base' t' size' v' n' xs') (hne:t ≠ t') (hg:w.grownBy w' v'.ownBlock):w'.ownsRow base t size v n xs:=by
 cases e:v'.ownBlock with
 | none=>rw [e] at hg;exact h.kept hg (by cases v.ownBlock <;> simp)
 | some g =>
  rw [e] at hg;obtain ⟨cs,hc⟩:=own_block h' e;exact own_other h hg hc hne
theorem src_blk {w:World} {b:Nat} {t:TypeId} {cs:Array Value} (h:Blk w b t cs):∀ j u,cs.toList[j]? = some u -> w.cell? ⟨b,j,none⟩ = some u:=fun j u hj=>(h.cell j).trans (by simpa using hj)
theorem rows_drop {α:Type} {w:World} {A:Option Addr} {sz:Nat} {R:World -> α -> List Value -> Prop} {l:List α} (h:RowsP w A sz R l) {k:Nat} (hk:k < l.length):RowsP w (A.map fun x=>x.add (k * sz)) sz R (l.drop k):=by
 have h1:=h.1;obtain ⟨b,o,rfl,hb,hc⟩:=h.at hk;refine ⟨Nat.le_trans (Nat.mul_le_mul_right _ (by simp)) h1,.inr ⟨b,o + k * sz,by rw [Option.map_some,Addr.add_lit],hb,fun i hi=>?_⟩⟩;have hi':k + i < l.length:=by simp at hi;omega
 obtain ⟨vs,h2,h3,h4⟩:=hc (k + i) hi';refine ⟨vs,h2,by rw [List.getElem_drop];exact h3,fun j hj=>?_⟩;rw [<- h4 j hj]
 congr 2
 rw [Nat.add_mul];omega
set_option maxRecDepth 100000 in
set_option maxHeartbeats 4000000 in
theorem follow_hit {north:Bool} (S:SetL) (A:Option Addr) (c9 d:Nat) (ap:Nat -> Int) (bf:Nat -> Nat × Bool) (w0 w:World) (hS:SetOk S) (sa:Nat) (ha:sa < S.n.toNat) (N D:Int) (s:Nat) (hs:w.heap.size = s) (hds:d < s)
  (hr:Sheet.RowI (joOf north S.J) D N sa (rowOf S.n.toNat ap sa) (byOf bf sa)) (at_:Nat) (m:List Nat) (c:Nat) (vm vo:Value) (W:World) (hI:FolI w0 w d s S A c9 sa ap bf m vm vo W) (hF:Fol (joOf north S.J) sa S.n.toNat (rowOf S.n.toNat ap sa) (byOf bf sa) at_ m c) (hmem:c ∈ m) :
  Calls Tryz.prog 120 #[.int .i64 (c:Nat),.pointer (some ⟨s + 1 + 1,0,none⟩),.pointer (some ⟨s + 1 + 1 + 1,0,none⟩),.pointer (some ⟨s + 1,0,none⟩),.pointer (some ⟨s,0,none⟩),.pointer (some ⟨s + 1 + 1 + 1 + 1,0,none⟩)] W (FolR w (joOf north S.J) D N sa S.n.toNat (rowOf S.n.toNat ap sa) (byOf bf sa) at_):=by
 have hn1:=hS.n1;have hn2:=hS.n2;have hml:=nodup_le hF.nodup hF.low;have hmi:(m.map Int.ofNat).length = m.length:=by simp
 have hgi:((m.map (byOf bf sa)).map legI).length = m.length:=by simp
 obtain ⟨Am,cm,rfl,hcm,him⟩:=own_ints hI.om (by omega);obtain ⟨Ao,co,rfl,hco,hio,hbo⟩:=own_flat (enc:=encG) (fun _=>rfl) hI.oo (by omega);rw [hmi,hgi] at hI;rw [hmi] at hcm;rw [hgi] at hco;have HIX:=Lib.hid (index_full Am (m.map Int.ofNat) cm (c:Nat) W him);rw [hmi] at HIX;have HI:=Lib.hid hI;have HF:=Lib.hid hF;have k0:W.cell? ⟨s + 1 + 1,0,none⟩ = some (.slice Am m.length cm):=(hI.fr.nth 2 rfl).cell 0;have l0:=(hI.fr.nth 2 rfl).lt;have k1:W.cell? ⟨s + 1 + 1 + 1,0,none⟩ = some (.slice Ao m.length co):=(hI.fr.nth 3 rfl).cell 0;have l1:=(hI.fr.nth 3 rfl).lt;have HS:=Lib.hid hS;have HR:=Lib.hid hr;clear hI hF him hS hr;obtain ⟨k,hk,hck⟩:=List.getElem_of_mem hmem;have HCL:=Lib.hid (HF.out.clash HR.out hk hck);have HIX2:Hid (Calls Tryz.prog 121 #[.slice Am m.length cm,.int .i64 (c:Nat)] W fun e w'=>e = .returned (.int .i64 (k:Nat)) /\ W = w'):=Lib.hid (HIX.out.mono fun e w' ⟨hi,hw⟩=>⟨by
  rcases hi with ⟨rfl,h⟩ | ⟨j,hj,rfl,h1,-⟩
  ·exfalso;rw [Bool.eq_false_iff] at h;exact h (List.any_eq_true.2 ⟨(c:Int),List.mem_map.2 ⟨c,hmem,rfl⟩,by simp⟩)
  ·have hj':j < m.length:=by simpa using hj
   have h2:m[j] = c:=by
    have h3:(m.map Int.ofNat)[j] = (c:Int):=by simpa using h1
    simp at h3;omega
   have:j = k:=by
    refine Classical.byContradiction fun hne=>?_
    have hnd:=List.pairwise_iff_getElem.1 HF.out.nodup;rcases Nat.lt_or_gt_of_ne hne with h | h
    ·exact hnd j k hj' hk h (h2.trans hck.symm)
    ·exact hnd k j hk hj' h (hck.trans h2.symm)
   rw [this],hw⟩)
 obtain ⟨ld,hld⟩:∃ ld,((m.map (byOf bf sa)).map legI).drop k = ld:=⟨_,rfl⟩;have hll:ld.length = m.length - k:=by rw [<- hld,List.length_drop,hgi]
 have hlr:ld.reverse = (((m.drop k).map (byOf bf sa)).reverse).map legI:=by rw [<- hld,<- List.map_drop,<- List.map_drop,List.map_reverse]
 have HLR:=Lib.hid hlr;have hcl:=cloneLeg (Ao.map fun x=>x.add (k * 2)) ld (co - k) W (by rw [<- hld];exact rows_drop hio (by rw [hgi];exact hk));rw [hll] at hcl;have HCN:=Lib.hid hcl;have hlsz:ld.length <= 17592186043904:=by omega
 have HLL:=Lib.hid hll;clear hll;have hsz:=HI.out.fr.ge;clear HIX hio hcl hlr hld hmi hgi hmem hck;go_enter Tryz.func120,Tryz.ntmps120;go_upto_region 3 with (go_at_call 121;refine HIX2.out.mono ?_;rintro e w' ⟨rfl,rfl⟩)
 go_upto_region 4 with (go_at_call 122;refine HCN.out.mono ?_;rintro e w2 ⟨v2,rfl,hown,haft⟩)
 rcases own_recs (e1:=fun x:Int × Bool=>.int .i64 x.1) (e2:=fun x:Int × Bool=>.bool x.2) hown with ⟨-,h0⟩ | ⟨g2,c2,cs2,rfl,hg2,-,-,-,-,-⟩
 ·exfalso;have hll:=HLL.out;rw [h0] at hll;simp at hll;omega
 have HRV:=Lib.hid (reverseLeg hown hlsz);have HA2:=Lib.hid haft;clear hown haft;go_wp2_with (go_at_call 123;refine HRV.out.mono ?_;rintro e w3 ⟨rfl,hg3,ho3⟩;have HG3:=Lib.hid hg3;have HO3:=Lib.hid ho3;clear hg3 ho3)
 go_ret;have hge:=HI.out.fr.aft.size;have hA3:=(HI.out.fr.aft.trans HA2.out).grown HG3.out (fun r e=>by have e:g2 = r:=Option.some.inj e;omega);refine ⟨hA3,.inr ⟨g2,c2,((m.drop k).map (byOf bf sa)).reverse,?_,?_,HCL.out⟩⟩
 ·have:ld.length = (((m.drop k).map (byOf bf sa)).reverse).length:=by simp [HLL.out]
  rw [<- this];rfl
 ·have h5:=World.ownsRow.mono HO3.out hge;have:ld.length = (((m.drop k).map (byOf bf sa)).reverse).length:=by simp [HLL.out]
  rw [<- this,<- HLR.out];exact h5
set_option maxRecDepth 100000 in
set_option maxHeartbeats 4000000 in
theorem follow_miss {north:Bool} (S:SetL) (A:Option Addr) (c9 d:Nat) (ap:Nat -> Int) (bf:Nat -> Nat × Bool) (w0 w:World) (hS:SetOk S) (sa:Nat) (ha:sa < S.n.toNat) (N D:Int) (s:Nat) (hs:w.heap.size = s) (hds:d < s)
  (hr:Sheet.RowI (joOf north S.J) D N sa (rowOf S.n.toNat ap sa) (byOf bf sa)) (at_:Nat) (m:List Nat) (c:Nat) (vm vo:Value) (W:World) (hI:FolI w0 w d s S A c9 sa ap bf m vm vo W) (hF:Fol (joOf north S.J) sa S.n.toNat (rowOf S.n.toNat ap sa) (byOf bf sa) at_ m c) (hmem:¬ c ∈ m)
  (ih:∀ (vm vo:Value) (W:World),FolI w0 w d s S A c9 sa ap bf (m ++ [c]) vm vo W -> Fol (joOf north S.J) sa S.n.toNat (rowOf S.n.toNat ap sa) (byOf bf sa) at_ (m ++ [c]) (Sheet.from_ (joOf north S.J) (byOf bf sa c)) ->
   Calls Tryz.prog 120 #[.int .i64 (Sheet.from_ (joOf north S.J) (byOf bf sa c):Nat),.pointer (some ⟨s + 1 + 1,0,none⟩),.pointer (some ⟨s + 1 + 1 + 1,0,none⟩),.pointer (some ⟨s + 1,0,none⟩),.pointer (some ⟨s,0,none⟩),.pointer (some ⟨s + 1 + 1 + 1 + 1,0,none⟩)] W (FolR w (joOf north S.J) D N sa S.n.toNat (rowOf S.n.toNat ap sa) (byOf bf sa) at_)) :
  Calls Tryz.prog 120 #[.int .i64 (c:Nat),.pointer (some ⟨s + 1 + 1,0,none⟩),.pointer (some ⟨s + 1 + 1 + 1,0,none⟩),.pointer (some ⟨s + 1,0,none⟩),.pointer (some ⟨s,0,none⟩),.pointer (some ⟨s + 1 + 1 + 1 + 1,0,none⟩)] W (FolR w (joOf north S.J) D N sa S.n.toNat (rowOf S.n.toNat ap sa) (byOf bf sa) at_):=by
 have hn1:=hS.n1;have hn2:=hS.n2;have hml:=nodup_le hF.nodup hF.low;have hmi:(m.map Int.ofNat).length = m.length:=by simp
 have hgi:((m.map (byOf bf sa)).map legI).length = m.length:=by simp
 obtain ⟨Am,cm,rfl,hcm,him⟩:=own_ints hI.om (by omega);obtain ⟨Ao,co,rfl,hco,hio,hbo⟩:=own_flat (enc:=encG) (fun _=>rfl) hI.oo (by omega);rw [hmi,hgi] at hI;rw [hmi] at hcm;rw [hgi] at hco;have HIX:=Lib.hid (index_full Am (m.map Int.ofNat) cm (c:Nat) W him);rw [hmi] at HIX;have HI:=Lib.hid hI;have HF:=Lib.hid hF;have k0:W.cell? ⟨s + 1 + 1,0,none⟩ = some (.slice Am m.length cm):=(hI.fr.nth 2 rfl).cell 0;have l0:=(hI.fr.nth 2 rfl).lt;have k1:W.cell? ⟨s + 1 + 1 + 1,0,none⟩ = some (.slice Ao m.length co):=(hI.fr.nth 3 rfl).cell 0;have l1:=(hI.fr.nth 3 rfl).lt;have HS:=Lib.hid hS;have HR:=Lib.hid hr;have k2:W.cell? ⟨s + 1,0,none⟩ = some (.int .i64 (sa:Nat)):=(hI.fr.nth 1 rfl).cell 0;have l2:=(hI.fr.nth 1 rfl).lt;have k3:W.cell? ⟨s,0,none⟩ = some (.pointer (some ⟨d,0,none⟩)):=(hI.fr.nth 0 rfl).cell 0;have l3:=(hI.fr.nth 0 rfl).lt;have hsaS:(0:Int) <= (sa:Int) /\ (sa:Int) < 12:=by omega
 have k4:=kap2 hI.wk (n:=S.n.toNat) (by omega) ha ha;have l4:=hI.wk.lt;have HH:=Lib.hid ih;clear hI hF him hS hr ih;have HIX2:Hid (Calls Tryz.prog 121 #[.slice Am m.length cm,.int .i64 (c:Nat)] W fun e w'=>e = .returned (.int .i64 (-1)) /\ W = w'):=Lib.hid (HIX.out.mono fun e w' ⟨hi,hw⟩=>⟨by
  rcases hi with ⟨rfl,h⟩ | ⟨j,hj,rfl,h1,-⟩
  ·rfl
  ·exfalso;have hj':j < m.length:=by simpa using hj
   have h2:m[j] = c:=by
    have h3:(m.map Int.ofNat)[j] = (c:Int):=by simpa using h1
    simp at h3;omega
   exact hmem (h2 ▸ List.getElem_mem hj'),hw⟩)
 clear HIX;have HNM:=Lib.hid hmem;clear hmem;go_enter Tryz.func120,Tryz.ntmps120;go_upto_region 6 with (go_at_call 121;refine HIX2.out.mono ?_;rintro e w' ⟨rfl,rfl⟩)
 by_cases hca:c = sa
 ·subst hca;obtain ⟨r0,hr0⟩:∃ r0,rowOf S.n.toNat ap c c = r0:=⟨_,rfl⟩;rw [hr0] at k4;by_cases h00:r0 = 0
  ·have HNP:=Lib.hid (HF.out.nilP HNM.out (by unfold Sheet.touched;rw [if_pos rfl,hr0,h00];rfl));subst h00;refine wp_region_valsT (by kernel_rfl) 13 64 rfl (by kernel_rfl) (by kernel_rfl) (by kernel_rfl) [.int .i64 (c:Nat),.int .i64 (c:Nat),.bool true,.bool true,.pointer (some ⟨d,0,none⟩),.int .i64 (c:Nat),.int .i64 (c:Nat),.pointer (some ⟨d,0,none⟩),.pointer (some ⟨d,2,none⟩),.pointer (some ⟨d,2 + c * 12,none⟩),.pointer (some ⟨d,2 + c * 12 + c,none⟩),.int .i64 0,.bool true] rfl (fun _ W'=>W' = W.drew) (rfl) ?st1 ?fi1
   case st1 =>
    intro i o v ho hv
    match i,ho,hv with
    | 0,ho,hv =>
     cases ho;cases hv;refine .inl ⟨rfl,fun done a W hd hp hk hw K hK=>?_⟩;have e0:=hk.same 0 (by decide);exact op_val (by simp [go_sem,ev' e0]) (hK _ hw)
    | 1,ho,hv =>
     cases ho;cases hv;refine .inl ⟨rfl,fun done a W hd hp hk hw K hK=>?_⟩;have e3:=hk.same 3 (by decide);exact op_val (by simp [go_sem,ev' e3,hw,k2]) (hK _ hw)
    | 2,ho,hv =>
     cases ho;cases hv;refine .inl ⟨rfl,fun done a W hd hp hk hw K hK=>?_⟩;have e25:=hk.at_ 0 _ 25 _ rfl (by decide) _ rfl rfl rfl;have e26:=hk.at_ 1 _ 26 _ rfl (by decide) _ rfl rfl rfl;exact op_val (by simp [go_sem,ev' e25,ev' e26]) (hK _ hw)
    | 3,ho,hv =>
     cases ho;cases hv;refine .inl ⟨rfl,fun done a W hd hp hk hw K hK=>?_⟩;have e27:=hk.at_ 2 _ 27 _ rfl (by decide) _ rfl rfl rfl;exact op_val (by simp [go_sem,ev' e27]) (hK _ hw)
    | 4,ho,hv =>
     cases ho;cases hv;refine .inl ⟨rfl,fun done a W hd hp hk hw K hK=>?_⟩;have e4:=hk.same 4 (by decide);exact op_val (by simp [go_sem,ev' e4,hw,k3]) (hK _ hw)
    | 5,ho,hv =>
     cases ho;cases hv;refine .inl ⟨rfl,fun done a W hd hp hk hw K hK=>?_⟩;have e3:=hk.same 3 (by decide);exact op_val (by simp [go_sem,ev' e3,hw,k2]) (hK _ hw)
    | 6,ho,hv =>
     cases ho;cases hv;refine .inl ⟨rfl,fun done a W hd hp hk hw K hK=>?_⟩;have e3:=hk.same 3 (by decide);exact op_val (by simp [go_sem,ev' e3,hw,k2]) (hK _ hw)
    | 7,ho,hv =>
     cases ho;cases hv;refine .inl ⟨rfl,fun done a W hd hp hk hw K hK=>?_⟩;have e29:=hk.at_ 4 _ 29 _ rfl (by decide) _ rfl rfl rfl;exact op_val (by simp [go_sem,ev' e29]) (hK _ hw)
    | 8,ho,hv =>
     cases ho;cases hv;refine .inl ⟨rfl,fun done a W hd hp hk hw K hK=>?_⟩;have e32:=hk.at_ 7 _ 32 _ rfl (by decide) _ rfl rfl rfl;exact op_val (by simp [go_sem,ev' e32]) (hK _ hw)
    | 9,ho,hv =>
     cases ho;cases hv;refine .inl ⟨rfl,fun done a W hd hp hk hw K hK=>?_⟩;have e30:=hk.at_ 5 _ 30 _ rfl (by decide) _ rfl rfl rfl;have e33:=hk.at_ 8 _ 33 _ rfl (by decide) _ rfl rfl rfl;exact op_val (by simp [go_sem,ev' e30,ev' e33,hsaS]) (hK _ hw)
    | 10,ho,hv =>
     cases ho;cases hv;refine .inl ⟨rfl,fun done a W hd hp hk hw K hK=>?_⟩;have e31:=hk.at_ 6 _ 31 _ rfl (by decide) _ rfl rfl rfl;have e34:=hk.at_ 9 _ 34 _ rfl (by decide) _ rfl rfl rfl;exact op_val (by simp [go_sem,ev' e31,ev' e34,hsaS]) (hK _ hw)
    | 11,ho,hv =>
     cases ho;cases hv;refine .inl ⟨rfl,fun done a W hd hp hk hw K hK=>?_⟩;have e35:=hk.at_ 10 _ 35 _ rfl (by decide) _ rfl rfl rfl;exact op_val (by simp [go_sem,ev' e35,hw,k4]) (hK _ hw)
    | 12,ho,hv =>
     cases ho;cases hv;refine .inl ⟨rfl,fun done a W hd hp hk hw K hK=>?_⟩;have e36:=hk.at_ 11 _ 36 _ rfl (by decide) _ rfl rfl rfl;exact op_val (by simp [go_sem,ev' e36]) (hK _ hw)
    | _ + 13,_,hv=>cases hv
   intro done W hd hw;simp only [List.drop_succ_cons,List.drop_zero,List.zip_cons_cons,List.zip_nil_right,putAll];simp only [Act.put,List.setIfInBounds_toArray,List.set];clear hd;subst hw;go_wp2_with fail
   go_ret;exact ⟨HI.out.fr.aft.then_drew,.inl ⟨rfl,HNP.out⟩⟩
  ·have HT:Hid (Sheet.touched c (rowOf S.n.toNat ap c) c = true):=Lib.hid (by unfold Sheet.touched;rw [if_pos rfl,hr0];simpa using h00);have t0:(r0 == 0) = false:=by simpa using h00
   clear h00;refine wp_region_valsT (by kernel_rfl) 13 64 rfl (by kernel_rfl) (by kernel_rfl) (by kernel_rfl) [.int .i64 (c:Nat),.int .i64 (c:Nat),.bool true,.bool true,.pointer (some ⟨d,0,none⟩),.int .i64 (c:Nat),.int .i64 (c:Nat),.pointer (some ⟨d,0,none⟩),.pointer (some ⟨d,2,none⟩),.pointer (some ⟨d,2 + c * 12,none⟩),.pointer (some ⟨d,2 + c * 12 + c,none⟩),.int .i64 r0,.bool false] rfl (fun _ W'=>W' = W.drew) (rfl) ?st2 ?fi2
   case st2 =>
    intro i o v ho hv
    match i,ho,hv with
    | 0,ho,hv =>
     cases ho;cases hv;refine .inl ⟨rfl,fun done a W hd hp hk hw K hK=>?_⟩;have e0:=hk.same 0 (by decide);exact op_val (by simp [go_sem,ev' e0]) (hK _ hw)
    | 1,ho,hv =>
     cases ho;cases hv;refine .inl ⟨rfl,fun done a W hd hp hk hw K hK=>?_⟩;have e3:=hk.same 3 (by decide);exact op_val (by simp [go_sem,ev' e3,hw,k2]) (hK _ hw)
    | 2,ho,hv =>
     cases ho;cases hv;refine .inl ⟨rfl,fun done a W hd hp hk hw K hK=>?_⟩;have e25:=hk.at_ 0 _ 25 _ rfl (by decide) _ rfl rfl rfl;have e26:=hk.at_ 1 _ 26 _ rfl (by decide) _ rfl rfl rfl;exact op_val (by simp [go_sem,ev' e25,ev' e26]) (hK _ hw)
    | 3,ho,hv =>
     cases ho;cases hv;refine .inl ⟨rfl,fun done a W hd hp hk hw K hK=>?_⟩;have e27:=hk.at_ 2 _ 27 _ rfl (by decide) _ rfl rfl rfl;exact op_val (by simp [go_sem,ev' e27]) (hK _ hw)
    | 4,ho,hv =>
     cases ho;cases hv;refine .inl ⟨rfl,fun done a W hd hp hk hw K hK=>?_⟩;have e4:=hk.same 4 (by decide);exact op_val (by simp [go_sem,ev' e4,hw,k3]) (hK _ hw)
    | 5,ho,hv =>
     cases ho;cases hv;refine .inl ⟨rfl,fun done a W hd hp hk hw K hK=>?_⟩;have e3:=hk.same 3 (by decide);exact op_val (by simp [go_sem,ev' e3,hw,k2]) (hK _ hw)
    | 6,ho,hv =>
     cases ho;cases hv;refine .inl ⟨rfl,fun done a W hd hp hk hw K hK=>?_⟩;have e3:=hk.same 3 (by decide);exact op_val (by simp [go_sem,ev' e3,hw,k2]) (hK _ hw)
    | 7,ho,hv =>
     cases ho;cases hv;refine .inl ⟨rfl,fun done a W hd hp hk hw K hK=>?_⟩;have e29:=hk.at_ 4 _ 29 _ rfl (by decide) _ rfl rfl rfl;exact op_val (by simp [go_sem,ev' e29]) (hK _ hw)
    | 8,ho,hv =>
     cases ho;cases hv;refine .inl ⟨rfl,fun done a W hd hp hk hw K hK=>?_⟩;have e32:=hk.at_ 7 _ 32 _ rfl (by decide) _ rfl rfl rfl;exact op_val (by simp [go_sem,ev' e32]) (hK _ hw)
    | 9,ho,hv =>
     cases ho;cases hv;refine .inl ⟨rfl,fun done a W hd hp hk hw K hK=>?_⟩;have e30:=hk.at_ 5 _ 30 _ rfl (by decide) _ rfl rfl rfl;have e33:=hk.at_ 8 _ 33 _ rfl (by decide) _ rfl rfl rfl;exact op_val (by simp [go_sem,ev' e30,ev' e33,hsaS]) (hK _ hw)
    | 10,ho,hv =>
     cases ho;cases hv;refine .inl ⟨rfl,fun done a W hd hp hk hw K hK=>?_⟩;have e31:=hk.at_ 6 _ 31 _ rfl (by decide) _ rfl rfl rfl;have e34:=hk.at_ 9 _ 34 _ rfl (by decide) _ rfl rfl rfl;exact op_val (by simp [go_sem,ev' e31,ev' e34,hsaS]) (hK _ hw)
    | 11,ho,hv =>
     cases ho;cases hv;refine .inl ⟨rfl,fun done a W hd hp hk hw K hK=>?_⟩;have e35:=hk.at_ 10 _ 35 _ rfl (by decide) _ rfl rfl rfl;exact op_val (by simp [go_sem,ev' e35,hw,k4]) (hK _ hw)
    | 12,ho,hv =>
     cases ho;cases hv;refine .inl ⟨rfl,fun done a W hd hp hk hw K hK=>?_⟩;have e36:=hk.at_ 11 _ 36 _ rfl (by decide) _ rfl rfl rfl;exact op_val (by simp [go_sem,ev' e36,t0]) (hK _ hw)
    | _ + 13,_,hv=>cases hv
   intro done W hd hw;simp only [List.drop_succ_cons,List.drop_zero,List.zip_cons_cons,List.zip_nil_right,putAll];simp only [Act.put,List.setIfInBounds_toArray,List.set];clear hd;subst hw;have HI2:=Lib.hid (HI.out.later (Aft.drew W));generalize W.drew = Wd at *;clear k0 l0 k1 l1 k2 l2 k3 l3 k4 l4;obtain ⟨m1,hm1⟩:∃ m1,m ++ [c] = m1:=⟨_,rfl⟩;have HM1:=Lib.hid hm1;have HFS:=Lib.hid (HF.out.step (HS.out.ok north) ha HR.out HNM.out HT.out);rw [hm1] at HFS;rw [hm1] at HH;have hl1:m1.length = m.length + 1:=by rw [<- hm1];simp
   have HL1:=Lib.hid hl1;have hml1:m1.length <= 13:=by omega
   obtain ⟨⟨g,bk⟩,hgb⟩:∃ y,byOf bf c c = y:=⟨_,rfl⟩;have hleg:=HR.out.leg c HT.out;rw [hgb] at hleg HH HFS;rw [joOf_len] at hleg;have hgl:g < S.J.length:=hleg.1;have HMO:Hid ((m1.map (byOf bf c)).map legI = (m.map (byOf bf c)).map legI ++ [((g:Int),bk)]):=Lib.hid (by rw [<- hm1];simp [hgb,legI]);have HMI:Hid (m1.map Int.ofNat = m.map Int.ofNat ++ [(c:Int)]):=Lib.hid (by rw [<- hm1];simp);have hcn:=HF.out.cn;have hdl:=HI2.out.wk.lt;clear hm1 hleg hl1 HIX2;have hWd:=HI2.out.fr.size;have k0:Wd.cell? ⟨s + 1 + 1,0,none⟩ = some (.slice Am m.length cm):=(HI2.out.fr.nth 2 rfl).cell 0;have l0:=(HI2.out.fr.nth 2 rfl).lt;have f0:=(HI2.out.fr.nth 2 rfl).frozen 0;have HA3:=Lib.hid (HI2.out.later (Aft.alloc Wd (.cells #[.int .i64 (c:Nat)] 3)));have HOM:Hid ((Wd.alloc (.cells #[.int .i64 (c:Nat)] 3)).ownsRow (s + 1 + 1 + 1 + 1 + 1) 3 1 (.slice Am m.length cm) (m.map Int.ofNat).length ((m.map Int.ofNat).map (Value.int .i64))):=Lib.hid HA3.out.om;have hb3:s + 1 + 1 + 1 + 1 + 1 <= (Wd.alloc (.cells #[.int .i64 (c:Nat)] 3)).heap.size:=by rw [World.size_alloc];omega
   have HMI2:=Lib.hid hmi;have HGI2:=Lib.hid hgi;clear hmi hgi;go_upto_region 9 with (at_builtin;refine wpList_push rfl _ _ rfl HOM.out hb3 rfl (y:=(c:Int)) rfl (cell_new1 _ _ _) (by rw [HMI2.out];omega) ?_;intro v8 w8 ho8 hg8;rw [<- HMI.out] at ho8;obtain ⟨A8,c8,rfl,_,_⟩:=own_ints ho8 (by simp;omega);have hmi1:(m1.map Int.ofNat).length = m1.length:=(by simp);rw [hmi1] at ho8 ⊢;clear hmi1;have hoo8:=own_apart HA3.out.oo HA3.out.om (by decide) hg8;have hge8:∀ r,(Value.slice Am m.length cm).ownBlock = some r -> s + 1 + 1 + 1 + 1 + 1 <= r:=own_ge HOM.out;have hfr8:=HA3.out.fr.grown hg8 hge8;have hwk8:=HA3.out.wk.grown hg8 (fun e=>by have:=hge8 d e.symm;omega) (fun k e=>by have:=hge8 k e;have:=HI2.out.fr.ge;have:=HI2.out.wk.base;omega);have HO8:=Lib.hid ho8;have HOO8:=Lib.hid hoo8;have HFR8:=Lib.hid hfr8;have HWK8:=Lib.hid hwk8;have y1:=(hfr8.nth 2 rfl).cell 0;have y2:=(hfr8.nth 2 rfl).lt;have y3:=(hfr8.nth 2 rfl).frozen 0;clear ho8 hoo8 hfr8 hwk8 hg8 hge8)
   clear y1 y2 y3 HOM HA3 k0 l0 f0;have hst:w8.grownBy (w8.setCell ⟨s + 1 + 1,0,none⟩ (.slice A8 m1.length c8)) (some (s + 1 + 1)):=only_setCell (only_refl _ _) (p:=⟨s + 1 + 1,0,none⟩) (.inl rfl) _;have F9:=HFR8.out.store (g:=s + 1 + 1) (t:=58) (cs:=#[.slice Am m.length cm]) (by simp) 0 (.slice A8 m1.length c8) (bs':=[(s,91,#[.pointer (some ⟨d,0,none⟩)]),(s + 1,3,#[.int .i64 (c:Nat)]),(s + 1 + 1,58,#[.slice A8 m1.length c8]),(s + 1 + 1 + 1,25,#[.slice Ao m.length co]),(s + 1 + 1 + 1 + 1,190,#[.func (.func 120) #[] #[.pointer (some ⟨s + 1 + 1,0,none⟩),.pointer (some ⟨s + 1 + 1 + 1,0,none⟩),.pointer (some ⟨s + 1,0,none⟩),.pointer (some ⟨s,0,none⟩),.pointer (some ⟨s + 1 + 1 + 1 + 1,0,none⟩)]])]) (by simp;omega);have W9k:=HWK8.out.grown hst (fun e=>by have e:d = s + 1 + 1:=Option.some.inj e;omega) (fun k e=>by have e:s + 1 + 1 = k:=Option.some.inj e;have:=HI2.out.wk.base;omega);have O9:=own_sm HO8.out (Sm.of_grown (b:=s + 1 + 1 + 1 + 1 + 1) hst (fun k e=>by have e:s + 1 + 1 = k:=Option.some.inj e;omega)) (Nat.le_refl _);have OO9:=own_sm HOO8.out (Sm.of_grown (b:=s + 1 + 1 + 1 + 1 + 1) hst (fun k e=>by have e:s + 1 + 1 = k:=Option.some.inj e;omega)) (Nat.le_refl _);generalize w8.setCell ⟨s + 1 + 1,0,none⟩ (.slice A8 m1.length c8) = W9 at *;have HF9:=Lib.hid F9;have HW9:=Lib.hid W9k;have HO9:=Lib.hid O9;have HOO9:=Lib.hid OO9;clear F9 W9k O9 OO9 hst HFR8 HWK8 HO8 HOO8;have icc:(0:Int) <= (c:Int) /\ (c:Int) < 12:=by omega
   have hc12:c < 12:=by omega
   have hs12:c < 12:=by omega
   have HKB:Hid (∀ W,Aft W9 W -> W.cell? ⟨d,146 + c * 24 + c * 2,none⟩ = some (.int .i64 (g:Nat)) /\ W.cell? ⟨d,146 + c * 24 + c * 2 + 1,none⟩ = some (.bool bk)):=Lib.hid fun W h=>by
    have h1:=kby2 (HW9.out.later h) hs12 hc12;have e:bf (12 * c + c) = (g,bk):=hgb;rw [e] at h1;exact h1
   clear hgb;refine wp_region_valsT (by kernel_rfl) 9 64 rfl (by kernel_rfl) (by kernel_rfl) (by kernel_rfl) [.pointer (some ⟨d,0,none⟩),.int .i64 (c:Nat),.int .i64 (c:Nat),.pointer (some ⟨d,0,none⟩),.pointer (some ⟨d,146,none⟩),.pointer (some ⟨d,146 + c * 24,none⟩),.pointer (some ⟨d,146 + c * 24 + c * 2,none⟩),.agg #[.int .i64 (g:Nat),.bool bk],.pointer (some ⟨W9.heap.size,0,none⟩)] rfl (fun done W=>Aft W9 W /\ (if done 8 = true then W = W9.drew.alloc (.cells #[.int .i64 0,.bool false] 34) else W = W9.drew)) (⟨Aft.drew _,by simp⟩) ?st3 ?fi3
   case st3 =>
    intro i o v ho hv
    match i,ho,hv with
    | 0,ho,hv =>
     cases ho;cases hv;refine .inl ⟨rfl,fun done a W hd hp hk hw K hK=>?_⟩;have e4:=hk.same 4 (by decide);exact op_val (by simp [go_sem,ev' e4,((HF9.out.later hw.1).nth 0 rfl).cell 0]) (hK _ (⟨hw.1,by rw [upd_ne' (by decide)];exact hw.2⟩))
    | 1,ho,hv =>
     cases ho;cases hv;refine .inl ⟨rfl,fun done a W hd hp hk hw K hK=>?_⟩;have e3:=hk.same 3 (by decide);exact op_val (by simp [go_sem,ev' e3,((HF9.out.later hw.1).nth 1 rfl).cell 0]) (hK _ (⟨hw.1,by rw [upd_ne' (by decide)];exact hw.2⟩))
    | 2,ho,hv =>
     cases ho;cases hv;refine .inl ⟨rfl,fun done a W hd hp hk hw K hK=>?_⟩;have e0:=hk.same 0 (by decide);exact op_val (by simp [go_sem,ev' e0]) (hK _ (⟨hw.1,by rw [upd_ne' (by decide)];exact hw.2⟩))
    | 3,ho,hv =>
     cases ho;cases hv;refine .inl ⟨rfl,fun done a W hd hp hk hw K hK=>?_⟩;have e43:=hk.at_ 0 _ 43 _ rfl (by decide) _ rfl rfl rfl;exact op_val (by simp [go_sem,ev' e43]) (hK _ (⟨hw.1,by rw [upd_ne' (by decide)];exact hw.2⟩))
    | 4,ho,hv =>
     cases ho;cases hv;refine .inl ⟨rfl,fun done a W hd hp hk hw K hK=>?_⟩;have e46:=hk.at_ 3 _ 46 _ rfl (by decide) _ rfl rfl rfl;exact op_val (by simp [go_sem,ev' e46]) (hK _ (⟨hw.1,by rw [upd_ne' (by decide)];exact hw.2⟩))
    | 5,ho,hv =>
     cases ho;cases hv;refine .inl ⟨rfl,fun done a W hd hp hk hw K hK=>?_⟩;have e44:=hk.at_ 1 _ 44 _ rfl (by decide) _ rfl rfl rfl;have e47:=hk.at_ 4 _ 47 _ rfl (by decide) _ rfl rfl rfl;exact op_val (by simp [go_sem,ev' e44,ev' e47,hsaS]) (hK _ (⟨hw.1,by rw [upd_ne' (by decide)];exact hw.2⟩))
    | 6,ho,hv =>
     cases ho;cases hv;refine .inl ⟨rfl,fun done a W hd hp hk hw K hK=>?_⟩;have e45:=hk.at_ 2 _ 45 _ rfl (by decide) _ rfl rfl rfl;have e48:=hk.at_ 5 _ 48 _ rfl (by decide) _ rfl rfl rfl;exact op_val (by simp [go_sem,ev' e45,ev' e48,icc]) (hK _ (⟨hw.1,by rw [upd_ne' (by decide)];exact hw.2⟩))
    | 7,ho,hv =>
     cases ho;cases hv;refine .inl ⟨rfl,fun done a W hd hp hk hw K hK=>?_⟩;have e49:=hk.at_ 6 _ 49 _ rfl (by decide) _ rfl rfl rfl;exact op_val (by simp [go_sem,ev' e49,(HKB.out W hw.1).1,(HKB.out W hw.1).2]) (hK _ (⟨hw.1,by rw [upd_ne' (by decide)];exact hw.2⟩))
    | 8,ho,hv =>
     cases ho;cases hv;refine .inl ⟨rfl,fun done a W hd hp hk hw K hK=>?_⟩;have h2:=hw.2;rw [hd] at h2;simp only [Bool.false_eq_true,if_false] at h2;subst h2;exact op_valW (v:=.pointer (some ⟨W9.heap.size,0,none⟩)) (w':=W9.drew.alloc (.cells #[.int .i64 0,.bool false] 34)) (by simp [go_sem]) (hK _ ⟨(Aft.drew W9).then_alloc _,by rw [upd_same',if_pos rfl]⟩)
    | _ + 9,_,hv=>cases hv
   intro done W hd hw;simp only [List.drop_succ_cons,List.drop_zero,List.zip_cons_cons,List.zip_nil_right,putAll];simp only [Act.put,List.setIfInBounds_toArray,List.set];have hw2:=hw.2;rw [if_pos (hd 8 (by decide))] at hw2;clear hw hd;subst hw2;obtain ⟨X,hX⟩:∃ X,(W9.alloc (.cells #[.int .i64 (g:Nat),.bool bk] 34)).drew = X:=⟨_,rfl⟩;have hax:Aft W9 X:=hX ▸ (Aft.alloc _ _).then_drew;have HX:=Lib.hid hax;obtain ⟨z,hz⟩:∃ z,W9.heap.size = z:=⟨_,rfl⟩;have HOZ:Hid (∀ r,(Value.slice Ao m.length co).ownBlock = some r -> r < z):=Lib.hid fun r h=>hz ▸ (HOO9.out.lt r h).2
   have hsz9:s + 1 + 1 + 1 + 1 + 1 <= z:=by have:=HF9.out.size;omega
   have HBX:Hid (Blk X z 34 #[.int .i64 (g:Nat),.bool bk]):=Lib.hid (by rw [<- hX,<- hz];exact (Blk.new W9 34 _).drew);go_upto_region 10 with fail
   try rw [hX]
   try rw [hz]
   clear hX hz hax HKB;have HFX:=Lib.hid (HF9.out.later HX.out);have y1:X.cell? ⟨s + 1 + 1 + 1,0,none⟩ = some (.slice Ao m.length co):=(HFX.out.nth 3 rfl).cell 0;have y2:=(HFX.out.nth 3 rfl).lt;have y3:X.cell? ⟨z,0,none⟩ = some (.int .i64 (g:Nat)):=HBX.out.cell 0;have y4:X.cell? ⟨z,1,none⟩ = some (.bool bk):=HBX.out.cell 1;have y5:=HBX.out.lt;have hXs:=HFX.out.size;have HAX:=Lib.hid (Aft.alloc X (.cells #[.int .i64 (g:Nat),.bool bk] 34));have HOX:Hid ((X.alloc (.cells #[.int .i64 (g:Nat),.bool bk] 34)).ownsRow (s + 1 + 1 + 1 + 1 + 1) 34 2 (.slice Ao m.length co) ((m.map (byOf bf c)).map legI).length (((m.map (byOf bf c)).map legI).flatMap encG)):=Lib.hid (own_aft HOO9.out (HX.out.trans HAX.out));have HOMX:=Lib.hid (own_aft HO9.out (HX.out.trans HAX.out));have hbX:s + 1 + 1 + 1 + 1 + 1 <= (X.alloc (.cells #[.int .i64 (g:Nat),.bool bk] 34)).heap.size:=by rw [World.size_alloc];omega
   go_upto_region 11 with (at_builtin;refine wpList_pushF (enc:=encG) ty103 rfl _ _ rfl HOX.out hbX rfl ((g:Int),bk) rfl rfl (src_blk (Blk.new X 34 _)) (by intro u hu;simp [encG] at hu;rcases hu with rfl | rfl <;> rfl) (by rw [HGI2.out];omega) (by decide) ?_;intro v8 w7 ho8 hg8;rw [<- HMO.out] at ho8;obtain ⟨A7,c7,rfl,_,_⟩:=own_flat (enc:=encG) (fun _=>rfl) ho8 (by simp;omega);have hmi1:((m1.map (byOf bf c)).map legI).length = m1.length:=(by simp);rw [hmi1] at ho8 ⊢;clear hmi1;have hoo8:=own_apart HOMX.out HOX.out (by decide) hg8;have hge8:∀ r,(Value.slice Ao m.length co).ownBlock = some r -> s + 1 + 1 + 1 + 1 + 1 <= r:=own_ge HOX.out;have hfr8:=(HFX.out.later HAX.out).grown hg8 hge8;have hwk8:=(HW9.out.later (HX.out.trans HAX.out)).grown hg8 (fun e=>by have:=hge8 d e.symm;omega) (fun k e=>by have:=hge8 k e;have:=HI2.out.fr.ge;have:=HI2.out.wk.base;omega);have hbz8:Blk w7 z 34 #[.int .i64 (g:Nat),.bool bk] -> True:=(fun _=>trivial);have HO8:=Lib.hid ho8;have HOO8:=Lib.hid hoo8;have HFR8:=Lib.hid hfr8;have HWK8:=Lib.hid hwk8;have x1:=(hfr8.nth 3 rfl).cell 0;have x2:=(hfr8.nth 3 rfl).lt;have x3:=(hfr8.nth 3 rfl).frozen 0;have HG8:=Lib.hid hg8;clear ho8 hoo8 hfr8 hwk8 hg8 hge8 hbz8)
   clear x1 x2 x3 y1 y2 y3 y4 y5;have hst:w7.grownBy (w7.setCell ⟨s + 1 + 1 + 1,0,none⟩ (.slice A7 m1.length c7)) (some (s + 1 + 1 + 1)):=only_setCell (only_refl _ _) (p:=⟨s + 1 + 1 + 1,0,none⟩) (.inl rfl) _;have F9:=HFR8.out.store (g:=s + 1 + 1 + 1) (t:=25) (cs:=#[.slice Ao m.length co]) (by simp) 0 (.slice A7 m1.length c7) (bs':=[(s,91,#[.pointer (some ⟨d,0,none⟩)]),(s + 1,3,#[.int .i64 (c:Nat)]),(s + 1 + 1,58,#[.slice A8 m1.length c8]),(s + 1 + 1 + 1,25,#[.slice A7 m1.length c7]),(s + 1 + 1 + 1 + 1,190,#[.func (.func 120) #[] #[.pointer (some ⟨s + 1 + 1,0,none⟩),.pointer (some ⟨s + 1 + 1 + 1,0,none⟩),.pointer (some ⟨s + 1,0,none⟩),.pointer (some ⟨s,0,none⟩),.pointer (some ⟨s + 1 + 1 + 1 + 1,0,none⟩)]])]) (by simp;omega);have W9k:=HWK8.out.grown hst (fun e=>by have e:d = s + 1 + 1 + 1:=Option.some.inj e;omega) (fun k e=>by have e:s + 1 + 1 + 1 = k:=Option.some.inj e;have:=HI2.out.wk.base;omega);have O9:=own_sm HOO8.out (Sm.of_grown (b:=s + 1 + 1 + 1 + 1 + 1) hst (fun k e=>by have e:s + 1 + 1 + 1 = k:=Option.some.inj e;omega)) (Nat.le_refl _);have OO9:=own_sm HO8.out (Sm.of_grown (b:=s + 1 + 1 + 1 + 1 + 1) hst (fun k e=>by have e:s + 1 + 1 + 1 = k:=Option.some.inj e;omega)) (Nat.le_refl _);have BZ9:=((HBX.out.aft HAX.out).grown HG8.out (fun e=>by have:=HOZ.out z e.symm;omega)).grown hst (fun e=>by have e:z = s + 1 + 1 + 1:=Option.some.inj e;omega);generalize w7.setCell ⟨s + 1 + 1 + 1,0,none⟩ (.slice A7 m1.length c7) = Y at *;have HFY:Hid (FolI w0 w d s S A c9 c ap bf m1 (.slice A8 m1.length c8) (.slice A7 m1.length c7) Y):=Lib.hid ⟨F9,W9k,by rw [List.length_map];exact O9,by rw [List.length_map,List.length_map];exact OO9⟩;have y1:Y.cell? ⟨s,0,none⟩ = some (.pointer (some ⟨d,0,none⟩)):=(F9.nth 0 rfl).cell 0;have y2:=(F9.nth 0 rfl).lt;have y3:Y.cell? ⟨z,0,none⟩ = some (.int .i64 (g:Nat)):=BZ9.cell 0
   have y4:Y.cell? ⟨z,1,none⟩ = some (.bool bk):=BZ9.cell 1;have y5:=BZ9.lt;have HEN:=Lib.hid (ends_any S A c9 d ap bf w0 Y g bk HFY.out.wk hgl);rw [fromN HS.out (north:=north) (g:=(g,bk)) hgl] at HEN;obtain ⟨fr,hfr⟩:∃ fr,Sheet.from_ (joOf north S.J) (g,bk) = fr:=⟨_,rfl⟩;rw [hfr] at HEN HFS HH;clear F9 W9k O9 OO9 BZ9 hst HFR8 HWK8 HO8 HOO8 HG8 HOZ HBX HAX HOX HOMX HF9 HW9 HO9 HOO9 HFX hfr;go_upto_region 12 with (go_at_call 36;refine HEN.out.mono ?_;rintro e Y2 ⟨rfl,u,rfl⟩)
   have HFZ:=Lib.hid (HFY.out.later (Aft.lat Y u));generalize Y.lat u = Y2 at *;clear y1 y2 y3 y4 y5 HEN HFY;have y1:Y2.cell? ⟨s + 1 + 1 + 1 + 1,0,none⟩ = some (.func (.func 120) #[] #[.pointer (some ⟨s + 1 + 1,0,none⟩),.pointer (some ⟨s + 1 + 1 + 1,0,none⟩),.pointer (some ⟨s + 1,0,none⟩),.pointer (some ⟨s,0,none⟩),.pointer (some ⟨s + 1 + 1 + 1 + 1,0,none⟩)]):=(HFZ.out.fr.nth 4 rfl).cell 0;have y2:=(HFZ.out.fr.nth 4 rfl).lt;have HCC:=Lib.hid (HH.out _ _ Y2 HFZ.out HFS.out);go_wp2_with (go_at_call 120;refine HCC.out.mono ?_;rintro e Y3 hfin;obtain ⟨v9,rfl⟩:=hfin.val;have HFIN:=Lib.hid hfin;clear hfin)
   go_ret;exact HFIN.out
 ·have HT:Hid (Sheet.touched sa (rowOf S.n.toNat ap sa) c = true):=Lib.hid (by unfold Sheet.touched;rw [if_neg hca];simpa using HF.out.met);have t0:((c:Int) == (sa:Int)) = false:=by simp;omega
  clear hca;refine wp_region_valsT (by kernel_rfl) 13 64 rfl (by kernel_rfl) (by kernel_rfl) (by kernel_rfl) [.int .i64 (c:Nat),.int .i64 (sa:Nat),.bool false,.bool false,undef,undef,undef,undef,undef,undef,undef,undef,undef] rfl (fun _ W'=>W' = W.drew) (rfl) ?st4 ?fi4
  case st4 =>
   intro i o v ho hv
   match i,ho,hv with
   | 0,ho,hv =>
    cases ho;cases hv;refine .inl ⟨rfl,fun done a W hd hp hk hw K hK=>?_⟩;have e0:=hk.same 0 (by decide);exact op_val (by simp [go_sem,ev' e0]) (hK _ hw)
   | 1,ho,hv =>
    cases ho;cases hv;refine .inl ⟨rfl,fun done a W hd hp hk hw K hK=>?_⟩;have e3:=hk.same 3 (by decide);exact op_val (by simp [go_sem,ev' e3,hw,k2]) (hK _ hw)
   | 2,ho,hv =>
    cases ho;cases hv;refine .inl ⟨rfl,fun done a W hd hp hk hw K hK=>?_⟩;have e25:=hk.at_ 0 _ 25 _ rfl (by decide) _ rfl rfl rfl;have e26:=hk.at_ 1 _ 26 _ rfl (by decide) _ rfl rfl rfl;exact op_val (by simp [go_sem,ev' e25,ev' e26,t0]) (hK _ hw)
   | 3,ho,hv =>
    cases ho;cases hv;refine .inl ⟨rfl,fun done a W hd hp hk hw K hK=>?_⟩;have e27:=hk.at_ 2 _ 27 _ rfl (by decide) _ rfl rfl rfl;exact op_val (by simp [go_sem,ev' e27]) (hK _ hw)
   | 4,ho,hv=>cases ho;cases hv;exact .inr ⟨rfl,rfl,fun _ _ h=>h⟩
   | 5,ho,hv=>cases ho;cases hv;exact .inr ⟨rfl,rfl,fun _ _ h=>h⟩
   | 6,ho,hv=>cases ho;cases hv;exact .inr ⟨rfl,rfl,fun _ _ h=>h⟩
   | 7,ho,hv=>cases ho;cases hv;exact .inr ⟨rfl,rfl,fun _ _ h=>h⟩
   | 8,ho,hv=>cases ho;cases hv;exact .inr ⟨rfl,rfl,fun _ _ h=>h⟩
   | 9,ho,hv=>cases ho;cases hv;exact .inr ⟨rfl,rfl,fun _ _ h=>h⟩
   | 10,ho,hv=>cases ho;cases hv;exact .inr ⟨rfl,rfl,fun _ _ h=>h⟩
   | 11,ho,hv=>cases ho;cases hv;exact .inr ⟨rfl,rfl,fun _ _ h=>h⟩
   | 12,ho,hv=>cases ho;cases hv;exact .inr ⟨rfl,rfl,fun _ _ h=>h⟩
   | _ + 13,_,hv=>cases hv
  intro done W hd hw;simp only [List.drop_succ_cons,List.drop_zero,List.zip_cons_cons,List.zip_nil_right,putAll];simp only [Act.put,List.setIfInBounds_toArray,List.set];clear hd;subst hw;have HI2:=Lib.hid (HI.out.later (Aft.drew W));generalize W.drew = Wd at *;clear k0 l0 k1 l1 k2 l2 k3 l3 k4 l4;obtain ⟨m1,hm1⟩:∃ m1,m ++ [c] = m1:=⟨_,rfl⟩;have HM1:=Lib.hid hm1;have HFS:=Lib.hid (HF.out.step (HS.out.ok north) ha HR.out HNM.out HT.out);rw [hm1] at HFS;rw [hm1] at HH;have hl1:m1.length = m.length + 1:=by rw [<- hm1];simp
  have HL1:=Lib.hid hl1;have hml1:m1.length <= 13:=by omega
  obtain ⟨⟨g,bk⟩,hgb⟩:∃ y,byOf bf sa c = y:=⟨_,rfl⟩;have hleg:=HR.out.leg c HT.out;rw [hgb] at hleg HH HFS;rw [joOf_len] at hleg;have hgl:g < S.J.length:=hleg.1;have HMO:Hid ((m1.map (byOf bf sa)).map legI = (m.map (byOf bf sa)).map legI ++ [((g:Int),bk)]):=Lib.hid (by rw [<- hm1];simp [hgb,legI]);have HMI:Hid (m1.map Int.ofNat = m.map Int.ofNat ++ [(c:Int)]):=Lib.hid (by rw [<- hm1];simp);have hcn:=HF.out.cn;have hdl:=HI2.out.wk.lt;clear hm1 hleg hl1 HIX2;have hWd:=HI2.out.fr.size;have k0:Wd.cell? ⟨s + 1 + 1,0,none⟩ = some (.slice Am m.length cm):=(HI2.out.fr.nth 2 rfl).cell 0;have l0:=(HI2.out.fr.nth 2 rfl).lt;have f0:=(HI2.out.fr.nth 2 rfl).frozen 0;have HA3:=Lib.hid (HI2.out.later (Aft.alloc Wd (.cells #[.int .i64 (c:Nat)] 3)));have HOM:Hid ((Wd.alloc (.cells #[.int .i64 (c:Nat)] 3)).ownsRow (s + 1 + 1 + 1 + 1 + 1) 3 1 (.slice Am m.length cm) (m.map Int.ofNat).length ((m.map Int.ofNat).map (Value.int .i64))):=Lib.hid HA3.out.om;have hb3:s + 1 + 1 + 1 + 1 + 1 <= (Wd.alloc (.cells #[.int .i64 (c:Nat)] 3)).heap.size:=by rw [World.size_alloc];omega
  have HMI2:=Lib.hid hmi;have HGI2:=Lib.hid hgi;clear hmi hgi;go_upto_region 9 with (at_builtin;refine wpList_push rfl _ _ rfl HOM.out hb3 rfl (y:=(c:Int)) rfl (cell_new1 _ _ _) (by rw [HMI2.out];omega) ?_;intro v8 w8 ho8 hg8;rw [<- HMI.out] at ho8;obtain ⟨A8,c8,rfl,_,_⟩:=own_ints ho8 (by simp;omega);have hmi1:(m1.map Int.ofNat).length = m1.length:=(by simp);rw [hmi1] at ho8 ⊢;clear hmi1;have hoo8:=own_apart HA3.out.oo HA3.out.om (by decide) hg8;have hge8:∀ r,(Value.slice Am m.length cm).ownBlock = some r -> s + 1 + 1 + 1 + 1 + 1 <= r:=own_ge HOM.out;have hfr8:=HA3.out.fr.grown hg8 hge8;have hwk8:=HA3.out.wk.grown hg8 (fun e=>by have:=hge8 d e.symm;omega) (fun k e=>by have:=hge8 k e;have:=HI2.out.fr.ge;have:=HI2.out.wk.base;omega);have HO8:=Lib.hid ho8;have HOO8:=Lib.hid hoo8;have HFR8:=Lib.hid hfr8;have HWK8:=Lib.hid hwk8;have y1:=(hfr8.nth 2 rfl).cell 0;have y2:=(hfr8.nth 2 rfl).lt;have y3:=(hfr8.nth 2 rfl).frozen 0;clear ho8 hoo8 hfr8 hwk8 hg8 hge8)
  clear y1 y2 y3 HOM HA3 k0 l0 f0;have hst:w8.grownBy (w8.setCell ⟨s + 1 + 1,0,none⟩ (.slice A8 m1.length c8)) (some (s + 1 + 1)):=only_setCell (only_refl _ _) (p:=⟨s + 1 + 1,0,none⟩) (.inl rfl) _;have F9:=HFR8.out.store (g:=s + 1 + 1) (t:=58) (cs:=#[.slice Am m.length cm]) (by simp) 0 (.slice A8 m1.length c8) (bs':=[(s,91,#[.pointer (some ⟨d,0,none⟩)]),(s + 1,3,#[.int .i64 (sa:Nat)]),(s + 1 + 1,58,#[.slice A8 m1.length c8]),(s + 1 + 1 + 1,25,#[.slice Ao m.length co]),(s + 1 + 1 + 1 + 1,190,#[.func (.func 120) #[] #[.pointer (some ⟨s + 1 + 1,0,none⟩),.pointer (some ⟨s + 1 + 1 + 1,0,none⟩),.pointer (some ⟨s + 1,0,none⟩),.pointer (some ⟨s,0,none⟩),.pointer (some ⟨s + 1 + 1 + 1 + 1,0,none⟩)]])]) (by simp;omega);have W9k:=HWK8.out.grown hst (fun e=>by have e:d = s + 1 + 1:=Option.some.inj e;omega) (fun k e=>by have e:s + 1 + 1 = k:=Option.some.inj e;have:=HI2.out.wk.base;omega);have O9:=own_sm HO8.out (Sm.of_grown (b:=s + 1 + 1 + 1 + 1 + 1) hst (fun k e=>by have e:s + 1 + 1 = k:=Option.some.inj e;omega)) (Nat.le_refl _);have OO9:=own_sm HOO8.out (Sm.of_grown (b:=s + 1 + 1 + 1 + 1 + 1) hst (fun k e=>by have e:s + 1 + 1 = k:=Option.some.inj e;omega)) (Nat.le_refl _);generalize w8.setCell ⟨s + 1 + 1,0,none⟩ (.slice A8 m1.length c8) = W9 at *;have HF9:=Lib.hid F9;have HW9:=Lib.hid W9k;have HO9:=Lib.hid O9;have HOO9:=Lib.hid OO9;clear F9 W9k O9 OO9 hst HFR8 HWK8 HO8 HOO8;have icc:(0:Int) <= (c:Int) /\ (c:Int) < 12:=by omega
  have hc12:c < 12:=by omega
  have hs12:sa < 12:=by omega
  have HKB:Hid (∀ W,Aft W9 W -> W.cell? ⟨d,146 + sa * 24 + c * 2,none⟩ = some (.int .i64 (g:Nat)) /\ W.cell? ⟨d,146 + sa * 24 + c * 2 + 1,none⟩ = some (.bool bk)):=Lib.hid fun W h=>by
   have h1:=kby2 (HW9.out.later h) hs12 hc12;have e:bf (12 * sa + c) = (g,bk):=hgb;rw [e] at h1;exact h1
  clear hgb;refine wp_region_valsT (by kernel_rfl) 9 64 rfl (by kernel_rfl) (by kernel_rfl) (by kernel_rfl) [.pointer (some ⟨d,0,none⟩),.int .i64 (sa:Nat),.int .i64 (c:Nat),.pointer (some ⟨d,0,none⟩),.pointer (some ⟨d,146,none⟩),.pointer (some ⟨d,146 + sa * 24,none⟩),.pointer (some ⟨d,146 + sa * 24 + c * 2,none⟩),.agg #[.int .i64 (g:Nat),.bool bk],.pointer (some ⟨W9.heap.size,0,none⟩)] rfl (fun done W=>Aft W9 W /\ (if done 8 = true then W = W9.drew.alloc (.cells #[.int .i64 0,.bool false] 34) else W = W9.drew)) (⟨Aft.drew _,by simp⟩) ?st5 ?fi5
  case st5 =>
   intro i o v ho hv
   match i,ho,hv with
   | 0,ho,hv =>
    cases ho;cases hv;refine .inl ⟨rfl,fun done a W hd hp hk hw K hK=>?_⟩;have e4:=hk.same 4 (by decide);exact op_val (by simp [go_sem,ev' e4,((HF9.out.later hw.1).nth 0 rfl).cell 0]) (hK _ (⟨hw.1,by rw [upd_ne' (by decide)];exact hw.2⟩))
   | 1,ho,hv =>
    cases ho;cases hv;refine .inl ⟨rfl,fun done a W hd hp hk hw K hK=>?_⟩;have e3:=hk.same 3 (by decide);exact op_val (by simp [go_sem,ev' e3,((HF9.out.later hw.1).nth 1 rfl).cell 0]) (hK _ (⟨hw.1,by rw [upd_ne' (by decide)];exact hw.2⟩))
   | 2,ho,hv =>
    cases ho;cases hv;refine .inl ⟨rfl,fun done a W hd hp hk hw K hK=>?_⟩;have e0:=hk.same 0 (by decide);exact op_val (by simp [go_sem,ev' e0]) (hK _ (⟨hw.1,by rw [upd_ne' (by decide)];exact hw.2⟩))
   | 3,ho,hv =>
    cases ho;cases hv;refine .inl ⟨rfl,fun done a W hd hp hk hw K hK=>?_⟩;have e43:=hk.at_ 0 _ 43 _ rfl (by decide) _ rfl rfl rfl;exact op_val (by simp [go_sem,ev' e43]) (hK _ (⟨hw.1,by rw [upd_ne' (by decide)];exact hw.2⟩))
   | 4,ho,hv =>
    cases ho;cases hv;refine .inl ⟨rfl,fun done a W hd hp hk hw K hK=>?_⟩;have e46:=hk.at_ 3 _ 46 _ rfl (by decide) _ rfl rfl rfl;exact op_val (by simp [go_sem,ev' e46]) (hK _ (⟨hw.1,by rw [upd_ne' (by decide)];exact hw.2⟩))
   | 5,ho,hv =>
    cases ho;cases hv;refine .inl ⟨rfl,fun done a W hd hp hk hw K hK=>?_⟩;have e44:=hk.at_ 1 _ 44 _ rfl (by decide) _ rfl rfl rfl;have e47:=hk.at_ 4 _ 47 _ rfl (by decide) _ rfl rfl rfl;exact op_val (by simp [go_sem,ev' e44,ev' e47,hsaS]) (hK _ (⟨hw.1,by rw [upd_ne' (by decide)];exact hw.2⟩))
   | 6,ho,hv =>
    cases ho;cases hv;refine .inl ⟨rfl,fun done a W hd hp hk hw K hK=>?_⟩;have e45:=hk.at_ 2 _ 45 _ rfl (by decide) _ rfl rfl rfl;have e48:=hk.at_ 5 _ 48 _ rfl (by decide) _ rfl rfl rfl;exact op_val (by simp [go_sem,ev' e45,ev' e48,icc]) (hK _ (⟨hw.1,by rw [upd_ne' (by decide)];exact hw.2⟩))
   | 7,ho,hv =>
    cases ho;cases hv;refine .inl ⟨rfl,fun done a W hd hp hk hw K hK=>?_⟩;have e49:=hk.at_ 6 _ 49 _ rfl (by decide) _ rfl rfl rfl;exact op_val (by simp [go_sem,ev' e49,(HKB.out W hw.1).1,(HKB.out W hw.1).2]) (hK _ (⟨hw.1,by rw [upd_ne' (by decide)];exact hw.2⟩))
   | 8,ho,hv =>
    cases ho;cases hv;refine .inl ⟨rfl,fun done a W hd hp hk hw K hK=>?_⟩;have h2:=hw.2;rw [hd] at h2;simp only [Bool.false_eq_true,if_false] at h2;subst h2;exact op_valW (v:=.pointer (some ⟨W9.heap.size,0,none⟩)) (w':=W9.drew.alloc (.cells #[.int .i64 0,.bool false] 34)) (by simp [go_sem]) (hK _ ⟨(Aft.drew W9).then_alloc _,by rw [upd_same',if_pos rfl]⟩)
   | _ + 9,_,hv=>cases hv
  intro done W hd hw;simp only [List.drop_succ_cons,List.drop_zero,List.zip_cons_cons,List.zip_nil_right,putAll];simp only [Act.put,List.setIfInBounds_toArray,List.set];have hw2:=hw.2;rw [if_pos (hd 8 (by decide))] at hw2;clear hw hd;subst hw2;obtain ⟨X,hX⟩:∃ X,(W9.alloc (.cells #[.int .i64 (g:Nat),.bool bk] 34)).drew = X:=⟨_,rfl⟩;have hax:Aft W9 X:=hX ▸ (Aft.alloc _ _).then_drew;have HX:=Lib.hid hax;obtain ⟨z,hz⟩:∃ z,W9.heap.size = z:=⟨_,rfl⟩;have HOZ:Hid (∀ r,(Value.slice Ao m.length co).ownBlock = some r -> r < z):=Lib.hid fun r h=>hz ▸ (HOO9.out.lt r h).2
  have hsz9:s + 1 + 1 + 1 + 1 + 1 <= z:=by have:=HF9.out.size;omega
  have HBX:Hid (Blk X z 34 #[.int .i64 (g:Nat),.bool bk]):=Lib.hid (by rw [<- hX,<- hz];exact (Blk.new W9 34 _).drew);go_upto_region 10 with fail
  try rw [hX]
  try rw [hz]
  clear hX hz hax HKB;have HFX:=Lib.hid (HF9.out.later HX.out);have y1:X.cell? ⟨s + 1 + 1 + 1,0,none⟩ = some (.slice Ao m.length co):=(HFX.out.nth 3 rfl).cell 0;have y2:=(HFX.out.nth 3 rfl).lt;have y3:X.cell? ⟨z,0,none⟩ = some (.int .i64 (g:Nat)):=HBX.out.cell 0;have y4:X.cell? ⟨z,1,none⟩ = some (.bool bk):=HBX.out.cell 1;have y5:=HBX.out.lt;have hXs:=HFX.out.size;have HAX:=Lib.hid (Aft.alloc X (.cells #[.int .i64 (g:Nat),.bool bk] 34));have HOX:Hid ((X.alloc (.cells #[.int .i64 (g:Nat),.bool bk] 34)).ownsRow (s + 1 + 1 + 1 + 1 + 1) 34 2 (.slice Ao m.length co) ((m.map (byOf bf sa)).map legI).length (((m.map (byOf bf sa)).map legI).flatMap encG)):=Lib.hid (own_aft HOO9.out (HX.out.trans HAX.out));have HOMX:=Lib.hid (own_aft HO9.out (HX.out.trans HAX.out));have hbX:s + 1 + 1 + 1 + 1 + 1 <= (X.alloc (.cells #[.int .i64 (g:Nat),.bool bk] 34)).heap.size:=by rw [World.size_alloc];omega
  go_upto_region 11 with (at_builtin;refine wpList_pushF (enc:=encG) ty103 rfl _ _ rfl HOX.out hbX rfl ((g:Int),bk) rfl rfl (src_blk (Blk.new X 34 _)) (by intro u hu;simp [encG] at hu;rcases hu with rfl | rfl <;> rfl) (by rw [HGI2.out];omega) (by decide) ?_;intro v8 w7 ho8 hg8;rw [<- HMO.out] at ho8;obtain ⟨A7,c7,rfl,_,_⟩:=own_flat (enc:=encG) (fun _=>rfl) ho8 (by simp;omega);have hmi1:((m1.map (byOf bf sa)).map legI).length = m1.length:=(by simp);rw [hmi1] at ho8 ⊢;clear hmi1;have hoo8:=own_apart HOMX.out HOX.out (by decide) hg8;have hge8:∀ r,(Value.slice Ao m.length co).ownBlock = some r -> s + 1 + 1 + 1 + 1 + 1 <= r:=own_ge HOX.out;have hfr8:=(HFX.out.later HAX.out).grown hg8 hge8;have hwk8:=(HW9.out.later (HX.out.trans HAX.out)).grown hg8 (fun e=>by have:=hge8 d e.symm;omega) (fun k e=>by have:=hge8 k e;have:=HI2.out.fr.ge;have:=HI2.out.wk.base;omega);have hbz8:Blk w7 z 34 #[.int .i64 (g:Nat),.bool bk] -> True:=(fun _=>trivial);have HO8:=Lib.hid ho8;have HOO8:=Lib.hid hoo8;have HFR8:=Lib.hid hfr8;have HWK8:=Lib.hid hwk8;have x1:=(hfr8.nth 3 rfl).cell 0;have x2:=(hfr8.nth 3 rfl).lt;have x3:=(hfr8.nth 3 rfl).frozen 0;have HG8:=Lib.hid hg8;clear ho8 hoo8 hfr8 hwk8 hg8 hge8 hbz8)
  clear x1 x2 x3 y1 y2 y3 y4 y5;have hst:w7.grownBy (w7.setCell ⟨s + 1 + 1 + 1,0,none⟩ (.slice A7 m1.length c7)) (some (s + 1 + 1 + 1)):=only_setCell (only_refl _ _) (p:=⟨s + 1 + 1 + 1,0,none⟩) (.inl rfl) _;have F9:=HFR8.out.store (g:=s + 1 + 1 + 1) (t:=25) (cs:=#[.slice Ao m.length co]) (by simp) 0 (.slice A7 m1.length c7) (bs':=[(s,91,#[.pointer (some ⟨d,0,none⟩)]),(s + 1,3,#[.int .i64 (sa:Nat)]),(s + 1 + 1,58,#[.slice A8 m1.length c8]),(s + 1 + 1 + 1,25,#[.slice A7 m1.length c7]),(s + 1 + 1 + 1 + 1,190,#[.func (.func 120) #[] #[.pointer (some ⟨s + 1 + 1,0,none⟩),.pointer (some ⟨s + 1 + 1 + 1,0,none⟩),.pointer (some ⟨s + 1,0,none⟩),.pointer (some ⟨s,0,none⟩),.pointer (some ⟨s + 1 + 1 + 1 + 1,0,none⟩)]])]) (by simp;omega);have W9k:=HWK8.out.grown hst (fun e=>by have e:d = s + 1 + 1 + 1:=Option.some.inj e;omega) (fun k e=>by have e:s + 1 + 1 + 1 = k:=Option.some.inj e;have:=HI2.out.wk.base;omega);have O9:=own_sm HOO8.out (Sm.of_grown (b:=s + 1 + 1 + 1 + 1 + 1) hst (fun k e=>by have e:s + 1 + 1 + 1 = k:=Option.some.inj e;omega)) (Nat.le_refl _);have OO9:=own_sm HO8.out (Sm.of_grown (b:=s + 1 + 1 + 1 + 1 + 1) hst (fun k e=>by have e:s + 1 + 1 + 1 = k:=Option.some.inj e;omega)) (Nat.le_refl _);have BZ9:=((HBX.out.aft HAX.out).grown HG8.out (fun e=>by have:=HOZ.out z e.symm;omega)).grown hst (fun e=>by have e:z = s + 1 + 1 + 1:=Option.some.inj e;omega);generalize w7.setCell ⟨s + 1 + 1 + 1,0,none⟩ (.slice A7 m1.length c7) = Y at *;have HFY:Hid (FolI w0 w d s S A c9 sa ap bf m1 (.slice A8 m1.length c8) (.slice A7 m1.length c7) Y):=Lib.hid ⟨F9,W9k,by rw [List.length_map];exact O9,by rw [List.length_map,List.length_map];exact OO9⟩;have y1:Y.cell? ⟨s,0,none⟩ = some (.pointer (some ⟨d,0,none⟩)):=(F9.nth 0 rfl).cell 0;have y2:=(F9.nth 0 rfl).lt;have y3:Y.cell? ⟨z,0,none⟩ = some (.int .i64 (g:Nat)):=BZ9.cell 0
  have y4:Y.cell? ⟨z,1,none⟩ = some (.bool bk):=BZ9.cell 1;have y5:=BZ9.lt;have HEN:=Lib.hid (ends_any S A c9 d ap bf w0 Y g bk HFY.out.wk hgl);rw [fromN HS.out (north:=north) (g:=(g,bk)) hgl] at HEN;obtain ⟨fr,hfr⟩:∃ fr,Sheet.from_ (joOf north S.J) (g,bk) = fr:=⟨_,rfl⟩;rw [hfr] at HEN HFS HH;clear F9 W9k O9 OO9 BZ9 hst HFR8 HWK8 HO8 HOO8 HG8 HOZ HBX HAX HOX HOMX HF9 HW9 HO9 HOO9 HFX hfr;go_upto_region 12 with (go_at_call 36;refine HEN.out.mono ?_;rintro e Y2 ⟨rfl,u,rfl⟩)
  have HFZ:=Lib.hid (HFY.out.later (Aft.lat Y u));generalize Y.lat u = Y2 at *;clear y1 y2 y3 y4 y5 HEN HFY;have y1:Y2.cell? ⟨s + 1 + 1 + 1 + 1,0,none⟩ = some (.func (.func 120) #[] #[.pointer (some ⟨s + 1 + 1,0,none⟩),.pointer (some ⟨s + 1 + 1 + 1,0,none⟩),.pointer (some ⟨s + 1,0,none⟩),.pointer (some ⟨s,0,none⟩),.pointer (some ⟨s + 1 + 1 + 1 + 1,0,none⟩)]):=(HFZ.out.fr.nth 4 rfl).cell 0;have y2:=(HFZ.out.fr.nth 4 rfl).lt;have HCC:=Lib.hid (HH.out _ _ Y2 HFZ.out HFS.out);go_wp2_with (go_at_call 120;refine HCC.out.mono ?_;rintro e Y3 hfin;obtain ⟨v9,rfl⟩:=hfin.val;have HFIN:=Lib.hid hfin;clear hfin)
  go_ret;exact HFIN.out
theorem follow_any {north:Bool} (S:SetL) (A:Option Addr) (c9 d:Nat) (ap:Nat -> Int) (bf:Nat -> Nat × Bool) (w0 w:World) (hS:SetOk S) (sa:Nat) (ha:sa < S.n.toNat) (N D:Int) (s:Nat) (hs:w.heap.size = s) (hds:d < s)
  (hr:Sheet.RowI (joOf north S.J) D N sa (rowOf S.n.toNat ap sa) (byOf bf sa)) (at_:Nat) :
  ∀ (fuel:Nat) (m:List Nat) (c:Nat) (vm vo:Value) (W:World),S.n.toNat <= m.length + fuel -> FolI w0 w d s S A c9 sa ap bf m vm vo W -> Fol (joOf north S.J) sa S.n.toNat (rowOf S.n.toNat ap sa) (byOf bf sa) at_ m c ->
   Calls Tryz.prog 120 #[.int .i64 (c:Nat),.pointer (some ⟨s + 1 + 1,0,none⟩),.pointer (some ⟨s + 1 + 1 + 1,0,none⟩),.pointer (some ⟨s + 1,0,none⟩),.pointer (some ⟨s,0,none⟩),.pointer (some ⟨s + 1 + 1 + 1 + 1,0,none⟩)] W (FolR w (joOf north S.J) D N sa S.n.toNat (rowOf S.n.toNat ap sa) (byOf bf sa) at_):=by
 intro fuel
 induction fuel with
 | zero =>
  intro m c vm vo W hfu hI hF;by_cases hm:c ∈ m
  ·exact follow_hit S A c9 d ap bf w0 w hS sa ha N D s hs hds hr at_ m c vm vo W hI hF hm
  ·exfalso
   have h1:(m ++ [c]).Nodup:=by
    rw [List.nodup_append];exact ⟨hF.nodup,by simp,fun x hx y hy=>by rw [List.mem_singleton] at hy;subst hy;exact fun e=>hm (e ▸ hx)⟩
   have h2:=nodup_le h1 (n:=S.n.toNat) (fun x hx=>by
    rcases List.mem_append.1 hx with hx | hx
    ·exact hF.low x hx
    ·rw [List.mem_singleton] at hx;subst hx;exact hF.cn)
   simp at h2;omega
 | succ fuel ih =>
  intro m c vm vo W hfu hI hF;by_cases hm:c ∈ m
  ·exact follow_hit S A c9 d ap bf w0 w hS sa ha N D s hs hds hr at_ m c vm vo W hI hF hm
  ·exact follow_miss S A c9 d ap bf w0 w hS sa ha N D s hs hds hr at_ m c vm vo W hI hF hm fun vm vo W h1 h2=>ih _ _ vm vo W (by simp;omega) h1 h2
set_option maxRecDepth 100000 in
set_option maxHeartbeats 4000000 in
theorem back_any {north:Bool} (S:SetL) (A:Option Addr) (c9 d:Nat) (ap:Nat -> Int) (bf:Nat -> Nat × Bool) (w0 w:World) (hW:WorkAt w0 w d S A c9 ap bf) (hS:SetOk S) (sa:Nat) (ha:sa < S.n.toNat) (N D:Int)
  (hr:Sheet.RowI (joOf north S.J) D N sa (rowOf S.n.toNat ap sa) (byOf bf sa)) (at_:Nat) (hat:at_ < S.n.toNat) (hmet:rowOf S.n.toNat ap sa at_ ≠ Sheet.far) :
  Calls Tryz.prog 99 #[.pointer (some ⟨d,0,none⟩),.int .i64 (sa:Nat),.int .i64 (at_:Nat)] w (FolR w (joOf north S.J) D N sa S.n.toNat (rowOf S.n.toNat ap sa) (byOf bf sa) at_):=by
 obtain ⟨s,hs⟩:∃ s,w.heap.size = s:=⟨_,rfl⟩;have hds:d < s:=hs ▸ hW.lt;have HH:=Lib.hid fun W h=>follow_any S A c9 d ap bf w0 w hS sa ha N D s hs hds hr at_ S.n.toNat [] at_ (.slice none 0 0) (.slice none 0 0) W (by omega) h (Fol.start hat hmet)
 have F0:=((((Fr.start w).alloc rfl 91 #[.pointer (some ⟨d,0,none⟩)]).alloc (by simp) 3 #[.int .i64 (sa:Nat)]).alloc (by simp) 58 #[.slice none 0 0]).alloc (by simp) 25 #[.slice none 0 0] |>.alloc (by simp) 190 #[.func (.func 120) #[] #[.pointer (some ⟨w.heap.size + 1 + 1,0,none⟩),.pointer (some ⟨w.heap.size + 1 + 1 + 1,0,none⟩),.pointer (some ⟨w.heap.size + 1,0,none⟩),.pointer (some ⟨w.heap.size,0,none⟩),.pointer (some ⟨w.heap.size + 1 + 1 + 1 + 1,0,none⟩)]];simp only [List.nil_append,List.cons_append] at F0;rw [hs] at F0;have HF0:=Lib.hid F0;have HW:=Lib.hid hW;clear F0 hW hr hS hmet;go_enter Tryz.func99,Tryz.ntmps99;go_upto_region 5 with fail
 have hI:=Lib.hid (show FolI w0 w d s S A c9 sa ap bf [] (.slice none 0 0) (.slice none 0 0) _ from ⟨HF0.out,HW.out.later HF0.out.aft,World.ownsRow_nil _ _ 3 1,World.ownsRow_nil _ _ 34 2⟩);go_wp2_with (go_at_call 120;refine (HH.out _ hI.out).mono ?_;rintro e Y3 hfin;obtain ⟨v9,rfl⟩:=hfin.val;have HFIN:=Lib.hid hfin;clear hfin)
 go_ret;exact HFIN.out
end Go.Proofs
end
section
/- Words: reckon: legs that are cleared;rows that are done. -/
namespace Go.Proofs
open Go.RowKit
def zs2:Nat -> List Value
 | 0=>[]
 | k + 1=>.int .i64 0 :: .bool false :: zs2 k
theorem only_cells {a:World} {g:Nat}:∀ (vs:List Value) (o:Nat) (w:World),a.grownBy w (some g) -> a.grownBy (w.setCells g o vs) (some g)
 | [],_,_,h=>h
 | v :: r,o,w,h=>only_cells r (o + 1) _ (only_setCell h (p:=⟨g,o,none⟩) (.inl rfl) v)
theorem clear_by {w0:World} {d:Nat} {S:SetL} {A:Option Addr} {c:Nat} {ap:Nat -> Int} {a:Nat} (ha:a < 12):∀ (k i:Nat) (w:World) (bf:Nat -> Nat × Bool),i + k <= 12 -> WorkAt w0 w d S A c ap bf -> ∃ bf',WorkAt w0 (w.setCells d (146 + a * 24 + i * 2) (zs2 k)) d S A c ap bf'
 | 0,_,_,bf,_,h=>⟨bf,h⟩
 | k + 1,i,w,bf,hi,h=>by
  have h1:=setBy2 h ha (i:=i) (by omega) 0 false;obtain ⟨bf',h2⟩:=clear_by ha k (i + 1) _ _ (by omega) h1;refine ⟨bf',?_⟩;rw [show 146 + a * 24 + (i + 1) * 2 = 146 + a * 24 + i * 2 + 1 + 1 by omega] at h2;exact h2
theorem zs2_one:∀ (k:Nat) (v:Value),v ∈ zs2 k -> v.oneCell' = true
 | 0,v,h=>by cases h
 | k + 1,v,h=>by
  unfold zs2 at h;rcases List.mem_cons.1 h with rfl | h
  ·rfl
  ·rcases List.mem_cons.1 h with rfl | h
   ·rfl
   ·exact zs2_one k v h
theorem zero120 (w:World):(zeroValue 34).run Tryz.prog w = .ok (.agg #[.int .i64 0,.bool false]) w:=by kernel_rfl
theorem run_clear_by {w0 w:World} {d:Nat} {S:SetL} {A:Option Addr} {c:Nat} {ap:Nat -> Int} {bf:Nat -> Nat × Bool} (h:WorkAt w0 w d S A c ap bf) {a:Nat} (ha:a < 12) (ty:TypeId) :
  (Builtin.clear_ #[25] ty #[.slice (some ⟨d,146 + a * 24,none⟩) 12 12]).run Tryz.prog w = .ok (.tuple #[]) (w.setCells d (146 + a * 24) (zs2 12)):=by
 have hzc:(Builtin.zeroCells (Value.agg #[.int .i64 0,.bool false]).cells 12).toList = zs2 12:=by kernel_rfl
 have hs:∀ j,j < 24 -> ∃ v,w.cell? ⟨d,146 + a * 24 + j,none⟩ = some v:=fun j hj=>by
  have h1:=kby2 h ha (i:=j / 2) (by omega);rcases Nat.mod_two_eq_zero_or_one j with e | e
  ·rw [show 146 + a * 24 + j / 2 * 2 = 146 + a * 24 + j by omega] at h1;exact ⟨_,h1.1⟩
  ·rw [show 146 + a * 24 + j / 2 * 2 + 1 = 146 + a * 24 + j by omega] at h1;exact ⟨_,h1.2⟩
 have hst:=run_storeCells_cells (P:=Tryz.prog) d (146 + a * 24) (zs2 12) 0 w (fun j hj=>by
  have hj:j < 24:=hj;obtain ⟨v,hv⟩:=hs j hj;rw [Nat.add_zero,hv];rfl) (fun j hj=>h.fz _) (fun v hv=>zs2_one 12 v hv)
 simp only [Nat.add_zero] at hst;simp [Builtin.clear_,run_underlying Tryz.underlying25,zero120,hzc,hst]
def RowDone (S:SetL) (north:Bool) (D N:Int) (ap:Nat -> Int) (a:Nat):Prop:=(∃ by_,Sheet.RowI (joOf north S.J) D N a (rowOf S.n.toNat ap a) by_) /\ ∀ b,Sheet.Calm (Sheet.sc D N (Sheet.legs (joOf north S.J))) (fun c=>Sheet.opt (rowOf S.n.toNat ap a c)) b
theorem RowDone.congr {S:SetL} {north:Bool} {D N:Int} {ap ap':Nat -> Int} {a:Nat} (h:RowDone S north D N ap a) (hn:S.n.toNat <= 12) (he:∀ i,i / 12 = a -> ap' i = ap i):RowDone S north D N ap' a:=by
 have e:rowOf S.n.toNat ap' a = rowOf S.n.toNat ap a:=by
  funext c
  unfold rowOf;by_cases hc:c < S.n.toNat
  ·rw [if_pos hc,if_pos hc,he _ (by omega)]
  ·rw [if_neg hc,if_neg hc]
 unfold RowDone;rw [e];exact h
end Go.Proofs
end
