/- Own texts, merged: WkR Sk0. -/
import Derived.Test.YthegmhnaiabcpaaGreatF06
import Derived.RegionTactic
set_option linter.unusedSimpArgs false
set_option linter.unusedVariables false
set_option linter.unnecessarySimpa false
section
/- Walks: slices.Index;slices of records of two cells that are cloned and turned round. -/
namespace Go.Proofs
open Go.RowKit
attribute [local go_sem] Oper.semAt_some
theorem index_full (A:Option Addr) (l:List Int) (c:Nat) (x:Int) (w:World) (hA:Ints w A l) :
  Calls Tryz.prog 121 #[.slice A l.length c,.int .i64 x] w fun e w'=>IdxRes (fun y=>decide (y = x)) l e /\ w = w':=by
 have hl:=hA.len;go_enter Tryz.func121,Tryz.ntmps121;go_wp2;go_loop [8] (fun i=>∃ k:Nat,i = .int .i64 k /\ k <= l.length /\ (l.take k).any (fun y=>decide (y = x)) = false) (fun i=>l.length - (intOf i).toNat)
 case atStart=>exact ⟨0,rfl,by omega,rfl⟩
 case round =>
  obtain ⟨k,rfl,hk,hany⟩:=hrel;have HA:=Lib.hid hany;clear hany;by_cases hlt:k < l.length
  ·obtain ⟨b,o,rfl,hbw,hc⟩:=hA.at hlt;have hck:=hc k hlt;clear hc;go_wp2
   ·have hx:x = l[k]:=by simp_all
    go_ret;exact ⟨.inr ⟨k,hlt,rfl,by simp [hx],HA.out⟩,rfl⟩
   ·have hx:¬ x = l[k]:=by simp_all
    go_round
    case rel=>exact ⟨k + 1,by go_num,by omega,by rw [any_take_succ _ _ _ hlt,HA.out];simp;exact fun h=>hx h.symm⟩
    case measure=>simp [intOf];omega
  ·go_wp2;go_ret;exact ⟨.inl ⟨rfl,by have:=HA.out;rwa [List.take_of_length_le (by omega)] at this⟩,rfl⟩
def RevAt {α:Type} (l m:List α) (k:Nat):Prop:=m.length = l.length /\ ∀ t,(h:t < m.length) -> (h':t < l.length) -> m[t] = if t < k \/ l.length < t + 1 + k then l[l.length - 1 - t] else l[t]
theorem RevAt.step {α:Type} {l m:List α} {k:Nat} (h:RevAt l m k) (hk:2 * k + 1 < l.length) (h1:l.length - 1 - k < m.length) (h2:k < m.length) :
  RevAt l ((m.set k m[l.length - 1 - k]).set (l.length - 1 - k) m[k]) (k + 1):=by
 obtain ⟨hm,ha⟩:=h;refine ⟨by simp [hm],fun t ht ht'=>?_⟩;have hb1:=ha (l.length - 1 - k) h1 (by omega);have hb2:=ha k h2 (by omega);rw [if_neg (by omega)] at hb1 hb2;rw [List.getElem_set];by_cases e1:l.length - 1 - k = t
 ·rw [if_pos e1,hb2,if_pos (by omega)]
  congr 1;omega
 ·rw [if_neg e1,List.getElem_set];by_cases e2:k = t
  ·rw [if_pos e2,hb1,if_pos (by omega)];subst e2;rfl
  ·rw [if_neg e2,ha t (by omega) ht'];by_cases e3:t < k \/ l.length < t + 1 + k
   ·rw [if_pos e3,if_pos (by omega)]
   ·rw [if_neg e3,if_neg (by omega)]
theorem RevAt.done {α:Type} {l m:List α} {k:Nat} (h:RevAt l m k) (hk:l.length <= 2 * k + 1):m = l.reverse:=by
 obtain ⟨hm,ha⟩:=h;refine List.ext_getElem (by simp [hm]) fun t h1 h2=>?_
 have ht:t < l.length:=by omega
 rw [ha t h1 ht,List.getElem_reverse];by_cases e:t < k \/ l.length < t + 1 + k
 ·rw [if_pos e]
 ·rw [if_neg e]
  congr 1;omega
section
variable {α:Type} {e1 e2:α -> Value}
def Recs (e1 e2:α -> Value) (cs:Array Value) (l:List α):Prop:=l.length * 2 <= cs.size /\ ∀ t,(h:t < l.length) -> cs[t * 2]? = some (e1 l[t]) /\ cs[t * 2 + 1]? = some (e2 l[t])
theorem Recs.set {cs:Array Value} {l:List α} (h:Recs e1 e2 cs l) (i:Nat) (x:α):Recs e1 e2 ((cs.setIfInBounds (i * 2) (e1 x)).setIfInBounds (i * 2 + 1) (e2 x)) (l.set i x):=by
 refine ⟨by simpa using h.1,fun t ht=>?_⟩;have ht':t < l.length:=by simpa using ht
 have h1:=h.1;obtain ⟨a1,a2⟩:=h.2 t ht';by_cases e:i = t
 ·subst e;simp only [Array.getElem?_setIfInBounds,Array.size_setIfInBounds];simp [show i * 2 < cs.size by omega,show i * 2 + 1 < cs.size by omega]
 ·rw [List.getElem_set_ne e];simp only [Array.getElem?_setIfInBounds];rw [if_neg (by omega),if_neg (by omega),if_neg (by omega),if_neg (by omega)];exact ⟨a1,a2⟩
theorem Recs.of_eq {cs:Array Value} {l l':List α} (h:Recs e1 e2 cs l) (e:l = l'):Recs e1 e2 cs l':=e ▸ h
theorem own_recs {w:World} {base:Nat} {e:TypeId} {v:Value} {l:List α} (h:w.ownsRow base e 2 v l.length (l.flatMap fun x=>[e1 x,e2 x])) :
  (v = .slice none 0 0 /\ l = []) \/ ∃ g c cs,v = .slice (some ⟨g,0,none⟩) l.length c /\ base <= g /\ Blk w g e cs /\ Recs e1 e2 cs l /\ cs.size = c * 2 /\ l.length <= c /\ c <= maxLen:=by
 rcases h.2 with ⟨rfl,h0⟩ | ⟨g,cap,cur,rfl,hg,hh,hc,hm,hs,ht⟩
 ·exact .inl ⟨rfl,List.eq_nil_of_length_eq_zero h0⟩
 ·refine .inr ⟨g,cap,cur,rfl,hg,hh,⟨by omega,fun t ht'=>?_⟩,by omega,hc,hm⟩;have hf:=fun j hj=>flat_get (enc:=fun x=>[e1 x,e2 x]) (sz:=2) (fun _=>rfl) l t j ht' hj
  have h1:=h.cells (g:=g) rfl (t * 2 + 0) (e1 l[t]) (by rw [hf 0 (by decide)];rfl);have h2:=h.cells (g:=g) rfl (t * 2 + 1) (e2 l[t]) (by rw [hf 1 (by decide)];rfl);rw [Addr.add_lit] at h1 h2;exact ⟨by simpa [cell_of_row w g _ cur e (0,0) hh] using h1,by simpa [cell_of_row w g _ cur e (0,0) hh] using h2⟩
theorem recs_own {w:World} {base g c:Nat} {e:TypeId} {cs:Array Value} {l:List α} (hg:base <= g) (hb:Blk w g e cs) (hn:Recs e1 e2 cs l) (hs:cs.size = c * 2) (hl:l.length <= c) (hm:c <= maxLen) :
  w.ownsRow base e 2 (.slice (some ⟨g,0,none⟩) l.length c) l.length (l.flatMap fun x=>[e1 x,e2 x]):=by
 have hlen:=flat_len (enc:=fun x=>[e1 x,e2 x]) (sz:=2) (fun _=>rfl) l;refine ⟨hlen,.inr ⟨g,c,cs,rfl,hg,hb,hl,hm,by omega,?_⟩⟩;apply List.ext_getElem?;intro t;rw [List.getElem?_take];by_cases ht:t < l.length * 2
 ·rw [if_pos ht,Array.getElem?_toList];have hi:t / 2 < l.length:=by omega
  have hf:=flat_get (enc:=fun x=>[e1 x,e2 x]) (sz:=2) (fun _=>rfl) l (t / 2) (t % 2) hi (Nat.mod_lt _ (by decide));rw [show t / 2 * 2 + t % 2 = t by omega] at hf;rw [hf];obtain ⟨a1,a2⟩:=hn.2 (t / 2) hi;have hdm:t / 2 * 2 + t % 2 = t:=by omega
  clear hf;generalize t / 2 = i at *;rcases Nat.mod_two_eq_zero_or_one t with h0 | h0
  ·rw [h0] at hdm ⊢;obtain rfl:t = i * 2:=by omega
   exact a1
  ·rw [h0] at hdm ⊢;obtain rfl:t = i * 2 + 1:=by omega
   exact a2
 ·rw [if_neg ht,List.getElem?_eq_none (by omega)]
end
theorem cloneLeg (A:Option Addr) (l:List (Int × Bool)) (c:Nat) (w:World) (hA:RowsP w A 2 (FlatR encG) l) :
  Calls Tryz.prog 122 #[.slice A l.length c] w (OwnF 34 2 encG w l):=by
 have hl:=hA.len (by decide);have hb:l.length * 16 <= 140737488355328:=by have:=hA.1;omega
 have qT:∀ (w:World) (a:Option Addr) (n c n' c':Nat),(binOp .eql 25 (.slice a n c) (.slice none n' c')).run Tryz.prog w = .ok (.bool a.isNone) w:=fun w a n c n' c'=>Lib.run_eql_slice_nil w _ _ a n c n' c' Tryz.underlying25
 cases A with
 | none =>
  have h0:=rows_nil hA rfl;have:l = []:=List.eq_nil_of_length_eq_zero h0;subst this;go_enter Tryz.func122,Tryz.ntmps122;go_wp2;go_ret;exact ⟨_,rfl,World.ownsRow_nil w _ 34 2,Aft.refl _⟩
 | some ad =>
  go_enter Tryz.func122,Tryz.ntmps122;go_wp2_with (at_builtin;refine wpList_app ty103 rfl _ _ rfl (Aft.alloc w _) rfl (World.ownsRow_made w #[] 0 (Nat.le_refl _) (by unfold maxLen;omega) rfl) rfl (flat_len (enc:=encG) (sz:=2) (fun _=>rfl) l) (fun h=>by cases h) (rows_src (enc:=encG) (fun _=>rfl) (by decide) (hA.aft FlatR.mono (Aft.alloc w _))) (encG_one l) (by omega) (by decide) ?_;intro v' w1 hown' hgrow haft)
  go_ret;exact ⟨_,rfl,by simpa using hown',haft⟩
set_option maxRecDepth 100000 in
set_option maxHeartbeats 2000000 in
theorem reverseLeg_blk (g:Nat) (l:List (Int × Bool)) (c:Nat) (cs:Array Value) (w:World) (hl:l.length <= 17592186043904) (hb:Blk w g 34 cs) (hc:Recs (fun x:Int × Bool=>.int .i64 x.1) (fun x:Int × Bool=>.bool x.2) cs l) :
  Calls Tryz.prog 123 #[.slice (some ⟨g,0,none⟩) l.length c] w fun e w'=>e = .returned (.tuple #[]) /\ w.grownBy w' (some g) /\ ∃ cs',cs'.size = cs.size /\ Blk w' g 34 cs' /\ Recs (fun x:Int × Bool=>.int .i64 x.1) (fun x:Int × Bool=>.bool x.2) cs' l.reverse:=by
 go_enter Tryz.func123,Tryz.ntmps123;go_wp2;go_loopw [2,3] (fun i j wr=>∃ k:Nat,i = .int .i64 k /\ j = .int .i64 ((l.length:Int) - 1 - k) /\ 2 * k <= l.length + 1 /\ w.grownBy wr (some g) /\ ∃ m:List (Int × Bool),∃ cs',cs'.size = cs.size /\ Blk wr g 34 cs' /\ Recs (fun x:Int × Bool=>.int .i64 x.1) (fun x:Int × Bool=>.bool x.2) cs' m /\ RevAt l m k)
  (fun i _ _=>l.length - (intOf i).toNat)
 case atStart=>exact ⟨0,rfl,by simp,by omega,only_refl _ _,l,cs,rfl,hb,hc,rfl,fun t ht ht'=>by rw [if_neg (by omega)]⟩
 case round =>
  obtain ⟨k,rfl,rfl,hk,hg,m,cs',hs,hb',hm1,hm2⟩:=hrel;have hm:=hm2.1;have HG:=Lib.hid hg;have HS:=Lib.hid hs;have HB:=Lib.hid hb';have HM1:=Lib.hid hm1;have HM2:=Lib.hid hm2;clear hg hs hb' hm1 hm2;by_cases hlt:(k:Int) < (l.length:Int) - 1 - k
  ·obtain ⟨j,hj⟩:∃ j:Nat,(l.length:Int) - 1 - k = j:=⟨l.length - 1 - k,by omega⟩;rw [hj] at hlt ⊢;have hjn:l.length - 1 - k = j:=by omega
   have hkm:k < m.length:=by omega
   have hjm:j < m.length:=by omega
   obtain ⟨a1,a2⟩:=HM1.out.2 k hkm;obtain ⟨b1,b2⟩:=HM1.out.2 j hjm;have hsz:=HM1.out.1
   have hst:RevAt l ((m.set k m[j]).set j m[k]) (k + 1):=by
    have h0:=HM2.out.step (k:=k) (by omega) (by omega) hkm;simp only [hjn] at h0;exact h0
   have HSET:=Lib.hid ((HM1.out.set k m[j]).set j m[k]);have ik:(0:Int) <= (k:Int) /\ (k:Int) < (l.length:Int):=by omega
   have ij:(0:Int) <= (j:Int) /\ (j:Int) < (l.length:Int):=by omega
   obtain ⟨p1,hp1⟩:∃ p,m[k] = p:=⟨_,rfl⟩;obtain ⟨p2,hp2⟩:∃ p,m[j] = p:=⟨_,rfl⟩;rw [hp1] at a1 a2 HSET;rw [hp2] at b1 b2 HSET;rw [hp1,hp2] at hst;have hst2:=Lib.hid hst;clear hst hp1 hp2 hm;obtain ⟨x1,x2⟩:=p1;obtain ⟨y1,y2⟩:=p2;dsimp only at a1 a2 b1 b2 HSET;have t1:decide ((k:Int) < (j:Int)) = true:=by simp;omega
   have t1':decide (k < j) = true:=by simp;omega
   have hbl:=HB.out.lt;clear hj;go_upto_region 3 with fail
   have HI0:Hid (Blk wr.drew g 34 cs' /\ w.grownBy wr.drew (some g)):=Lib.hid ⟨HB.out.drew,only_drew HG.out⟩;refine wp_region_valsT (by kernel_rfl) 15 28 rfl (by kernel_rfl) (by kernel_rfl) (by kernel_rfl) [.slice (some ⟨g,0,none⟩) l.length c,.int .i64 (k:Nat),.slice (some ⟨g,0,none⟩) l.length c,.int .i64 (j:Nat),.slice (some ⟨g,0,none⟩) l.length c,.int .i64 (j:Nat),.pointer (some ⟨g,j * 2,none⟩),.agg #[.int .i64 y1,.bool y2],.slice (some ⟨g,0,none⟩) l.length c,.int .i64 (k:Nat),.pointer (some ⟨g,k * 2,none⟩),.agg #[.int .i64 x1,.bool x2],.pointer (some ⟨g,k * 2,none⟩),undef,.pointer (some ⟨g,j * 2,none⟩)] rfl (fun done W=>w.grownBy W (some g) /\ Blk W g 34 (if done 13 = true then (cs'.setIfInBounds (k * 2) (.int .i64 y1)).setIfInBounds (k * 2 + 1) (.bool y2) else cs') /\ (done 13 = true -> done 11 = true /\ done 7 = true)) (⟨HI0.out.2,HI0.out.1,fun h=>by cases h⟩) ?st1 ?fi1
   case st1 =>
    intro i o v ho hv
    match i,ho,hv with
    | 0,ho,hv =>
     cases ho;cases hv;refine .inl ⟨rfl,fun done a W hd hp hk hw K hK=>?_⟩;have e0:=hk.same 0 (by decide);exact op_val (by simp [go_sem,ev' e0]) (hK _ (⟨hw.1,by rw [upd_ne' (by decide)];exact hw.2.1,fun h=>by rw [upd_ne' (by decide)] at h;exact ⟨by first | exact upd_same' | (rw [upd_ne' (by decide)];exact (hw.2.2 h).1),by first | exact upd_same' | (rw [upd_ne' (by decide)];exact (hw.2.2 h).2)⟩⟩))
    | 1,ho,hv =>
     cases ho;cases hv;refine .inl ⟨rfl,fun done a W hd hp hk hw K hK=>?_⟩;have e2:=hk.same 2 (by decide);exact op_val (by simp [go_sem,ev' e2]) (hK _ (⟨hw.1,by rw [upd_ne' (by decide)];exact hw.2.1,fun h=>by rw [upd_ne' (by decide)] at h;exact ⟨by first | exact upd_same' | (rw [upd_ne' (by decide)];exact (hw.2.2 h).1),by first | exact upd_same' | (rw [upd_ne' (by decide)];exact (hw.2.2 h).2)⟩⟩))
    | 2,ho,hv =>
     cases ho;cases hv;refine .inl ⟨rfl,fun done a W hd hp hk hw K hK=>?_⟩;have e0:=hk.same 0 (by decide);exact op_val (by simp [go_sem,ev' e0]) (hK _ (⟨hw.1,by rw [upd_ne' (by decide)];exact hw.2.1,fun h=>by rw [upd_ne' (by decide)] at h;exact ⟨by first | exact upd_same' | (rw [upd_ne' (by decide)];exact (hw.2.2 h).1),by first | exact upd_same' | (rw [upd_ne' (by decide)];exact (hw.2.2 h).2)⟩⟩))
    | 3,ho,hv =>
     cases ho;cases hv;refine .inl ⟨rfl,fun done a W hd hp hk hw K hK=>?_⟩;have e3:=hk.same 3 (by decide);exact op_val (by simp [go_sem,ev' e3]) (hK _ (⟨hw.1,by rw [upd_ne' (by decide)];exact hw.2.1,fun h=>by rw [upd_ne' (by decide)] at h;exact ⟨by first | exact upd_same' | (rw [upd_ne' (by decide)];exact (hw.2.2 h).1),by first | exact upd_same' | (rw [upd_ne' (by decide)];exact (hw.2.2 h).2)⟩⟩))
    | 4,ho,hv =>
     cases ho;cases hv;refine .inl ⟨rfl,fun done a W hd hp hk hw K hK=>?_⟩;have e0:=hk.same 0 (by decide);exact op_val (by simp [go_sem,ev' e0]) (hK _ (⟨hw.1,by rw [upd_ne' (by decide)];exact hw.2.1,fun h=>by rw [upd_ne' (by decide)] at h;exact ⟨by first | exact upd_same' | (rw [upd_ne' (by decide)];exact (hw.2.2 h).1),by first | exact upd_same' | (rw [upd_ne' (by decide)];exact (hw.2.2 h).2)⟩⟩))
    | 5,ho,hv =>
     cases ho;cases hv;refine .inl ⟨rfl,fun done a W hd hp hk hw K hK=>?_⟩;have e3:=hk.same 3 (by decide);exact op_val (by simp [go_sem,ev' e3]) (hK _ (⟨hw.1,by rw [upd_ne' (by decide)];exact hw.2.1,fun h=>by rw [upd_ne' (by decide)] at h;exact ⟨by first | exact upd_same' | (rw [upd_ne' (by decide)];exact (hw.2.2 h).1),by first | exact upd_same' | (rw [upd_ne' (by decide)];exact (hw.2.2 h).2)⟩⟩))
    | 6,ho,hv =>
     cases ho;cases hv;refine .inl ⟨rfl,fun done a W hd hp hk hw K hK=>?_⟩;have e18:=hk.at_ 4 _ 18 _ rfl (by decide) _ rfl rfl rfl;have e19:=hk.at_ 5 _ 19 _ rfl (by decide) _ rfl rfl rfl;exact op_val (by simp [go_sem,ev' e18,ev' e19,ij]) (hK _ (⟨hw.1,by rw [upd_ne' (by decide)];exact hw.2.1,fun h=>by rw [upd_ne' (by decide)] at h;exact ⟨by first | exact upd_same' | (rw [upd_ne' (by decide)];exact (hw.2.2 h).1),by first | exact upd_same' | (rw [upd_ne' (by decide)];exact (hw.2.2 h).2)⟩⟩))
    | 7,ho,hv =>
     cases ho;cases hv;refine .inl ⟨rfl,fun done a W hd hp hk hw K hK=>?_⟩;have e20:=hk.at_ 6 _ 20 _ rfl (by decide) _ rfl rfl rfl;have h12:done 13 = false:=(by rcases Bool.eq_false_or_eq_true (done 13) with h | h;(exact absurd ((hw.2.2 h).2) (by rw [show done 7 = false from hd];decide));exact h);have hw4:=hw.2.1;rw [h12,if_neg (by decide)] at hw4;have c1:=(hw4.cell (j * 2)).trans b1;have c2:=(hw4.cell (j * 2 + 1)).trans b2;exact op_val (by simp [go_sem,ev' e20,c1,c2]) (hK _ ⟨hw.1,by rw [upd_ne' (by decide)];exact hw.2.1,fun h=>by rw [upd_ne' (by decide),h12] at h;cases h⟩)
    | 8,ho,hv =>
     cases ho;cases hv;refine .inl ⟨rfl,fun done a W hd hp hk hw K hK=>?_⟩;have e0:=hk.same 0 (by decide);exact op_val (by simp [go_sem,ev' e0]) (hK _ (⟨hw.1,by rw [upd_ne' (by decide)];exact hw.2.1,fun h=>by rw [upd_ne' (by decide)] at h;exact ⟨by first | exact upd_same' | (rw [upd_ne' (by decide)];exact (hw.2.2 h).1),by first | exact upd_same' | (rw [upd_ne' (by decide)];exact (hw.2.2 h).2)⟩⟩))
    | 9,ho,hv =>
     cases ho;cases hv;refine .inl ⟨rfl,fun done a W hd hp hk hw K hK=>?_⟩;have e2:=hk.same 2 (by decide);exact op_val (by simp [go_sem,ev' e2]) (hK _ (⟨hw.1,by rw [upd_ne' (by decide)];exact hw.2.1,fun h=>by rw [upd_ne' (by decide)] at h;exact ⟨by first | exact upd_same' | (rw [upd_ne' (by decide)];exact (hw.2.2 h).1),by first | exact upd_same' | (rw [upd_ne' (by decide)];exact (hw.2.2 h).2)⟩⟩))
    | 10,ho,hv =>
     cases ho;cases hv;refine .inl ⟨rfl,fun done a W hd hp hk hw K hK=>?_⟩;have e22:=hk.at_ 8 _ 22 _ rfl (by decide) _ rfl rfl rfl;have e23:=hk.at_ 9 _ 23 _ rfl (by decide) _ rfl rfl rfl;exact op_val (by simp [go_sem,ev' e22,ev' e23,ik]) (hK _ (⟨hw.1,by rw [upd_ne' (by decide)];exact hw.2.1,fun h=>by rw [upd_ne' (by decide)] at h;exact ⟨by first | exact upd_same' | (rw [upd_ne' (by decide)];exact (hw.2.2 h).1),by first | exact upd_same' | (rw [upd_ne' (by decide)];exact (hw.2.2 h).2)⟩⟩))
    | 11,ho,hv =>
     cases ho;cases hv;refine .inl ⟨rfl,fun done a W hd hp hk hw K hK=>?_⟩;have e24:=hk.at_ 10 _ 24 _ rfl (by decide) _ rfl rfl rfl;have h12:done 13 = false:=(by rcases Bool.eq_false_or_eq_true (done 13) with h | h;(exact absurd ((hw.2.2 h).1) (by rw [show done 11 = false from hd];decide));exact h);have hw4:=hw.2.1;rw [h12,if_neg (by decide)] at hw4;have c1:=(hw4.cell (k * 2)).trans a1;have c2:=(hw4.cell (k * 2 + 1)).trans a2;exact op_val (by simp [go_sem,ev' e24,c1,c2]) (hK _ ⟨hw.1,by rw [upd_ne' (by decide)];exact hw.2.1,fun h=>by rw [upd_ne' (by decide),h12] at h;cases h⟩)
    | 12,ho,hv =>
     cases ho;cases hv;refine .inl ⟨rfl,fun done a W hd hp hk hw K hK=>?_⟩;have e14:=hk.at_ 0 _ 14 _ rfl (by decide) _ rfl rfl rfl;have e15:=hk.at_ 1 _ 15 _ rfl (by decide) _ rfl rfl rfl;exact op_val (by simp [go_sem,ev' e14,ev' e15,ik]) (hK _ (⟨hw.1,by rw [upd_ne' (by decide)];exact hw.2.1,fun h=>by rw [upd_ne' (by decide)] at h;exact ⟨by first | exact upd_same' | (rw [upd_ne' (by decide)];exact (hw.2.2 h).1),by first | exact upd_same' | (rw [upd_ne' (by decide)];exact (hw.2.2 h).2)⟩⟩))
    | 13,ho,hv =>
     cases ho;cases hv;refine .inl ⟨rfl,fun done a W hd hp hk hw K hK=>?_⟩;have e21:=hk.at_ 7 _ 21 _ rfl (by decide) _ rfl rfl rfl;have e26:=hk.at_ 12 _ 26 _ rfl (by decide) _ rfl rfl rfl;have h12:done 13 = false:=hd;have hw4:=hw.2.1;rw [h12,if_neg (by decide)] at hw4;have c1:=(hw4.cell (k * 2)).trans a1;have c2:=(hw4.cell (k * 2 + 1)).trans a2;have c3:=hw4.frozen (k * 2);have c4:=hw4.frozen (k * 2 + 1);have c5:=hw4.lt;refine op_skipW (w':=(W.setCell ⟨g,k * 2,none⟩ (.int .i64 y1)).setCell ⟨g,k * 2 + 1,none⟩ (.bool y2)) (by simp [go_sem,ev' e26,ev' e21,c1,c2,c3,c4,c5]) (hK _ ⟨only_setCell (only_setCell hw.1 (.inl rfl) _) (.inl rfl) _,?_,fun _=>⟨by rw [upd_ne' (by decide)];exact hp 11 (by decide),by rw [upd_ne' (by decide)];exact hp 7 (by decide)⟩⟩);rw [show Go.upd done 13 13 = true from rfl,if_pos rfl];exact (hw4.store _ _).store _ _
    | 14,ho,hv =>
     cases ho;cases hv;refine .inl ⟨rfl,fun done a W hd hp hk hw K hK=>?_⟩;have e16:=hk.at_ 2 _ 16 _ rfl (by decide) _ rfl rfl rfl;have e17:=hk.at_ 3 _ 17 _ rfl (by decide) _ rfl rfl rfl;exact op_val (by simp [go_sem,ev' e16,ev' e17,ij]) (hK _ (⟨hw.1,by rw [upd_ne' (by decide)];exact hw.2.1,fun h=>by rw [upd_ne' (by decide)] at h;exact ⟨by first | exact upd_same' | (rw [upd_ne' (by decide)];exact (hw.2.2 h).1),by first | exact upd_same' | (rw [upd_ne' (by decide)];exact (hw.2.2 h).2)⟩⟩))
    | _ + 15,_,hv=>cases hv
   intro done W hd hw;simp only [List.drop_succ_cons,List.drop_zero,List.zip_cons_cons,List.zip_nil_right,putAll];simp only [Act.put,List.setIfInBounds_toArray,List.set];have hw2:=hw.2.1;rw [hd 13 (by decide),if_pos rfl] at hw2;have hsz2:=HS.out;obtain ⟨c1,c2⟩:=(show Recs (fun x:Int × Bool=>.int .i64 x.1) (fun x:Int × Bool=>.bool x.2) _ _ from (HM1.out.set k (y1,y2))).2 j (by simpa using hjm);have q1:=(hw2.cell (j * 2)).trans c1;have q2:=(hw2.cell (j * 2 + 1)).trans c2;have q3:=hw2.frozen (j * 2);have q4:=hw2.frozen (j * 2 + 1);have q5:=hw2.lt;have HW2:=Lib.hid hw2;have HW1:=Lib.hid hw.1;clear hw hw2 hd c1 c2 a1 a2 b1 b2 HI0;have eJ:(j:Int) - 1 = (l.length:Int) - 1 - ((k + 1:Nat):Int):=by omega
   have EJ:=Lib.hid eJ;clear eJ t1 t1';go_wp2_with fail
   refine ⟨⟨k + 1,by go_num,by rw [EJ.out],by omega,only_setCell (only_setCell HW1.out (.inl rfl) _) (.inl rfl) _,_,_,by simp [hsz2],(HW2.out.store _ _).store _ _,HSET.out,hst2.out⟩,by simp [intOf];omega⟩
  ·have HD:=Lib.hid (HM2.out.done (by omega));have hlt':decide ((k:Int) < (l.length:Int) - 1 - k) = false:=by simpa using hlt
   go_wp2;go_end0;exact ⟨rfl,HG.out,cs',HS.out,HB.out,HM1.out.of_eq HD.out⟩
theorem reverseLeg {w:World} {base:Nat} {v:Value} {l:List (Int × Bool)} (h:w.ownsRow base 34 2 v l.length (l.flatMap encG)) (hl:l.length <= 17592186043904) :
  Calls Tryz.prog 123 #[v] w fun e w'=>e = .returned (.tuple #[]) /\ w.grownBy w' v.ownBlock /\ w'.ownsRow base 34 2 v l.length (l.reverse.flatMap encG):=by
 rcases own_recs (e1:=(fun x:Int × Bool=>.int .i64 x.1)) (e2:=(fun x:Int × Bool=>.bool x.2)) h with ⟨rfl,rfl⟩ | ⟨g,c,cs,rfl,hg,hb,hn,hs,hlc,hm⟩
 ·go_enter Tryz.func123,Tryz.ntmps123;go_wp2;refine wp_loop_rounds 1 ?_;rw [rounds_succ];go_wp2;go_end0;exact ⟨rfl,only_refl _ _,h⟩
 ·refine (reverseLeg_blk g l c cs w hl hb hn).mono fun e w' ⟨he,hgr,cs',hs',hb',hn'⟩=>⟨he,hgr,?_⟩
  have:=recs_own (base:=base) (c:=c) hg hb' hn' (by omega) (by simpa using hlc) hm;rw [List.length_reverse] at this;exact this
theorem clonePair (A:Option Addr) (l:List (Int × Int)) (c:Nat) (w:World) (hA:RowsP w A 2 (FlatR enc2) l) :
  Calls Tryz.prog 83 #[.slice A l.length c] w (OwnF 67 2 enc2 w l):=by
 have hl:=hA.len (by decide);have hb:l.length * 16 <= 140737488355328:=by have:=hA.1;omega
 have qT:∀ (w:World) (a:Option Addr) (n c n' c':Nat),(binOp .eql 68 (.slice a n c) (.slice none n' c')).run Tryz.prog w = .ok (.bool a.isNone) w:=fun w a n c n' c'=>Lib.run_eql_slice_nil w _ _ a n c n' c' Tryz.underlying68
 cases A with
 | none =>
  have h0:=rows_nil hA rfl;have:l = []:=List.eq_nil_of_length_eq_zero h0;subst this;go_enter Tryz.func83,Tryz.ntmps83;go_wp2;go_ret;exact ⟨_,rfl,World.ownsRow_nil w _ 67 2,Aft.refl _⟩
 | some ad =>
  go_enter Tryz.func83,Tryz.ntmps83;go_wp2_with (at_builtin;refine wpList_app ty49 rfl _ _ rfl (Aft.alloc w _) rfl (World.ownsRow_made w #[] 0 (Nat.le_refl _) (by unfold maxLen;omega) rfl) rfl (flat_len (enc:=enc2) (sz:=2) (fun _=>rfl) l) (fun h=>by cases h) (rows_src (enc:=enc2) (fun _=>rfl) (by decide) (hA.aft FlatR.mono (Aft.alloc w _))) (enc2_one l) (by omega) (by decide) ?_;intro v' w1 hown' hgrow haft)
  go_ret;exact ⟨_,rfl,by simpa using hown',haft⟩
set_option maxRecDepth 100000 in
set_option maxHeartbeats 2000000 in
theorem reversePair_blk (g:Nat) (l:List (Int × Int)) (c:Nat) (cs:Array Value) (w:World) (hl:l.length <= 17592186043904) (hb:Blk w g 67 cs) (hc:Recs (fun x:Int × Int=>.int .i64 x.1) (fun x:Int × Int=>.int .i64 x.2) cs l) :
  Calls Tryz.prog 84 #[.slice (some ⟨g,0,none⟩) l.length c] w fun e w'=>e = .returned (.tuple #[]) /\ w.grownBy w' (some g) /\ ∃ cs',cs'.size = cs.size /\ Blk w' g 67 cs' /\ Recs (fun x:Int × Int=>.int .i64 x.1) (fun x:Int × Int=>.int .i64 x.2) cs' l.reverse:=by
 go_enter Tryz.func84,Tryz.ntmps84;go_wp2;go_loopw [2,3] (fun i j wr=>∃ k:Nat,i = .int .i64 k /\ j = .int .i64 ((l.length:Int) - 1 - k) /\ 2 * k <= l.length + 1 /\ w.grownBy wr (some g) /\ ∃ m:List (Int × Int),∃ cs',cs'.size = cs.size /\ Blk wr g 67 cs' /\ Recs (fun x:Int × Int=>.int .i64 x.1) (fun x:Int × Int=>.int .i64 x.2) cs' m /\ RevAt l m k)
  (fun i _ _=>l.length - (intOf i).toNat)
 case atStart=>exact ⟨0,rfl,by simp,by omega,only_refl _ _,l,cs,rfl,hb,hc,rfl,fun t ht ht'=>by rw [if_neg (by omega)]⟩
 case round =>
  obtain ⟨k,rfl,rfl,hk,hg,m,cs',hs,hb',hm1,hm2⟩:=hrel;have hm:=hm2.1;have HG:=Lib.hid hg;have HS:=Lib.hid hs;have HB:=Lib.hid hb';have HM1:=Lib.hid hm1;have HM2:=Lib.hid hm2;clear hg hs hb' hm1 hm2;by_cases hlt:(k:Int) < (l.length:Int) - 1 - k
  ·obtain ⟨j,hj⟩:∃ j:Nat,(l.length:Int) - 1 - k = j:=⟨l.length - 1 - k,by omega⟩;rw [hj] at hlt ⊢;have hjn:l.length - 1 - k = j:=by omega
   have hkm:k < m.length:=by omega
   have hjm:j < m.length:=by omega
   obtain ⟨a1,a2⟩:=HM1.out.2 k hkm;obtain ⟨b1,b2⟩:=HM1.out.2 j hjm;have hsz:=HM1.out.1
   have hst:RevAt l ((m.set k m[j]).set j m[k]) (k + 1):=by
    have h0:=HM2.out.step (k:=k) (by omega) (by omega) hkm;simp only [hjn] at h0;exact h0
   have HSET:=Lib.hid ((HM1.out.set k m[j]).set j m[k]);have ik:(0:Int) <= (k:Int) /\ (k:Int) < (l.length:Int):=by omega
   have ij:(0:Int) <= (j:Int) /\ (j:Int) < (l.length:Int):=by omega
   obtain ⟨p1,hp1⟩:∃ p,m[k] = p:=⟨_,rfl⟩;obtain ⟨p2,hp2⟩:∃ p,m[j] = p:=⟨_,rfl⟩;rw [hp1] at a1 a2 HSET;rw [hp2] at b1 b2 HSET;rw [hp1,hp2] at hst;have hst2:=Lib.hid hst;clear hst hp1 hp2 hm;obtain ⟨x1,x2⟩:=p1;obtain ⟨y1,y2⟩:=p2;dsimp only at a1 a2 b1 b2 HSET;have t1:decide ((k:Int) < (j:Int)) = true:=by simp;omega
   have t1':decide (k < j) = true:=by simp;omega
   have hbl:=HB.out.lt;clear hj;go_upto_region 3 with fail
   have HI0:Hid (Blk wr.drew g 67 cs' /\ w.grownBy wr.drew (some g)):=Lib.hid ⟨HB.out.drew,only_drew HG.out⟩;refine wp_region_valsT (by kernel_rfl) 15 28 rfl (by kernel_rfl) (by kernel_rfl) (by kernel_rfl) [.slice (some ⟨g,0,none⟩) l.length c,.int .i64 (k:Nat),.slice (some ⟨g,0,none⟩) l.length c,.int .i64 (j:Nat),.slice (some ⟨g,0,none⟩) l.length c,.int .i64 (j:Nat),.pointer (some ⟨g,j * 2,none⟩),.agg #[.int .i64 y1,.int .i64 y2],.slice (some ⟨g,0,none⟩) l.length c,.int .i64 (k:Nat),.pointer (some ⟨g,k * 2,none⟩),.agg #[.int .i64 x1,.int .i64 x2],.pointer (some ⟨g,k * 2,none⟩),undef,.pointer (some ⟨g,j * 2,none⟩)] rfl (fun done W=>w.grownBy W (some g) /\ Blk W g 67 (if done 13 = true then (cs'.setIfInBounds (k * 2) (.int .i64 y1)).setIfInBounds (k * 2 + 1) (.int .i64 y2) else cs') /\ (done 13 = true -> done 11 = true /\ done 7 = true)) (⟨HI0.out.2,HI0.out.1,fun h=>by cases h⟩) ?st2 ?fi2
   case st2 =>
    intro i o v ho hv
    match i,ho,hv with
    | 0,ho,hv =>
     cases ho;cases hv;refine .inl ⟨rfl,fun done a W hd hp hk hw K hK=>?_⟩;have e0:=hk.same 0 (by decide);exact op_val (by simp [go_sem,ev' e0]) (hK _ (⟨hw.1,by rw [upd_ne' (by decide)];exact hw.2.1,fun h=>by rw [upd_ne' (by decide)] at h;exact ⟨by first | exact upd_same' | (rw [upd_ne' (by decide)];exact (hw.2.2 h).1),by first | exact upd_same' | (rw [upd_ne' (by decide)];exact (hw.2.2 h).2)⟩⟩))
    | 1,ho,hv =>
     cases ho;cases hv;refine .inl ⟨rfl,fun done a W hd hp hk hw K hK=>?_⟩;have e2:=hk.same 2 (by decide);exact op_val (by simp [go_sem,ev' e2]) (hK _ (⟨hw.1,by rw [upd_ne' (by decide)];exact hw.2.1,fun h=>by rw [upd_ne' (by decide)] at h;exact ⟨by first | exact upd_same' | (rw [upd_ne' (by decide)];exact (hw.2.2 h).1),by first | exact upd_same' | (rw [upd_ne' (by decide)];exact (hw.2.2 h).2)⟩⟩))
    | 2,ho,hv =>
     cases ho;cases hv;refine .inl ⟨rfl,fun done a W hd hp hk hw K hK=>?_⟩;have e0:=hk.same 0 (by decide);exact op_val (by simp [go_sem,ev' e0]) (hK _ (⟨hw.1,by rw [upd_ne' (by decide)];exact hw.2.1,fun h=>by rw [upd_ne' (by decide)] at h;exact ⟨by first | exact upd_same' | (rw [upd_ne' (by decide)];exact (hw.2.2 h).1),by first | exact upd_same' | (rw [upd_ne' (by decide)];exact (hw.2.2 h).2)⟩⟩))
    | 3,ho,hv =>
     cases ho;cases hv;refine .inl ⟨rfl,fun done a W hd hp hk hw K hK=>?_⟩;have e3:=hk.same 3 (by decide);exact op_val (by simp [go_sem,ev' e3]) (hK _ (⟨hw.1,by rw [upd_ne' (by decide)];exact hw.2.1,fun h=>by rw [upd_ne' (by decide)] at h;exact ⟨by first | exact upd_same' | (rw [upd_ne' (by decide)];exact (hw.2.2 h).1),by first | exact upd_same' | (rw [upd_ne' (by decide)];exact (hw.2.2 h).2)⟩⟩))
    | 4,ho,hv =>
     cases ho;cases hv;refine .inl ⟨rfl,fun done a W hd hp hk hw K hK=>?_⟩;have e0:=hk.same 0 (by decide);exact op_val (by simp [go_sem,ev' e0]) (hK _ (⟨hw.1,by rw [upd_ne' (by decide)];exact hw.2.1,fun h=>by rw [upd_ne' (by decide)] at h;exact ⟨by first | exact upd_same' | (rw [upd_ne' (by decide)];exact (hw.2.2 h).1),by first | exact upd_same' | (rw [upd_ne' (by decide)];exact (hw.2.2 h).2)⟩⟩))
    | 5,ho,hv =>
     cases ho;cases hv;refine .inl ⟨rfl,fun done a W hd hp hk hw K hK=>?_⟩;have e3:=hk.same 3 (by decide);exact op_val (by simp [go_sem,ev' e3]) (hK _ (⟨hw.1,by rw [upd_ne' (by decide)];exact hw.2.1,fun h=>by rw [upd_ne' (by decide)] at h;exact ⟨by first | exact upd_same' | (rw [upd_ne' (by decide)];exact (hw.2.2 h).1),by first | exact upd_same' | (rw [upd_ne' (by decide)];exact (hw.2.2 h).2)⟩⟩))
    | 6,ho,hv =>
     cases ho;cases hv;refine .inl ⟨rfl,fun done a W hd hp hk hw K hK=>?_⟩;have e18:=hk.at_ 4 _ 18 _ rfl (by decide) _ rfl rfl rfl;have e19:=hk.at_ 5 _ 19 _ rfl (by decide) _ rfl rfl rfl;exact op_val (by simp [go_sem,ev' e18,ev' e19,ij]) (hK _ (⟨hw.1,by rw [upd_ne' (by decide)];exact hw.2.1,fun h=>by rw [upd_ne' (by decide)] at h;exact ⟨by first | exact upd_same' | (rw [upd_ne' (by decide)];exact (hw.2.2 h).1),by first | exact upd_same' | (rw [upd_ne' (by decide)];exact (hw.2.2 h).2)⟩⟩))
    | 7,ho,hv =>
     cases ho;cases hv;refine .inl ⟨rfl,fun done a W hd hp hk hw K hK=>?_⟩;have e20:=hk.at_ 6 _ 20 _ rfl (by decide) _ rfl rfl rfl;have h12:done 13 = false:=(by rcases Bool.eq_false_or_eq_true (done 13) with h | h;(exact absurd ((hw.2.2 h).2) (by rw [show done 7 = false from hd];decide));exact h);have hw4:=hw.2.1;rw [h12,if_neg (by decide)] at hw4;have c1:=(hw4.cell (j * 2)).trans b1;have c2:=(hw4.cell (j * 2 + 1)).trans b2;exact op_val (by simp [go_sem,ev' e20,c1,c2]) (hK _ ⟨hw.1,by rw [upd_ne' (by decide)];exact hw.2.1,fun h=>by rw [upd_ne' (by decide),h12] at h;cases h⟩)
    | 8,ho,hv =>
     cases ho;cases hv;refine .inl ⟨rfl,fun done a W hd hp hk hw K hK=>?_⟩;have e0:=hk.same 0 (by decide);exact op_val (by simp [go_sem,ev' e0]) (hK _ (⟨hw.1,by rw [upd_ne' (by decide)];exact hw.2.1,fun h=>by rw [upd_ne' (by decide)] at h;exact ⟨by first | exact upd_same' | (rw [upd_ne' (by decide)];exact (hw.2.2 h).1),by first | exact upd_same' | (rw [upd_ne' (by decide)];exact (hw.2.2 h).2)⟩⟩))
    | 9,ho,hv =>
     cases ho;cases hv;refine .inl ⟨rfl,fun done a W hd hp hk hw K hK=>?_⟩;have e2:=hk.same 2 (by decide);exact op_val (by simp [go_sem,ev' e2]) (hK _ (⟨hw.1,by rw [upd_ne' (by decide)];exact hw.2.1,fun h=>by rw [upd_ne' (by decide)] at h;exact ⟨by first | exact upd_same' | (rw [upd_ne' (by decide)];exact (hw.2.2 h).1),by first | exact upd_same' | (rw [upd_ne' (by decide)];exact (hw.2.2 h).2)⟩⟩))
    | 10,ho,hv =>
     cases ho;cases hv;refine .inl ⟨rfl,fun done a W hd hp hk hw K hK=>?_⟩;have e22:=hk.at_ 8 _ 22 _ rfl (by decide) _ rfl rfl rfl;have e23:=hk.at_ 9 _ 23 _ rfl (by decide) _ rfl rfl rfl;exact op_val (by simp [go_sem,ev' e22,ev' e23,ik]) (hK _ (⟨hw.1,by rw [upd_ne' (by decide)];exact hw.2.1,fun h=>by rw [upd_ne' (by decide)] at h;exact ⟨by first | exact upd_same' | (rw [upd_ne' (by decide)];exact (hw.2.2 h).1),by first | exact upd_same' | (rw [upd_ne' (by decide)];exact (hw.2.2 h).2)⟩⟩))
    | 11,ho,hv =>
     cases ho;cases hv;refine .inl ⟨rfl,fun done a W hd hp hk hw K hK=>?_⟩;have e24:=hk.at_ 10 _ 24 _ rfl (by decide) _ rfl rfl rfl;have h12:done 13 = false:=(by rcases Bool.eq_false_or_eq_true (done 13) with h | h;(exact absurd ((hw.2.2 h).1) (by rw [show done 11 = false from hd];decide));exact h);have hw4:=hw.2.1;rw [h12,if_neg (by decide)] at hw4;have c1:=(hw4.cell (k * 2)).trans a1;have c2:=(hw4.cell (k * 2 + 1)).trans a2;exact op_val (by simp [go_sem,ev' e24,c1,c2]) (hK _ ⟨hw.1,by rw [upd_ne' (by decide)];exact hw.2.1,fun h=>by rw [upd_ne' (by decide),h12] at h;cases h⟩)
    | 12,ho,hv =>
     cases ho;cases hv;refine .inl ⟨rfl,fun done a W hd hp hk hw K hK=>?_⟩;have e14:=hk.at_ 0 _ 14 _ rfl (by decide) _ rfl rfl rfl;have e15:=hk.at_ 1 _ 15 _ rfl (by decide) _ rfl rfl rfl;exact op_val (by simp [go_sem,ev' e14,ev' e15,ik]) (hK _ (⟨hw.1,by rw [upd_ne' (by decide)];exact hw.2.1,fun h=>by rw [upd_ne' (by decide)] at h;exact ⟨by first | exact upd_same' | (rw [upd_ne' (by decide)];exact (hw.2.2 h).1),by first | exact upd_same' | (rw [upd_ne' (by decide)];exact (hw.2.2 h).2)⟩⟩))
    | 13,ho,hv =>
     cases ho;cases hv;refine .inl ⟨rfl,fun done a W hd hp hk hw K hK=>?_⟩;have e21:=hk.at_ 7 _ 21 _ rfl (by decide) _ rfl rfl rfl;have e26:=hk.at_ 12 _ 26 _ rfl (by decide) _ rfl rfl rfl;have h12:done 13 = false:=hd;have hw4:=hw.2.1;rw [h12,if_neg (by decide)] at hw4;have c1:=(hw4.cell (k * 2)).trans a1;have c2:=(hw4.cell (k * 2 + 1)).trans a2;have c3:=hw4.frozen (k * 2);have c4:=hw4.frozen (k * 2 + 1);have c5:=hw4.lt;refine op_skipW (w':=(W.setCell ⟨g,k * 2,none⟩ (.int .i64 y1)).setCell ⟨g,k * 2 + 1,none⟩ (.int .i64 y2)) (by simp [go_sem,ev' e26,ev' e21,c1,c2,c3,c4,c5]) (hK _ ⟨only_setCell (only_setCell hw.1 (.inl rfl) _) (.inl rfl) _,?_,fun _=>⟨by rw [upd_ne' (by decide)];exact hp 11 (by decide),by rw [upd_ne' (by decide)];exact hp 7 (by decide)⟩⟩);rw [show Go.upd done 13 13 = true from rfl,if_pos rfl];exact (hw4.store _ _).store _ _
    | 14,ho,hv =>
     cases ho;cases hv;refine .inl ⟨rfl,fun done a W hd hp hk hw K hK=>?_⟩;have e16:=hk.at_ 2 _ 16 _ rfl (by decide) _ rfl rfl rfl;have e17:=hk.at_ 3 _ 17 _ rfl (by decide) _ rfl rfl rfl;exact op_val (by simp [go_sem,ev' e16,ev' e17,ij]) (hK _ (⟨hw.1,by rw [upd_ne' (by decide)];exact hw.2.1,fun h=>by rw [upd_ne' (by decide)] at h;exact ⟨by first | exact upd_same' | (rw [upd_ne' (by decide)];exact (hw.2.2 h).1),by first | exact upd_same' | (rw [upd_ne' (by decide)];exact (hw.2.2 h).2)⟩⟩))
    | _ + 15,_,hv=>cases hv
   intro done W hd hw;simp only [List.drop_succ_cons,List.drop_zero,List.zip_cons_cons,List.zip_nil_right,putAll];simp only [Act.put,List.setIfInBounds_toArray,List.set];have hw2:=hw.2.1;rw [hd 13 (by decide),if_pos rfl] at hw2;have hsz2:=HS.out;obtain ⟨c1,c2⟩:=(show Recs (fun x:Int × Int=>.int .i64 x.1) (fun x:Int × Int=>.int .i64 x.2) _ _ from (HM1.out.set k (y1,y2))).2 j (by simpa using hjm);have q1:=(hw2.cell (j * 2)).trans c1;have q2:=(hw2.cell (j * 2 + 1)).trans c2;have q3:=hw2.frozen (j * 2);have q4:=hw2.frozen (j * 2 + 1);have q5:=hw2.lt;have HW2:=Lib.hid hw2;have HW1:=Lib.hid hw.1;clear hw hw2 hd c1 c2 a1 a2 b1 b2 HI0;have eJ:(j:Int) - 1 = (l.length:Int) - 1 - ((k + 1:Nat):Int):=by omega
   have EJ:=Lib.hid eJ;clear eJ t1 t1';go_wp2_with fail
   refine ⟨⟨k + 1,by go_num,by rw [EJ.out],by omega,only_setCell (only_setCell HW1.out (.inl rfl) _) (.inl rfl) _,_,_,by simp [hsz2],(HW2.out.store _ _).store _ _,HSET.out,hst2.out⟩,by simp [intOf];omega⟩
  ·have HD:=Lib.hid (HM2.out.done (by omega));have hlt':decide ((k:Int) < (l.length:Int) - 1 - k) = false:=by simpa using hlt
   go_wp2;go_end0;exact ⟨rfl,HG.out,cs',HS.out,HB.out,HM1.out.of_eq HD.out⟩
theorem reversePair {w:World} {base:Nat} {v:Value} {l:List (Int × Int)} (h:w.ownsRow base 67 2 v l.length (l.flatMap enc2)) (hl:l.length <= 17592186043904) :
  Calls Tryz.prog 84 #[v] w fun e w'=>e = .returned (.tuple #[]) /\ w.grownBy w' v.ownBlock /\ w'.ownsRow base 67 2 v l.length (l.reverse.flatMap enc2):=by
 rcases own_recs (e1:=(fun x:Int × Int=>.int .i64 x.1)) (e2:=(fun x:Int × Int=>.int .i64 x.2)) h with ⟨rfl,rfl⟩ | ⟨g,c,cs,rfl,hg,hb,hn,hs,hlc,hm⟩
 ·go_enter Tryz.func84,Tryz.ntmps84;go_wp2;refine wp_loop_rounds 1 ?_;rw [rounds_succ];go_wp2;go_end0;exact ⟨rfl,only_refl _ _,h⟩
 ·refine (reversePair_blk g l c cs w hl hb hn).mono fun e w' ⟨he,hgr,cs',hs',hb',hn'⟩=>⟨he,hgr,?_⟩
  have:=recs_own (base:=base) (c:=c) hg hb' hn' (by omega) (by simpa using hlc) hm;rw [List.length_reverse] at this;exact this
end Go.Proofs
end
section
/- Words: the way back: own boxes;what it finds,in plain words. -/
namespace Go.Proofs
open Go.RowKit
structure Fr (w:World) (B:Nat) (bs:List (Nat × TypeId × Array Value)) (W:World):Prop where
 aft:Aft w W
 blks:∀ x ∈ bs,x.1 < B /\ w.heap.size <= x.1 /\ Blk W x.1 x.2.1 x.2.2
 size:B <= W.heap.size
 ge:w.heap.size <= B
section
variable {w W W':World} {B:Nat} {bs:List (Nat × TypeId × Array Value)}
theorem Fr.start (w:World):Fr w w.heap.size [] w:=⟨Aft.refl _,(fun x hx=>by cases hx),Nat.le_refl _,Nat.le_refl _⟩
theorem Fr.alloc (h:Fr w B bs W) (hB:W.heap.size = B) (t:TypeId) (cs:Array Value):Fr w (B + 1) (bs ++ [(B,t,cs)]) (W.alloc (.cells cs t)) :=
 ⟨h.aft.then_alloc _,fun x hx=>by
  rcases List.mem_append.1 hx with hx | hx
  ·obtain ⟨h1,h2,h3⟩:=h.blks x hx;exact ⟨by omega,h2,h3.alloc _⟩
  ·rw [List.mem_singleton] at hx;subst hx;subst hB;exact ⟨by simp,h.ge,Blk.new _ _ _⟩,by rw [World.size_alloc];omega,by have:=h.ge;omega⟩
theorem Fr.later (h:Fr w B bs W) (ha:Aft W W'):Fr w B bs W':=⟨h.aft.trans ha,fun x hx=>let ⟨h1,h2,h3⟩:=h.blks x hx;⟨h1,h2,h3.aft ha⟩,Nat.le_trans h.size ha.size,h.ge⟩
theorem Fr.grown (h:Fr w B bs W) {row:Option Nat} (hg:W.grownBy W' row) (hr:∀ r,row = some r -> B <= r):Fr w B bs W' :=
 ⟨h.aft.grown hg (fun k e=>Nat.le_trans h.ge (hr k e)),fun x hx=>let ⟨h1,h2,h3⟩:=h.blks x hx;⟨h1,h2,h3.grown hg (fun e=>by have:=hr _ e.symm;omega)⟩,Nat.le_trans h.size hg.size,h.ge⟩
theorem Fr.nth (h:Fr w B bs W) (i:Nat) {g:Nat} {t:TypeId} {cs:Array Value} (hx:bs[i]? = some (g,t,cs)):Blk W g t cs:=(h.blks _ (List.mem_of_getElem? hx)).2.2
theorem Fr.store (h:Fr w B bs W) {g:Nat} {t:TypeId} {cs:Array Value} (hx:(g,t,cs) ∈ bs) (i:Nat) (v:Value) {bs':List (Nat × TypeId × Array Value)} (hs:∀ x ∈ bs',x = (g,t,cs.setIfInBounds i v) \/ (x ∈ bs /\ x.1 ≠ g)):Fr w B bs' (W.setCell ⟨g,i,none⟩ v) :=
 ⟨h.aft.then_setCell (h.blks _ hx).2.1 _,fun x hx'=>by
  rcases hs x hx' with rfl | ⟨h1,h2⟩
  ·exact ⟨(h.blks _ hx).1,(h.blks _ hx).2.1,(h.blks _ hx).2.2.store i v⟩
  ·exact ⟨(h.blks _ h1).1,(h.blks _ h1).2.1,(h.blks _ h1).2.2.far (p:=⟨g,i,none⟩) h2 _⟩,by have:=h.size;simpa [World.setCell] using this,h.ge⟩
end
def legI (g:Nat × Bool):Int × Bool:=(g.1,g.2)
structure Fol (J:List Sheet.Jo) (a n:Nat) (row:Nat -> Int) (by_:Nat -> Nat × Bool) (at_:Nat) (m:List Nat) (c:Nat):Prop where
 touched:∀ i,(h:i < m.length) -> Sheet.touched a row m[i] = true
 next:∀ i,(h:i < m.length) -> Sheet.from_ J (by_ m[i]) = (m ++ [c]).getD (i + 1) 0
 nodup:m.Nodup
 low:∀ x ∈ m,x < n
 cn:c < n
 met:row c ≠ Sheet.far
 head:(m ++ [c]).getD 0 0 = at_
def NilP (J:List Sheet.Jo) (a:Nat) (row:Nat -> Int) (by_:Nat -> Nat × Bool) (at_:Nat):Prop :=
 ∃ (f:Nat -> Nat) (m:Nat),(∀ j,j < m -> Sheet.touched a row (f j) = true) /\ (∀ j,j < m -> Sheet.from_ J (by_ (f j)) = f (j + 1)) /\ (∀ i j,i < j -> j <= m -> f i ≠ f j) /\ f 0 = at_ /\ Sheet.touched a row (f m) = false
theorem nodup_le {m:List Nat} {n:Nat} (h:m.Nodup) (hl:∀ x ∈ m,x < n):m.length <= n:=by
 refine Nat.le_of_not_lt fun hlt=>?_
 obtain ⟨i,j,hij,hj,e⟩:=Sheet.twice n (fun i=>m.getD i 0) fun i hi=>by
  have:i < m.length:=by omega
  simp only [List.getD_eq_getElem?_getD,List.getElem?_eq_getElem this,Option.getD_some];exact hl _ (List.getElem_mem this)
 have hi':i < m.length:=by omega
 have hj':j < m.length:=by omega
 simp only [List.getD_eq_getElem?_getD,List.getElem?_eq_getElem hi',List.getElem?_eq_getElem hj',Option.getD_some] at e;exact (List.pairwise_iff_getElem.1 h i j hi' hj' hij) e
section
variable {J:List Sheet.Jo} {a n at_ c:Nat} {row:Nat -> Int} {by_:Nat -> Nat × Bool} {m:List Nat}
theorem getD_snoc_lt {m:List Nat} {c i:Nat} (h:i < m.length):(m ++ [c]).getD i 0 = m[i]:=by
 rw [List.getD_eq_getElem?_getD,List.getElem?_append_left h,List.getElem?_eq_getElem h];rfl
theorem getD_snoc_last {m:List Nat} {c:Nat}:(m ++ [c]).getD m.length 0 = c:=by
 rw [List.getD_eq_getElem?_getD,List.getElem?_append_right (Nat.le_refl _),Nat.sub_self];rfl
theorem Fol.nilP (h:Fol J a n row by_ at_ m c) (hm:c ∉ m) (ht:Sheet.touched a row c = false):NilP J a row by_ at_:=by
 refine ⟨fun j=>(m ++ [c]).getD j 0,m.length,fun j hj=>?_,fun j hj=>?_,fun i j hij hj=>?_,h.head,?_⟩
 ·dsimp only;rw [getD_snoc_lt hj];exact h.touched j hj
 ·dsimp only;rw [getD_snoc_lt hj];exact h.next j hj
 ·dsimp only;rw [getD_snoc_lt (show i < m.length by omega)];by_cases e:j = m.length
  ·subst e;rw [getD_snoc_last];exact fun e=>hm (e ▸ List.getElem_mem _)
  ·rw [getD_snoc_lt (show j < m.length by omega)];exact List.pairwise_iff_getElem.1 h.nodup i j _ _ hij
 ·dsimp only;rw [getD_snoc_last];exact ht
theorem Fol.clash {D N:Int} (h:Fol J a n row by_ at_ m c) (hr:Sheet.RowI J D N a row by_) {k:Nat} (hk:k < m.length) (hc:m[k] = c):Sheet.Clash n J D N ((m.drop k).map by_).reverse:=by
 have hlen:((m.drop k).map by_).reverse.length = m.length - k:=by simp
 have hf:∀ j,(hj:j < m.length - k) -> (m ++ [c]).getD (k + j) 0 = m[k + j]'(by omega):=fun j hj=>getD_snoc_lt (by omega)
 have hfm:(m ++ [c]).getD (k + (m.length - k)) 0 = (m ++ [c]).getD (k + 0) 0:=by
  rw [hf 0 (by omega),show k + (m.length - k) = m.length by omega,getD_snoc_last];simpa using hc.symm
 obtain ⟨h1,h2⟩:=Sheet.back_round hr (f:=fun j=>(m ++ [c]).getD (k + j) 0) (m:=m.length - k) (by omega) hfm (fun j hj=>by rw [hf j hj];exact h.touched _ _) (fun j hj=>by rw [hf j hj];exact h.next _ _)
 have e:(List.range (m.length - k)).map (fun j=>by_ ((m ++ [c]).getD (k + j) 0)) = (m.drop k).map by_:=by
  refine List.ext_getElem (by simp) fun i h3 h4=>?_
  have hi:i < m.length - k:=by simpa using h3
  simp only [List.getElem_map,List.getElem_range,List.getElem_drop];rw [hf i hi]
 rw [e] at h1 h2;refine ⟨by rw [hlen];omega,by rw [hlen];have:=nodup_le h.nodup h.low;omega,_,h1,by rw [hlen];exact h2⟩
theorem Fol.step {D N:Int} (hJ:Sheet.Ok n J) (ha:a < n) (h:Fol J a n row by_ at_ m c) (hr:Sheet.RowI J D N a row by_) (hm:c ∉ m) (ht:Sheet.touched a row c = true):Fol J a n row by_ at_ (m ++ [c]) (Sheet.from_ J (by_ c)):=by
 refine ⟨fun i hi=>?_,fun i hi=>?_,?_,fun x hx=>?_,hr.met hJ ha (hr.back ht),hr.back ht,?_⟩
 ·by_cases e:i < m.length
  ·rw [List.getElem_append_left e];exact h.touched i e
  ·have:i = m.length:=by simp at hi;omega
   subst this;simpa using ht
 ·by_cases e:i < m.length
  ·rw [List.getElem_append_left e,h.next i e];rw [List.getD_eq_getElem?_getD,List.getD_eq_getElem?_getD,List.getElem?_append_left (l₁:=m ++ [c]) (by simp;omega)]
  ·have:i = m.length:=by simp at hi;omega
   subst this;rw [List.getElem_append_right (Nat.le_refl _)]
   simp
 ·rw [List.nodup_append];exact ⟨h.nodup,by simp,fun x hx y hy=>by rw [List.mem_singleton] at hy;subst hy;exact fun e=>hm (e ▸ hx)⟩
 ·rcases List.mem_append.1 hx with hx | hx
  ·exact h.low x hx
  ·rw [List.mem_singleton] at hx;subst hx;exact h.cn
 ·have:=h.head;rw [List.getD_eq_getElem?_getD] at this ⊢;rw [List.getElem?_append_left (by simp)];exact this
theorem Fol.start (hc:c < n) (hm:row c ≠ Sheet.far):Fol J a n row by_ c [] c:=⟨(fun i h=>by simp at h),(fun i h=>by simp at h),List.nodup_nil,(fun x h=>by cases h),hc,hm,rfl⟩
end
def FolR (w:World) (J:List Sheet.Jo) (D N:Int) (a n:Nat) (row:Nat -> Int) (by_:Nat -> Nat × Bool) (at_:Nat) (e:Ending) (w':World):Prop :=
 Aft w w' /\ ((e = .returned (.slice none 0 0) /\ NilP J a row by_ at_) \/ ∃ g c l,e = .returned (.slice (some ⟨g,0,none⟩) l.length c) /\ w'.ownsRow w.heap.size 34 2 (.slice (some ⟨g,0,none⟩) l.length c) l.length ((l.map legI).flatMap encG) /\ Sheet.Clash n J D N l)
end Go.Proofs
end
