/- Own texts, merged: Tg Th Rn5 Ti Tj Tk0 PEd Tk1 Rn6. -/
import Derived.Test.YthegmhnaiabcpaaGreatF14
import Derived.Maps.OwnSet
import Derived.DeepKeys4
import Derived.RangeFuncNested
set_option linter.unusedSimpArgs false
set_option linter.unusedVariables false
set_option linter.unnecessarySimpa false
section
/- Walks: asked whole;what Matches and Bars ask of each pair and row. -/
namespace Go.Proofs
open Go.RowKit
attribute [local go_sem] Oper.semAt_some
theorem asked_any (a b:List (Int × Int)) (play:Int) (A B:Option Addr) (ca cb:Nat) (w:World) (hA:Prs w A a) (hB:Prs w B b) :
  Calls Tryz.prog 80 #[.slice A a.length ca,.slice B b.length cb,.int .i64 play] w fun e w'=>(edgesE a b play ≠ 0 /\ e = .returned (.tuple #[.pointer none,.int .i64 (edgesE a b play)]) /\ Aft w w') \/ (edgesE a b play = 0 /\ ∃ x,e = .returned (.tuple #[.pointer (some ⟨x,0,none⟩),.int .i64 0]) /\ EdgesAt w w' x a b play A B ca cb):=by
 by_cases h1:30 < a.length \/ 30 < b.length
 ·have e:edgesE a b play = 3:=by unfold edgesE;rw [if_pos h1]
  refine (asked_count a b play A B ca cb w h1).mono ?_;rintro _ w' ⟨rfl,h⟩;exact .inl ⟨by rw [e];decide,by rw [e],h⟩
 ·have ha:a.length <= 30:=by omega
  have hb:b.length <= 30:=by omega
  by_cases h2:a.all markB = false \/ b.all markB = false \/ fromB play 0 1000000 = false
  ·have e:edgesE a b play = 4:=by unfold edgesE;rw [if_neg h1,if_pos h2]
   refine (asked_value a b play A B ca cb w hA hB ha hb h2).mono ?_;rintro _ w' ⟨rfl,h⟩;exact .inl ⟨by rw [e];decide,by rw [e],h⟩
  ·have g1:a.all markB = true:=by
    cases e:a.all markB
    ·exact absurd (.inl e) h2
    ·rfl
   have g2:b.all markB = true:=by
    cases e:b.all markB
    ·exact absurd (.inr (.inl e)) h2
    ·rfl
   have g3:fromB play 0 1000000 = true:=by
    cases e:fromB play 0 1000000
    ·exact absurd (.inr (.inr e)) h2
    ·rfl
   refine (asked_loop a b play A B ca cb w hA hB ha hb g1 g2 g3).mono ?_;rintro _ w' (⟨h3,rfl,h⟩ | ⟨h3,h4,x,rfl,h⟩)
   ·have e:edgesE a b play = 5:=by unfold edgesE;rw [if_neg h1,if_neg h2,if_pos h3]
    exact .inl ⟨by rw [e];decide,by rw [e],h⟩
   ·have e:edgesE a b play = 0:=by unfold edgesE;rw [if_neg h1,if_neg h2,if_neg (by simp [h3,h4])]
    exact .inr ⟨e,x,rfl,h⟩
theorem edgesE_ok {a b:List (Int × Int)} {play:Int} (h:edgesE a b play = 0):a.length <= 30 /\ b.length <= 30 /\ a.all markB = true /\ b.all markB = true /\ fromB play 0 1000000 = true /\ ordB a = true /\ ordB b = true:=by
 unfold edgesE at h;split at h
 ·cases h
 rename_i h1
 split at h
 ·cases h
 rename_i h2
 split at h
 ·cases h
 rename_i h3
 have k:∀ {x:Bool},¬ x = false -> x = true:=fun {x} h=>by cases x <;> simp_all
 exact ⟨by omega,by omega,k fun e=>h2 (.inl e),k fun e=>h2 (.inr (.inl e)),k fun e=>h2 (.inr (.inr e)),k fun e=>h3 (.inl e),k fun e=>h3 (.inr e)⟩
def inP (n m:Nat) (p:Int × Int):Bool:=fromB p.1 0 ((n:Int) - 1) && fromB p.2 0 ((m:Int) - 1)
theorem inp_any (n m s1 s2:Nat) (A B:Option Addr) (ca cb:Nat) (p:Int × Int) (w:World) (h1:Blk w s1 63 #[.slice A n ca]) (h2:Blk w s2 63 #[.slice B m cb]) (hn:n <= 17592186043904) (hm:m <= 17592186043904) :
  Calls Tryz.prog 86 #[.agg #[.int .i64 p.1,.int .i64 p.2],.pointer (some ⟨s1,0,none⟩),.pointer (some ⟨s2,0,none⟩)] w fun e w'=>e = .returned (.bool (inP n m p)) /\ Aft w w':=by
 obtain ⟨x,y⟩:=p;unfold inP;dsimp only;have ha:=Aft.alloc w (.cells #[.int .i64 x,.int .i64 y] 67);have HA:=Lib.hid ha;have y1:(w.alloc (.cells #[.int .i64 x,.int .i64 y] 67)).cell? ⟨s1,0,none⟩ = some (.slice A n ca):=(h1.aft ha).cell 0;have y2:=h1.lt;have y3:(w.alloc (.cells #[.int .i64 x,.int .i64 y] 67)).cell? ⟨s2,0,none⟩ = some (.slice B m cb):=(h2.aft ha).cell 0;have y4:=h2.lt;clear ha h1 h2;go_enter Tryz.func86,Tryz.ntmps86;cases h1:fromB x 0 ((n:Int) - 1)
 ·have H1:=Lib.hid h1;clear h1;go_wp2_with (go_at_call 33;refine (in_any _ _ _ _).mono ?_;rintro e w' ⟨rfl,rfl⟩;rw [H1.out])
  go_ret;exact ⟨rfl,HA.out⟩
 ·have H1:=Lib.hid h1;clear h1;go_wp2_with (first | (go_at_call_of 33 (Value.int IntKind.i64 x);refine (in_any _ _ _ _).mono ?_;rintro e w' ⟨rfl,rfl⟩;rw [H1.out]) | (go_at_call_of 33 (Value.int IntKind.i64 y);refine (in_any _ _ _ _).mono ?_;rintro e w' ⟨rfl,rfl⟩))
  go_ret;exact ⟨rfl,HA.out⟩
theorem runs_58 (args:Array Value) (w:World):(callFunc 86 args).run Tryz.prog w = .ok (.enter 86 args) w:=by simp [go_sem]
theorem every_inp (n m s1 s2:Nat) (A B:Option Addr) (ca cb:Nat) (l:List (Int × Int)) (Al:Option Addr) (cl:Nat) (w:World) (h1:Blk w s1 63 #[.slice A n ca]) (h2:Blk w s2 63 #[.slice B m cb]) (hn:n <= 17592186043904) (hm:m <= 17592186043904) (hL:Prs w Al l) :
  Calls Tryz.prog 85 #[.slice Al l.length cl,.func (.func 86) #[] #[.pointer (some ⟨s1,0,none⟩),.pointer (some ⟨s2,0,none⟩)]] w fun e w'=>e = .returned (.bool (l.all (inP n m))) /\ Aft w w' :=
 everyPair (FlatR enc2) FlatR.mono 86 [.pointer (some ⟨s1,0,none⟩),.pointer (some ⟨s2,0,none⟩)] (inP n m) Al l cl w hL runs_58 fun x _ W ha v0 v1 hv u=>by
  unfold FlatR enc2 at hv;cases hv;exact inp_any n m s1 s2 A B ca cb x _ ((h1.aft ha).lat u) ((h2.aft ha).lat u) hn hm
def lvlB (n:Int):Bool:=fromB n 0 30
theorem lvl_any (n:Int) (w:World):Calls Tryz.prog 92 #[.int .i64 n] w fun e w'=>e = .returned (.bool (lvlB n)) /\ Aft w w':=by
 unfold lvlB;go_enter Tryz.func92,Tryz.ntmps92;go_wp2_with (go_at_call 33;refine (in_any _ _ _ _).mono ?_;rintro e w' ⟨rfl,rfl⟩)
 go_ret;exact ⟨rfl,Aft.refl _⟩
theorem runs_67 (args:Array Value) (w:World):(callFunc 92 args).run Tryz.prog w = .ok (.enter 92 args) w:=by simp [go_sem]
end Go.Proofs
end
section
/- Walks: Matches. -/
namespace Go.Proofs
open Go.RowKit
attribute [local go_sem] Oper.semAt_some
theorem EdgesAt.later {w0 w w':World} {x:Nat} {a b:List (Int × Int)} {play:Int} {A B:Option Addr} {ca cb:Nat} (h:EdgesAt w0 w x a b play A B ca cb) (ha:Aft w w'):EdgesAt w0 w' x a b play A B ca cb:=⟨h.1.aft ha,h.2.1,h.2.2.1.trans ha,h.2.2.2.1.aft ha,h.2.2.2.2.aft ha⟩
def stepB (play:Int) (la lb:List (Int × Int)) (last p:Int × Int):Bool:=decide (last.1 < p.1) && (decide (last.2 < p.2) && sameM play (la.getD p.1.toNat (0,0)) (lb.getD p.2.toNat (0,0)))
def walkB (play:Int) (la lb:List (Int × Int)):Int × Int -> List (Int × Int) -> Bool
 | _,[]=>true
 | last,p :: r=>stepB play la lb last p && walkB play la lb p r
def matchE (la lb:List (Int × Int)) (play:Int) (l:List (Int × Int)):Int:=if edgesE la lb play ≠ 0 then edgesE la lb play else if l.all (inP la.length lb.length) = false then 2 else 0
def matchV (la lb:List (Int × Int)) (play:Int) (l:List (Int × Int)):Bool:=decide (matchE la lb play l = 0) && walkB play la lb (-1,-1) l
set_option maxRecDepth 100000 in
set_option maxHeartbeats 4000000 in
theorem matches_bad (la lb:List (Int × Int)) (play:Int) (l:List (Int × Int)) (A B Al:Option Addr) (ca cb cl:Nat) (w:World) (hA:Prs w A la) (hB:Prs w B lb) (hL:Prs w Al l) (he:edgesE la lb play ≠ 0) :
  Calls Tryz.prog 29 #[.slice A la.length ca,.slice B lb.length cb,.int .i64 play,.slice Al l.length cl] w fun e w'=>e = .returned (.tuple #[.bool false,.int .i64 (edgesE la lb play)]) /\ Aft w w':=by
 obtain ⟨s,hs⟩:∃ s,w.heap.size = s:=⟨_,rfl⟩;have F0:=((Fr.start w).alloc rfl 63 #[.slice A la.length ca]).alloc (by simp) 63 #[.slice B lb.length cb];simp only [List.nil_append,List.cons_append] at F0;rw [hs] at F0;have HF0:=Lib.hid F0;have HO:=Lib.hid (asked_any la lb play A B ca cb _ (hA.aft F0.aft) (hB.aft F0.aft));have t1:(edgesE la lb play != 0) = true:=by simpa using he
 have HNE:=Lib.hid he;clear hA hB hL F0 he;generalize edgesE la lb play = E at *;go_enter Tryz.func29,Tryz.ntmps29;go_wp2_with (go_at_call 80;refine HO.out.mono ?_;rintro e w2 (⟨-,rfl,u,rfl⟩ | ⟨h,-⟩);rotate_left;exact absurd h HNE.out)
 exact bodyPost_ret (v:=.tuple #[.bool false,.int .i64 E]) (by simp [results,Tryz.results29,go_sem]) rfl ⟨rfl,HF0.out.aft.then_lat u⟩
set_option maxRecDepth 100000 in
set_option maxHeartbeats 4000000 in
theorem matches_arg (la lb:List (Int × Int)) (play:Int) (l:List (Int × Int)) (A B Al:Option Addr) (ca cb cl:Nat) (w:World) (hA:Prs w A la) (hB:Prs w B lb) (hL:Prs w Al l) (he:edgesE la lb play = 0) (hb:l.all (inP la.length lb.length) = false) :
  Calls Tryz.prog 29 #[.slice A la.length ca,.slice B lb.length cb,.int .i64 play,.slice Al l.length cl] w fun e w'=>e = .returned (.tuple #[.bool false,.int .i64 2]) /\ Aft w w':=by
 obtain ⟨s,hs⟩:∃ s,w.heap.size = s:=⟨_,rfl⟩;have F0:=((Fr.start w).alloc rfl 63 #[.slice A la.length ca]).alloc (by simp) 63 #[.slice B lb.length cb];simp only [List.nil_append,List.cons_append] at F0;rw [hs] at F0;have HF0:=Lib.hid F0;have HO:=Lib.hid (asked_any la lb play A B ca cb _ (hA.aft F0.aft) (hB.aft F0.aft));have hla:=hA.len;have hlb:=hB.len;have HV:=Lib.hid fun W s1 s2 (h:Aft w W) (h1:Blk W s1 63 #[.slice A la.length ca]) (h2:Blk W s2 63 #[.slice B lb.length cb])=>every_inp la.length lb.length s1 s2 A B ca cb l Al cl W h1 h2 hla hlb (hL.aft h)
 rw [hb] at HV;clear hA hB hL F0 hb;go_enter Tryz.func29,Tryz.ntmps29;go_upto_block 0 with (go_at_call 80;refine HO.out.mono ?_;rintro e w2 (⟨h,-⟩ | ⟨-,x,rfl,hE⟩);exact absurd he h)
 have HF2:=Lib.hid (HF0.out.later hE.2.2.1);have HE:=Lib.hid hE;have hxb:=hE.2.1;clear hE;simp only [World.size_alloc] at hxb
 try rw [hs]
 generalize (w.alloc (.cells #[.slice A la.length ca] 63)).alloc (.cells #[.slice B lb.length cb] 63) = W1 at *;clear HO HF0;go_wp2_with (go_at_call 85;refine (HV.out _ _ _ HF2.out.aft (HF2.out.nth 0 rfl) (HF2.out.nth 1 rfl)).mono ?_;rintro e w3 ⟨rfl,u,rfl⟩)
 exact bodyPost_ret (v:=.tuple #[.bool false,.int .i64 2]) (by simp [results,Tryz.results29,go_sem]) rfl ⟨rfl,HF2.out.aft.then_lat u⟩
set_option maxRecDepth 100000 in
set_option maxHeartbeats 4000000 in
theorem matches_loop (la lb:List (Int × Int)) (play:Int) (l:List (Int × Int)) (A B Al:Option Addr) (ca cb cl:Nat) (w:World) (hA:Prs w A la) (hB:Prs w B lb) (hL:Prs w Al l) (he:edgesE la lb play = 0) (hall:l.all (inP la.length lb.length) = true) (rb:Bool) (hb:walkB play la lb (-1,-1) l = rb) :
  Calls Tryz.prog 29 #[.slice A la.length ca,.slice B lb.length cb,.int .i64 play,.slice Al l.length cl] w fun e w'=>e = .returned (.tuple #[.bool rb,.int .i64 0]) /\ Aft w w':=by
 obtain ⟨s,hs⟩:∃ s,w.heap.size = s:=⟨_,rfl⟩;have F0:=((Fr.start w).alloc rfl 63 #[.slice A la.length ca]).alloc (by simp) 63 #[.slice B lb.length cb];simp only [List.nil_append,List.cons_append] at F0;rw [hs] at F0;have HF0:=Lib.hid F0;have HO:=Lib.hid (asked_any la lb play A B ca cb _ (hA.aft F0.aft) (hB.aft F0.aft));have hla:=hA.len;have hlb:=hB.len;have hll:=hL.len;have HV:=Lib.hid fun W s1 s2 (h:Aft w W) (h1:Blk W s1 63 #[.slice A la.length ca]) (h2:Blk W s2 63 #[.slice B lb.length cb])=>every_inp la.length lb.length s1 s2 A B ca cb l Al cl W h1 h2 hla hlb (hL.aft h)
 rw [hall] at HV;obtain ⟨-,-,hma,hmb,-⟩:=edgesE_ok he;have HMA:=Lib.hid hma;have HMB:=Lib.hid hmb;have HALL:=Lib.hid hall;have HL:=Lib.hid hL;have HBB:=Lib.hid hb;clear hA hB hL F0 hb hma hmb hall;go_enter Tryz.func29,Tryz.ntmps29;go_upto_block 0 with (go_at_call 80;refine HO.out.mono ?_;rintro e w2 (⟨h,-⟩ | ⟨-,x,rfl,hE⟩);exact absurd he h)
 have HF2:=Lib.hid (HF0.out.later hE.2.2.1);have HE:=Lib.hid hE;have hxb:=hE.2.1;clear hE;simp only [World.size_alloc] at hxb
 try rw [hs]
 generalize (w.alloc (.cells #[.slice A la.length ca] 63)).alloc (.cells #[.slice B lb.length cb] 63) = W1 at *;clear HO HF0;go_upto_region 6 with (go_at_call 85;refine (HV.out _ _ _ HF2.out.aft (HF2.out.nth 0 rfl) (HF2.out.nth 1 rfl)).mono ?_;rintro e w3 ⟨rfl,u,rfl⟩)
 have HF3:=Lib.hid (HF2.out.later (Aft.lat _ u));have HE3:=Lib.hid (HE.out.later (Aft.lat _ u));generalize w2.lat u = W3 at *;clear HF2 HE HV;obtain ⟨z,hz⟩:∃ z,W3.heap.size = z:=⟨_,rfl⟩;have HB4:Hid (Blk (W3.alloc (.cells #[.int .i64 (-1),.int .i64 (-1)] 67)) z 67 #[.int .i64 (-1),.int .i64 (-1)]):=Lib.hid (by rw [<- hz];exact Blk.new W3 67 _);have HA4:=Lib.hid (Aft.alloc W3 (.cells #[.int .i64 (-1),.int .i64 (-1)] 67));have hz3:W3.heap.size <= z:=Nat.le_of_eq hz;have HZ:=Lib.hid hz;clear hz;go_upto_block 1 with fail
 try rw [HZ.out]
 clear HZ;generalize W3.alloc (.cells #[.int .i64 (-1),.int .i64 (-1)] 67) = W4 at *;refine wp_block ?_;go_loopw [34] (fun i wr=>∃ (k:Nat) (p:Int × Int),i = .int .i64 (k:Nat) /\ k <= l.length /\ Hid (walkB play la lb p (l.drop k) = rb) /\ Aft W3 wr /\ Blk wr z 67 #[.int .i64 p.1,.int .i64 p.2]) (fun i _=>l.length - (intOf i).toNat)
 case atStart=>exact ⟨0,(-1,-1),rfl,by omega,HBB,HA4.out,HB4.out⟩
 case round =>
  obtain ⟨k,⟨p1,p2⟩,rfl,hk,HX,hA5,hB5⟩:=hrel;have HA0:=Lib.hid hA5;have HB0:=Lib.hid hB5;clear HA4 HB4 hA5 hB5;by_cases hkl:k < l.length
  ·have t1:decide (k < l.length) = true:=by simpa using hkl
   obtain ⟨b9,o9,rfl,hb9,hc⟩:=(HL.out.aft (HF3.out.aft.trans HA0.out)).at hkl;obtain ⟨x0,x1⟩:=hc k hkl;have hin:=List.all_eq_true.1 HALL.out _ (List.getElem_mem hkl);rw [List.drop_eq_getElem_cons hkl] at HX;obtain ⟨⟨px,py⟩,hp⟩:∃ y,l[k] = y:=⟨_,rfl⟩;rw [hp] at x0 x1 hin HX;unfold inP at hin;rw [Bool.and_eq_true,fromB_iff,fromB_iff] at hin;dsimp only at x0 x1 hin;obtain ⟨ix,rfl⟩:∃ ix:Nat,px = ix:=⟨px.toNat,by omega⟩;obtain ⟨jx,rfl⟩:∃ jx:Nat,py = jx:=⟨py.toNat,by omega⟩;have hix:ix < la.length:=by omega
   have hjx:jx < lb.length:=by omega
   have HSA:=Lib.hid fun W (h:Aft W3 W)=>same_any la lb play A B ca cb x W1 W (HE3.out.later h) ix jx hix hjx (List.all_eq_true.1 HMA.out _ (List.getElem_mem hix)) (List.all_eq_true.1 HMB.out _ (List.getElem_mem hjx))
   have hsv:stepB play la lb (p1,p2) ((ix:Int),(jx:Int)) = (decide (p1 < (ix:Int)) && (decide (p2 < (jx:Int)) && sameM play la[ix] lb[jx])):=by
    unfold stepB;dsimp only;rw [Int.toNat_natCast,Int.toNat_natCast,List.getD_eq_getElem?_getD,List.getD_eq_getElem?_getD,List.getElem?_eq_getElem hix,List.getElem?_eq_getElem hjx];rfl
   have HX2:Hid ((stepB play la lb (p1,p2) ((ix:Int),(jx:Int)) && walkB play la lb ((ix:Int),(jx:Int)) (l.drop (k + 1))) = rb):=HX;rw [hsv] at HX2;obtain ⟨sm,hsm⟩:∃ sm,sameM play la[ix] lb[jx] = sm:=⟨_,rfl⟩;rw [hsm] at HX2 HSA;obtain ⟨zj,hzj⟩:∃ zj,wr.heap.size = zj:=⟨_,rfl⟩;obtain ⟨W5,hW5⟩:∃ W5,wr.alloc (.cells #[.int .i64 (ix:Nat),.int .i64 (jx:Nat)] 67) = W5:=⟨_,rfl⟩;have ha5:=hW5 ▸ Aft.alloc wr (.cells #[.int .i64 (ix:Nat),.int .i64 (jx:Nat)] 67);have HB5:Hid (Blk W5 zj 67 #[.int .i64 (ix:Nat),.int .i64 (jx:Nat)]):=Lib.hid (by rw [<- hW5,<- hzj];exact Blk.new wr 67 _);have HBZ:=Lib.hid (HB0.out.aft ha5);have HA5:=Lib.hid (HA0.out.trans ha5);have hzz:z ≠ zj:=by have:=HB0.out.lt;omega
   clear hc hp HX hsv hsm hin;go_upto_region 10 with fail
   try rw [hW5]
   try rw [hzj]
   clear hW5 hzj x0 x1 ha5 HB0 HA0 hb9 t1;have c1:W5.cell? ⟨zj,0,none⟩ = some (.int .i64 (ix:Nat)):=HB5.out.cell 0;have c2:W5.cell? ⟨zj,1,none⟩ = some (.int .i64 (jx:Nat)):=HB5.out.cell 1;have c3:=HB5.out.lt;have c4:W5.cell? ⟨z,0,none⟩ = some (.int .i64 p1):=HBZ.out.cell 0;have c5:W5.cell? ⟨z,1,none⟩ = some (.int .i64 p2):=HBZ.out.cell 1;have c6:=HBZ.out.lt;by_cases h1:p1 < (ix:Int)
   ·have t1:decide ((ix:Int) <= p1) = false:=by rw [decide_eq_false_iff_not];omega
    by_cases h2:p2 < (jx:Int)
    ·have t2:decide ((jx:Int) <= p2) = false:=by rw [decide_eq_false_iff_not];omega
     rw [decide_eq_true h1,decide_eq_true h2,Bool.true_and,Bool.true_and] at HX2;cases sm
     ·have hrb:rb = false:=by rw [<- HX2.out];rfl
      subst hrb;clear HX2 h1 h2;go_wp2_with (go_at_call 87;refine (HSA.out _ HA5.out).mono ?_;rintro e w7 ⟨rfl,u7,rfl⟩)
      exact bodyPost_ret (v:=.tuple #[.bool false,.int .i64 0]) (by simp [results,Tryz.results29,go_sem]) rfl ⟨rfl,(HF3.out.aft.trans HA5.out).then_lat u7⟩
     ·rw [Bool.true_and] at HX2;clear h1 h2;have f1:=HBZ.out.frozen 0;have f2:=HBZ.out.frozen 1;go_wp2_with (go_at_call 87;refine (HSA.out _ HA5.out).mono ?_;rintro e w7 ⟨rfl,u7,rfl⟩)
      exact ⟨⟨k + 1,(ix,jx),by go_num,by omega,HX2,((HA5.out.then_lat u7).then_setCell (p:=⟨z,0,none⟩) hz3 _).then_setCell (p:=⟨z,1,none⟩) hz3 _,((HBZ.out.lat u7).store 0 _).store 1 _⟩,by simp [intOf];omega⟩
    ·have t2:decide ((jx:Int) <= p2) = true:=by rw [decide_eq_true_eq];omega
     have hrb:rb = false:=by rw [<- HX2.out,decide_eq_true h1,decide_eq_false h2];rfl
     subst hrb;clear HX2 h1 h2;go_wp2_with (go_at_call 87;refine (HSA.out _ HA5.out).mono ?_;rintro e w7 ⟨rfl,u7,rfl⟩)
     exact bodyPost_ret (v:=.tuple #[.bool false,.int .i64 0]) (by simp [results,Tryz.results29,go_sem]) rfl ⟨rfl,HF3.out.aft.trans HA5.out⟩
   ·have t1:decide ((ix:Int) <= p1) = true:=by rw [decide_eq_true_eq];omega
    have hrb:rb = false:=by rw [<- HX2.out,decide_eq_false h1];rfl
    subst hrb;clear HX2 h1;go_wp2_with (go_at_call 87;refine (HSA.out _ HA5.out).mono ?_;rintro e w7 ⟨rfl,u7,rfl⟩)
    exact bodyPost_ret (v:=.tuple #[.bool false,.int .i64 0]) (by simp [results,Tryz.results29,go_sem]) rfl ⟨rfl,HF3.out.aft.trans HA5.out⟩
  ·have t1:decide (k < l.length) = false:=by simpa using hkl
   have hrb:rb = true:=by rw [<- HX.out,List.drop_eq_nil_of_le (by omega)];rfl
   subst hrb;go_wp2_with fail
   exact bodyPost_ret (v:=.tuple #[.bool true,.int .i64 0]) (by simp [results,Tryz.results29,go_sem]) rfl ⟨rfl,HF3.out.aft.trans HA0.out⟩
theorem matches_any (la lb:List (Int × Int)) (play:Int) (l:List (Int × Int)) (A B Al:Option Addr) (ca cb cl:Nat) (w:World) (hA:Prs w A la) (hB:Prs w B lb) (hL:Prs w Al l) :
  Calls Tryz.prog 29 #[.slice A la.length ca,.slice B lb.length cb,.int .i64 play,.slice Al l.length cl] w fun e w'=>e = .returned (.tuple #[.bool (matchV la lb play l),.int .i64 (matchE la lb play l)]) /\ Aft w w':=by
 by_cases he:edgesE la lb play = 0
 ·cases h2:l.all (inP la.length lb.length)
  ·have e:matchE la lb play l = 2:=by unfold matchE;rw [if_neg (by simp [he]),if_pos h2]
   have e2:matchV la lb play l = false:=by unfold matchV;rw [e];rfl
   rw [e,e2];exact matches_arg la lb play l A B Al ca cb cl w hA hB hL he h2
  ·have e:matchE la lb play l = 0:=by unfold matchE;rw [if_neg (by simp [he]),if_neg (by simp [h2])]
   have e2:matchV la lb play l = walkB play la lb (-1,-1) l:=by unfold matchV;rw [e];rfl
   rw [e,e2];exact matches_loop la lb play l A B Al ca cb cl w hA hB hL he h2 _ rfl
 ·have e:matchE la lb play l = edgesE la lb play:=by unfold matchE;rw [if_pos he]
  have e2:matchV la lb play l = false:=by unfold matchV;rw [e,decide_eq_false he];rfl
  rw [e,e2];exact matches_bad la lb play l A B Al ca cb cl w hA hB hL he
end Go.Proofs
end
section
/- Words: a range over an iterator,each round of which begins by laying memory. -/
namespace Go.Proofs
open Go.RowKit
structure Kept2 (B:Nat) (w w':World):Prop where
 same:∀ k,B <= k -> k <= B + 1 -> w'.heap[k]? = w.heap[k]?
 size:w.heap.size <= w'.heap.size
def Two {β:Type} (B:Nat) (I:β -> World -> Prop):Prop:=∀ s W W' r,I s W -> W.grownBy W' (some r) -> B <= r -> r <= B + 1 -> I s W'
def post2 (B:Nat) (I:Nat -> World -> Prop) (Ix:Code -> World -> Prop) (k:Nat) (W:World):Exit -> Act -> World -> Prop
 | .normal,_,W'=>Kept2 B W W' /\ I k W'
 | .ret,_,W'=>Kept2 B W W' /\ Ix .ret W'
 | .exit id,_,W'=>Kept2 B W W' /\ Ix (.exit id) W'
 | .goto t,_,W'=>Kept2 B W W' /\ Ix (.goto t) W'
 | .panic _,_,_=>False
 | .outgrown,_,_=>False
def Iter2 (n:Nat) (gf:Nat) (lb:Array Value) (B N:Nat) (Gv:Nat -> World -> World -> Value -> Prop) (Rep:World -> Prop):Prop :=
 ∀ (l:Nat) (J:Nat -> World -> Prop) (Jx:World -> Prop) (W:World),W.heap.size = B + 2 -> (∀ k W,J k W -> Rep W) ->
  (∀ k v W0 W1,k < N -> J k W0 -> Aft W0 W1 -> B + 2 <= W0.heap.size -> Gv k W0 W1 v -> YieldAt Fence.wide (n - 1) Tryz.prog l #[v] W1 fun e W' =>
   (e = .returned (.bool true) /\ J (k + 1) W' /\ W1.heap.size <= W'.heap.size) \/ (e = .returned (.bool false) /\ Jx W')) ->
  J 0 W ->
  CallsIn Fence.wide n Tryz.prog gf (#[.func (.yield l) #[] #[]] ++ lb) W fun e W'=>(∃ v,e = .returned v) /\ (J N W' \/ Jx W')
end Go.Proofs
end
section
/- Walks: pairs (68) and its iterator (97). -/
namespace Go.Proofs
open Go.RowKit
attribute [local go_sem] Oper.semAt_some
theorem Kept2.trans {B:Nat} {W W' W'':World} (h:Kept2 B W W') (k:Kept2 B W' W''):Kept2 B W W'':=⟨fun j h1 h2=>(k.same j h1 h2).trans (h.same j h1 h2),Nat.le_trans h.size k.size⟩
theorem Kept2.of_aft {B:Nat} {W W':World} (h:Aft W W') (hB:B + 2 <= W.heap.size):Kept2 B W W':=⟨fun j _ h2=>h.below.block j (by omega),h.size⟩
theorem Kept2.of_grown {B:Nat} {W W':World} {row:Option Nat} (h:W.grownBy W' row) (hB:B + 2 <= W.heap.size) (hr:∀ k,row = some k -> k < B \/ B + 2 <= k):Kept2 B W W' :=
 ⟨fun j h1 h2=>h.block j (by omega) (fun e=>by rcases hr j e.symm with h | h <;> omega),h.size⟩
def RepP (b1 b2 n m:Nat) (W:World):Prop:=W.cell? ⟨b1,0,none⟩ = some (.int .i64 (n:Nat)) /\ W.cell? ⟨b2,0,none⟩ = some (.int .i64 (m:Nat)) /\ b1 < W.heap.size /\ b2 < W.heap.size
def GivesP (m k:Nat) (_ _:World) (v:Value):Prop:=∃ i j,k = i * m + j /\ j < m /\ v = .agg #[.int .i64 (i:Nat),.int .i64 (j:Nat)]
theorem pairs_any (n m:Nat) (w:World) :
  Calls Tryz.prog 82 #[.int .i64 (n:Nat),.int .i64 (m:Nat)] w fun e w'=>e = .returned (.func (.func 111) #[] #[.pointer (some ⟨w.heap.size,0,none⟩),.pointer (some ⟨w.heap.size + 1,0,none⟩)]) /\ w' = (w.alloc (.cells #[.int .i64 (n:Nat)] 3)).alloc (.cells #[.int .i64 (m:Nat)] 3):=by
 go_enter Tryz.func82,Tryz.ntmps82;go_wp2_with fail
 go_ret;exact ⟨rfl,rfl⟩
theorem runs_97 (args:Array Value) (w:World):(callFunc 111 args).run Tryz.prog w = .ok (.enter 111 args) w:=by simp [go_sem]
def YieldP (J:Nat -> World -> Prop) (Jx:World -> Prop) (k:Nat) (W1:World) (e:Ending) (W':World):Prop :=
 (e = .returned (.bool true) /\ J (k + 1) W' /\ W1.heap.size <= W'.heap.size) \/ (e = .returned (.bool false) /\ Jx W')
def IterP (J:Nat -> World -> Prop) (Jx:World -> Prop) (N:Nat) (e:Ending) (W:World):Prop:=(∃ v,e = .returned v) /\ (J N W \/ Jx W)
set_option maxRecDepth 100000 in
set_option maxHeartbeats 4000000 in
theorem iter97 (fu:Nat) (b1 b2 n m B:Nat) (hn:n <= 1000) (hm:m <= 1000) :
  Iter2 fu 111 #[.pointer (some ⟨b1,0,none⟩),.pointer (some ⟨b2,0,none⟩)] B (n * m) (GivesP m) (RepP b1 b2 n m):=by
 intro l J Jx W hsz hrep hY h0;obtain ⟨k1,k2,k3,k4⟩:=hrep 0 W h0;have HR:=Lib.hid hrep;have HY:Hid (∀ k v W0 W1,k < n * m -> J k W0 -> Aft W0 W1 -> B + 2 <= W0.heap.size -> GivesP m k W0 W1 v -> YieldAt Fence.wide (fu - 1) Tryz.prog l #[v] W1 (YieldP J Jx k W1)):=Lib.hid hY;have H0:Hid (J (0 * m) W):=Lib.hid (by rw [Nat.zero_mul];exact h0);clear hrep hY h0;refine callsIn_wide.2 ?_;show Calls Tryz.prog 111 #[.func (.yield l) #[] #[],.pointer (some ⟨b1,0,none⟩),.pointer (some ⟨b2,0,none⟩)] W (IterP J Jx (n * m));go_enter Tryz.func111,Tryz.ntmps111;go_upto_block 0 with fail
 clear k1 k2 k3 k4;refine wp_block ?_;go_loopw [7] (fun i wr=>∃ i0:Nat,i = .int .i64 (i0:Nat) /\ i0 <= n /\ J (i0 * m) wr /\ B + 2 <= wr.heap.size) (fun i _=>n - (intOf i).toNat)
 case atStart=>exact ⟨0,rfl,by omega,H0.out,by omega⟩
 case round =>
  obtain ⟨ix,rfl,hi,hj,hsz2⟩:=hrel;have HJK:Hid (J (ix * m + 0) wr):=Lib.hid hj;clear hj H0;by_cases hil:ix < n
  ·have t1:decide (ix < n) = true:=by simpa using hil
   obtain ⟨k1,k2,k3,k4⟩:=HR.out _ wr HJK.out;go_upto_block 2 with fail
   clear k1 k2 k3 k4 t1;refine wp_block ?_;go_loopw [11] (fun j wr=>∃ j0:Nat,j = .int .i64 (j0:Nat) /\ j0 <= m /\ J (ix * m + j0) wr /\ B + 2 <= wr.heap.size) (fun j _=>m - (intOf j).toNat)
   case atStart=>exact ⟨0,rfl,by omega,HJK.out,hsz2⟩
   case round =>
    obtain ⟨jx,rfl,hjx,hj,hsz3⟩:=hrel;have HJ2:=Lib.hid hj;clear hj HJK;by_cases hjm:jx < m
    ·have t2:decide (jx < m) = true:=by simpa using hjm
     have hlt:ix * m + jx < n * m:=by
      have h1:(ix + 1) * m <= n * m:=Nat.mul_le_mul_right m (by omega);rw [Nat.add_mul,Nat.one_mul] at h1;omega
     obtain ⟨fn,tmps,assign,body,hy,hR⟩:=HY.out _ (.agg #[.int .i64 (ix:Nat),.int .i64 (jx:Nat)]) wr wr hlt HJ2.out (Aft.refl _) hsz3 ⟨ix,jx,rfl,hjm,rfl⟩;have HRR:=Lib.hid hR;have HSZ:=Lib.hid hsz3;clear hR hlt hsz3;go_upto_region 6 with fail
     refine (wpIn_wide (n:=fu)).1 ?_;gi_wp2_with fail
     refine ⟨(fun h=>by cases h),HRR.out.mono ?_⟩;rintro e W3 (⟨rfl,hJ3,hs3⟩ | ⟨rfl,hJx3⟩)
     ·have hs3':B + 2 <= W3.heap.size:=Nat.le_trans HSZ.out hs3;have HJ4:Hid (J (ix * m + (jx + 1)) W3):=Lib.hid hJ3;clear hy HRR hJ3 hs3;gi_wp2_with fail
      go_wp2_with fail
      exact ⟨⟨jx + 1,by go_num,by omega,HJ4.out,by omega⟩,by simp [intOf];omega⟩
     ·clear hy HRR;gi_wp2_with fail
      go_wp2_with fail
      go_end0;exact ⟨⟨_,rfl⟩,.inr hJx3⟩
    ·have t2:decide (jx < m) = false:=by simpa using hjm
     obtain rfl:jx = m:=by omega
     have HJ3:Hid (J ((ix + 1) * jx) wr):=Lib.hid (by rw [Nat.add_mul,Nat.one_mul];exact HJ2.out);clear hjm;go_wp2_with fail
     exact ⟨⟨ix + 1,by go_num,by omega,HJ3.out,by omega⟩,by simp [intOf];omega⟩
  ·have t1:decide (ix < n) = false:=by simpa using hil
   obtain rfl:ix = n:=by omega
   have HJ3:Hid (J (ix * m) wr):=HJK;clear hil;go_wp2_with fail
   go_end0;exact ⟨⟨_,rfl⟩,.inl HJ3.out⟩
end Go.Proofs
end
section
/- Walks: what Bars asks of its rows. -/
namespace Go.Proofs
open Go.RowKit
attribute [local go_sem] Oper.semAt_some
theorem every_lvl (l:List Int) (A:Option Addr) (c:Nat) (w:World) (hA:Ints w A l) :
  Calls Tryz.prog 91 #[.slice A l.length c,.func (.func 92) #[] #[]] w fun e w'=>e = .returned (.bool (l.all lvlB)) /\ Aft w w' :=
 everyInt IntR IntR.mono 92 [] lvlB A l c w hA runs_67 fun x _ W ha v0 hv u=>by
  unfold IntR at hv;cases hv;exact lvl_any x _
theorem row_lvl (l:List Int) (A:Option Addr) (c:Nat) (w:World) (hA:Ints w A l) :
  Calls Tryz.prog 90 #[.slice A l.length c] w fun e w'=>e = .returned (.bool (l.all lvlB)) /\ Aft w w':=by
 have H:=Lib.hid (every_lvl l A c w hA);clear hA;go_enter Tryz.func90,Tryz.ntmps90;go_wp2_with (go_at_call 91;refine H.out.mono ?_;rintro e w2 ⟨rfl,u,rfl⟩)
 go_ret;exact ⟨rfl,Aft.lat _ u⟩
theorem runs_65 (args:Array Value) (w:World):(callFunc 90 args).run Tryz.prog w = .ok (.enter 90 args) w:=by simp [go_sem]
theorem row_len (n m s:Nat) (A B:Option Addr) (c cb:Nat) (w:World) (h:Blk w s 63 #[.slice B m cb]) :
  Calls Tryz.prog 89 #[.slice A n c,.pointer (some ⟨s,0,none⟩)] w fun e w'=>e = .returned (.bool (decide (n = m))) /\ Aft w w':=by
 have y1:w.cell? ⟨s,0,none⟩ = some (.slice B m cb):=h.cell 0;have y2:=h.lt;clear h;go_enter Tryz.func89,Tryz.ntmps89;go_wp2_with fail
 go_ret;refine ⟨?_,Aft.refl _⟩;by_cases e:n = m
 ·simp [e]
 ·simp [e];omega
theorem runs_64 (args:Array Value) (w:World):(callFunc 89 args).run Tryz.prog w = .ok (.enter 89 args) w:=by simp [go_sem]
theorem every_rows (l:List (List Int)) (A:Option Addr) (c:Nat) (w:World) (hA:Lists w A l) :
  Calls Tryz.prog 88 #[.slice A l.length c,.func (.func 90) #[] #[]] w fun e w'=>e = .returned (.bool (l.all fun r=>r.all lvlB)) /\ Aft w w' :=
 everyList ListR ListR.mono 90 [] (fun r=>r.all lvlB) A l c w hA runs_65 fun x _ W ha v0 hv u=>by
  obtain ⟨A',c',h1,h2⟩:=hv;cases h1;exact row_lvl x A' c' _ (h2.lat u)
theorem every_len (l:List (List Int)) (A:Option Addr) (c:Nat) (m s:Nat) (B:Option Addr) (cb:Nat) (w:World) (hA:Lists w A l) (h:Blk w s 63 #[.slice B m cb]) :
  Calls Tryz.prog 88 #[.slice A l.length c,.func (.func 89) #[] #[.pointer (some ⟨s,0,none⟩)]] w fun e w'=>e = .returned (.bool (l.all fun r=>decide (r.length = m))) /\ Aft w w' :=
 everyList ListR ListR.mono 89 [.pointer (some ⟨s,0,none⟩)] (fun r=>decide (r.length = m)) A l c w hA runs_64 fun x _ W ha v0 hv u=>by
  obtain ⟨A',c',h1,h2⟩:=hv;cases h1;exact row_len x.length m s A' B c' cb _ ((h.aft ha).lat u)
end Go.Proofs
end
section
/- A map from pairs to levels in memory of the call's own. -/
namespace Go.Proofs
open Go.RowKit Go.Maps Go.WideMaps
def prV (s:Nat × Nat):Value:=.agg #[.int .i64 (s.1:Int),.int .i64 (s.2:Int)]
def SmallP (s:Nat × Nat):Prop:=s.1 < 32 /\ s.2 < 32
theorem prV_inj {s t:Nat × Nat} (h:prV s = prV t):s = t:=by
 unfold prV at h;obtain ⟨a,b⟩:=s;obtain ⟨c,d⟩:=t;simp at h;simp only [Prod.mk.injEq];omega
theorem laidOutT:laidOutB Tryz.prog = true:=by kernel_rfl
theorem rowT57:(67:TypeId) < Tryz.prog.types.size:=of_decide_eq_true (by kernel_rfl)
theorem keyT57:Tryz.prog.keyTypeAt 2 67 = true:=by kernel_rfl
theorem prKeyed:Keyed Tryz.prog 67:=Keyed.of_law (deep_law_laid laidOutT (m:=2) (Nat.le_of_ble_eq_true (by kernel_rfl)) rowT57 keyT57 (by rw [Tryz.underlying67]))
theorem keysP_true:((List.range 32).all fun a=>(List.range 32).all fun b=>(keyOf Tryz.prog 67 (.agg #[.int .i64 (a:Int),.int .i64 (b:Int)])).isSome) = true:=by kernel_rfl
theorem SmallP.key {s:Nat × Nat} (h:SmallP s):∃ kl,keyOf Tryz.prog 67 (prV s) = some kl:=by
 have:=List.all_eq_true.1 keysP_true s.1 (List.mem_range.2 h.1);have:=List.all_eq_true.1 this s.2 (List.mem_range.2 h.2);exact Option.isSome_iff_exists.1 this
def MapP (W:World) (b n:Nat) (V:Nat × Nat -> Nat):Prop :=
 ∃ D:DataW Unit,W.ownsMap Tryz.prog 67 (plainElem Tryz.prog 3) b n D /\ ∀ s kl,SmallP s -> keyOf Tryz.prog 67 (prV s) = some kl -> D.atKey kl (.lit (.int .i64 0)) = .lit (.int .i64 (V s:Int))
theorem MapP.made (W:World):MapP (W.alloc (.map #[] 0)) W.heap.size 0 fun _=>0:=⟨_,World.ownsMap_made _ _ _ _,fun l _ _ _=>by simp [WideAt.atKey_nil,DataW.atKey]⟩
theorem MapP.kept {W W':World} {b n:Nat} {V:Nat × Nat -> Nat} (h:MapP W b n V) {row:Option Nat} (hg:W.grownBy W' row) (hne:some b ≠ row):MapP W' b n V:=let ⟨D,h1,h2⟩:=h;⟨D,h1.kept hg hne,h2⟩
theorem MapP.aft {W W':World} {b n:Nat} {V:Nat × Nat -> Nat} (h:MapP W b n V) (ha:Aft W W'):MapP W' b n V:=h.kept (only_aft (only_refl W none) ha) (by simp)
theorem MapP.lt {W:World} {b n:Nat} {V:Nat × Nat -> Nat} (h:MapP W b n V):b < W.heap.size:=let ⟨_,h1,_⟩:=h;h1.lt
theorem MapP.look {W:World} {b n:Nat} {V:Nat × Nat -> Nat} (h:MapP W b n V) {s:Nat × Nat} (hs:SmallP s):(Instr.lookup 160 (.map (some b)) (prV s) false).run Tryz.prog W = .ok (.int .i64 (V s:Int)) W:=by
 obtain ⟨D,h1,h2⟩:=h;obtain ⟨kl,hk⟩:=hs.key;obtain ⟨v,ps,hrun,hv⟩:=h1.lookup prKeyed (e:=3) (t:=160) Tryz.underlying160 (Tryz.zeroValue3 W) (plainElem_int Tryz.underlying3 (a:=0) (by decide)) hk;rw [h2 s kl hs hk] at hv;obtain ⟨a,ha,hz⟩:=plainElem_int_inv Tryz.underlying3 hv;subst ha;simp at hz;rw [hrun,<- hz.1.1]
theorem MapP.put {W:World} {b n:Nat} {V:Nat × Nat -> Nat} (h:MapP W b n V) {s:Nat × Nat} (hs:SmallP s) (hn:n < 1000000) (x:Nat) (hx:x <= 1000):∃ w',(Instr.mapUpdate 160 (.map (some b)) (prV s) (.int .i64 (x:Int))).run Tryz.prog W = .ok () w' /\ MapP w' b (n + 1) (fun t=>if t = s then x else V t) /\ W.grownBy w' (some b):=by
 obtain ⟨D,h1,h2⟩:=h;obtain ⟨kl,hk⟩:=hs.key;obtain ⟨w',hrun,h3,h4⟩:=h1.update prKeyed (e:=3) (t:=160) Tryz.underlying160 (by unfold maxLen;omega) hk (plainElem_int Tryz.underlying3 (a:=(x:Int)) (by
  have h1:IntKind.i64.min = -9223372036854775808:=by rfl
  have h2:IntKind.i64.max = 9223372036854775807:=by rfl
  simp [Lit.wf];omega))
 refine ⟨w',hrun,⟨_,h3,fun s' kl' hs' hk'=>?_⟩,h4⟩;by_cases e:s' = s
 ·subst e;rw [hk] at hk';cases hk';rw [atKey_put_same h1.isMap (prKeyed.key hk)];dsimp only;rw [if_pos rfl]
 ·have hne:kl' ≠ kl:=fun e'=>e (by
   subst e';exact prV_inj (prKeyed.inj hk' hk))
  rw [atKey_put_other hne,h2 s' kl' hs' hk'];dsimp only;rw [if_neg e]
end Go.Proofs
end
section
/- Plain: edges of two sheets: matches are chains of pairs;levels,tables and lists of levels tell how long the longest is. -/
namespace Sheet
structure Chain (S:Nat -> Nat -> Bool) (n m i k:Nat) (l:List (Nat × Nat)):Prop where
 rise:l.Pairwise fun p q=>p.1 < q.1 /\ p.2 < q.2
 same:∀ p ∈ l,S p.1 p.2 = true
 low:∀ p ∈ l,i <= p.1 /\ k <= p.2
 high:∀ p ∈ l,p.1 < n /\ p.2 < m
variable {S:Nat -> Nat -> Bool} {n m:Nat}
theorem Chain.nil (i k:Nat):Chain S n m i k []:=⟨.nil,(fun _ h=>by cases h),(fun _ h=>by cases h),(fun _ h=>by cases h)⟩
structure Long (S:Nat -> Nat -> Bool) (n m i k t:Nat):Prop where
 has:∃ l,Chain S n m i k l /\ l.length = t
 all:∀ l,Chain S n m i k l -> l.length <= t
theorem Long.same {i k t t':Nat} (h:Long S n m i k t) (h':Long S n m i k t'):t = t':=by
 obtain ⟨l,h1,h2⟩:=h.has;obtain ⟨l',h3,h4⟩:=h'.has;have:=h.all l' h3;have:=h'.all l h1;omega
structure Levels (S:Nat -> Nat -> Bool) (n m:Nat) (L:Nat -> Nat -> Nat):Prop where
 off:∀ i k,i < n -> k < m -> S i k = false -> L i k = 0
 up:∀ i k,i < n -> k < m -> S i k = true -> 0 < L i k /\ ∀ i' k',i' < i -> k' < k -> L i' k' < L i k
 has:∀ i k,i < n -> k < m -> S i k = true -> L i k = 1 \/ ∃ i' k',i' < i /\ k' < k /\ L i' k' + 1 = L i k
theorem Levels.pos {L:Nat -> Nat -> Nat} (h:Levels S n m L) {i k:Nat} (hi:i < n) (hk:k < m) (hp:0 < L i k):S i k = true:=by
 cases hs:S i k with
 | true=>rfl
 | false=>have:=h.off i k hi hk hs;omega
theorem Levels.chain {L:Nat -> Nat -> Nat} (h:Levels S n m L):∀ (t i k:Nat),i < n -> k < m -> L i k = t -> 0 < t -> ∃ l,Chain S n m 0 0 l /\ l.length = t /\ ∀ p ∈ l,p.1 <= i /\ p.2 <= k
 | 0,_,_,_,_,_,h0=>absurd h0 (Nat.lt_irrefl _)
 | t + 1,i,k,hi,hk,ht,_=>by
  have hs:=h.pos hi hk (by omega);rcases h.has i k hi hk hs with e | ⟨i',k',h1,h2,h3⟩
  ·have:t = 0:=by omega
   subst this;refine ⟨[(i,k)],⟨List.pairwise_singleton _ _,fun p hp=>?_,fun p hp=>?_,fun p hp=>?_⟩,rfl,fun p hp=>?_⟩
   all_goals rw [List.mem_singleton] at hp;subst hp
   ·exact hs
   ·exact ⟨Nat.zero_le _,Nat.zero_le _⟩
   ·exact ⟨hi,hk⟩
   ·exact ⟨Nat.le_refl _,Nat.le_refl _⟩
  ·by_cases ht0:t = 0
   ·have h4:L i' k' = 0:=by omega
    subst ht0;refine ⟨[(i,k)],⟨List.pairwise_singleton _ _,fun p hp=>?_,fun p hp=>?_,fun p hp=>?_⟩,rfl,fun p hp=>?_⟩
    all_goals rw [List.mem_singleton] at hp;subst hp
    ·exact hs
    ·exact ⟨Nat.zero_le _,Nat.zero_le _⟩
    ·exact ⟨hi,hk⟩
    ·exact ⟨Nat.le_refl _,Nat.le_refl _⟩
   ·obtain ⟨l,c1,c2,c3⟩:=Levels.chain h t i' k' (by omega) (by omega) (by omega) (by omega);refine ⟨l ++ [(i,k)],⟨List.pairwise_append.2 ⟨c1.rise,List.pairwise_singleton _ _,fun p hp q hq=>?_⟩,fun p hp=>?_,fun p hp=>⟨Nat.zero_le _,Nat.zero_le _⟩,fun p hp=>?_⟩,by simp [c2],fun p hp=>?_⟩
    ·rw [List.mem_singleton] at hq;subst hq;have:=c3 p hp;exact ⟨by show p.1 < i;omega,by show p.2 < k;omega⟩
    all_goals rcases List.mem_append.1 hp with hp | hp
    ·exact c1.same p hp
    ·rw [List.mem_singleton] at hp;subst hp;exact hs
    ·exact c1.high p hp
    ·rw [List.mem_singleton] at hp;subst hp;exact ⟨hi,hk⟩
    ·have:=c3 p hp;omega
    ·rw [List.mem_singleton] at hp;subst hp;exact ⟨Nat.le_refl _,Nat.le_refl _⟩
theorem distinct_le:∀ (t:Nat) (l:List Nat),l.Pairwise (· ≠ ·) -> (∀ x ∈ l,0 < x /\ x <= t) -> l.length <= t
 | 0,[],_,_=>Nat.le_refl _
 | 0,x :: r,_,h=>by have:=h x (by simp);omega
 | t + 1,l,hp,h=>by
  have h1:=distinct_le t (l.filter (· != t + 1)) (hp.filter _) fun x hx=>by
   have h2:=List.mem_filter.1 hx;have h3:=h x h2.1;have h4:x ≠ t + 1:=by simpa using h2.2
   omega
  have h2:l.length <= (l.filter (· != t + 1)).length + 1:=by
   clear h1 h
   induction l with
   | nil=>exact Nat.zero_le _
   | cons x r ih =>
    have hr:=List.pairwise_cons.1 hp;by_cases e:x = t + 1
    ·have:r.filter (· != t + 1) = r:=List.filter_eq_self.2 fun y hy=>by
      have:=hr.1 y hy
      simp
      omega
     simp [e,this]
    ·have:=ih hr.2;simp [e];omega
  omega
structure Bar (S:Nat -> Nat -> Bool) (n m:Nat) (V:Nat -> Nat -> Nat):Prop where
 iff:∀ i k,i < n -> k < m -> (0 < V i k ↔ S i k = true)
 ne:∀ i k i' k',i < n -> k < m -> i' < i -> k' < k -> 0 < V i k -> V i' k' ≠ V i k
theorem Bar.le {V:Nat -> Nat -> Nat} (h:Bar S n m V) {t:Nat} (ht:∀ i k,i < n -> k < m -> V i k <= t) {l:List (Nat × Nat)} (hl:Chain S n m 0 0 l):l.length <= t:=by
 have h1:=distinct_le t (l.map fun p=>V p.1 p.2) (List.pairwise_map.2 (hl.rise.imp_of_mem fun {p q} hp hq hpq=>by
  have hp':=hl.high p hp;have hq':=hl.high q hq
  exact h.ne q.1 q.2 p.1 p.2 hq'.1 hq'.2 hpq.1 hpq.2 ((h.iff _ _ hq'.1 hq'.2).2 (hl.same q hq)))) fun x hx=>by
   obtain ⟨p,hp,rfl⟩:=List.mem_map.1 hx;have hp':=hl.high p hp;exact ⟨(h.iff _ _ hp'.1 hp'.2).2 (hl.same p hp),ht _ _ hp'.1 hp'.2⟩
 simpa using h1
theorem Levels.bar {L:Nat -> Nat -> Nat} (h:Levels S n m L):Bar S n m L :=
 ⟨fun i k hi hk=>⟨h.pos hi hk,fun hs=>(h.up i k hi hk hs).1⟩,fun i k i' k' hi hk h1 h2 hp=>Nat.ne_of_lt ((h.up i k hi hk (h.pos hi hk hp)).2 i' k' h1 h2)⟩
theorem Levels.long {L:Nat -> Nat -> Nat} (h:Levels S n m L) {t:Nat} (ht:∀ i k,i < n -> k < m -> L i k <= t) (hh:t = 0 \/ ∃ i k,i < n /\ k < m /\ L i k = t):Long S n m 0 0 t:=by
 refine ⟨?_,fun l hl=>h.bar.le ht hl⟩;by_cases e:t = 0
 ·subst e;exact ⟨[],.nil 0 0,rfl⟩
 ·rcases hh with hh | ⟨i,k,hi,hk,hL⟩
  ·exact absurd hh e
  ·obtain ⟨l,h1,h2,_⟩:=h.chain t i k hi hk hL (by omega);exact ⟨l,h1,h2⟩
end Sheet
end
section
/- Levels: what is plain of the program's way to reckon them. -/
namespace Sheet
structure LvOk (S:Nat -> Nat -> Bool) (V:Nat × Nat -> Nat) (a b:Nat):Prop where
 off:S a b = false -> V (a,b) = 0
 up:S a b = true -> 0 < V (a,b) /\ ∀ a' b',a' < a -> b' < b -> V (a',b') < V (a,b)
 has:S a b = true -> V (a,b) = 1 \/ ∃ a' b',a' < a /\ b' < b /\ V (a',b') + 1 = V (a,b)
 small:V (a,b) <= a + 1
structure Lv (S:Nat -> Nat -> Bool) (n m:Nat) (V:Nat × Nat -> Nat) (i k:Nat):Prop where
 done:∀ a b,a < n -> b < m -> (a < i \/ (a = i /\ b < k)) -> LvOk S V a b
 rest:∀ a b,¬ (a < i \/ (a = i /\ b < k)) -> V (a,b) = 0
theorem Lv.start (S:Nat -> Nat -> Bool) (n m:Nat):Lv S n m (fun _=>0) 0 0:=⟨fun a b _ _ h=>by omega,fun _ _ _=>rfl⟩
theorem Lv.row {S:Nat -> Nat -> Bool} {n m:Nat} {V:Nat × Nat -> Nat} {i:Nat} (h:Lv S n m V i m) (hz:∀ a b,m <= b -> V (a,b) = 0):Lv S n m V (i + 1) 0 :=
 ⟨fun a b ha hb hd=>h.done a b ha hb (by omega),fun a b hd=>by
  by_cases hb:m <= b
  ·exact hz a b hb
  ·exact h.rest a b (by omega)⟩
theorem Lv.levels {S:Nat -> Nat -> Bool} {n m:Nat} {V:Nat × Nat -> Nat} (h:Lv S n m V n 0):Levels S n m fun a b=>V (a,b) :=
 ⟨fun a b ha hb=>(h.done a b ha hb (.inl ha)).off,fun a b ha hb=>(h.done a b ha hb (.inl ha)).up,fun a b ha hb=>(h.done a b ha hb (.inl ha)).has⟩
theorem Lv.skip {S:Nat -> Nat -> Bool} {n m:Nat} {V:Nat × Nat -> Nat} {i k:Nat} (h:Lv S n m V i k) (hs:S i k = false):Lv S n m V i (k + 1) :=
 ⟨fun a b ha hb hd=>by
  by_cases e:a = i /\ b = k
  ·obtain ⟨rfl,rfl⟩:=e;have h0:=h.rest a b (by omega);exact ⟨fun _=>h0,fun h1=>absurd h1 (by rw [hs];decide),fun h1=>absurd h1 (by rw [hs];decide),by omega⟩
  ·exact h.done a b ha hb (by omega),fun a b hd=>h.rest a b (by omega)⟩
structure LvIn (S:Nat -> Nat -> Bool) (n m:Nat) (V:Nat × Nat -> Nat) (i k r:Nat):Prop where
 done:∀ a b,a < n -> b < m -> (a < i \/ (a = i /\ b < k)) -> LvOk S V a b
 rest:∀ a b,¬ (a < i \/ (a = i /\ b < k)) -> (a,b) ≠ (i,k) -> V (a,b) = 0
 pos:0 < V (i,k)
 up:∀ a b,b < k -> a * k + b < r -> V (a,b) < V (i,k)
 has:V (i,k) = 1 \/ ∃ a b,a < i /\ b < k /\ V (a,b) + 1 = V (i,k)
 small:V (i,k) <= i + 1
theorem lvok_put {S:Nat -> Nat -> Bool} {V:Nat × Nat -> Nat} {i k x a b:Nat} (h:LvOk S V a b) (hd:a < i \/ (a = i /\ b < k)):LvOk S (fun t=>if t = (i,k) then x else V t) a b:=by
 have e1:((a,b):Nat × Nat) ≠ (i,k):=fun e=>by cases e;omega
 have e2:∀ a' b',a' < a -> b' < b -> ((a',b'):Nat × Nat) ≠ (i,k):=fun a' b' h1 h2 e=>by cases e;omega
 refine ⟨fun hs=>?_,fun hs=>?_,fun hs=>?_,?_⟩
 ·(try dsimp only);rw [if_neg e1];exact h.off hs
 ·try dsimp only
  rw [if_neg e1];exact ⟨(h.up hs).1,fun a' b' h1 h2=>by rw [if_neg (e2 a' b' h1 h2)];exact (h.up hs).2 a' b' h1 h2⟩
 ·try dsimp only
  rw [if_neg e1];rcases h.has hs with e | ⟨a',b',h1,h2,h3⟩
  ·exact .inl e
  ·exact .inr ⟨a',b',h1,h2,by rw [if_neg (e2 a' b' h1 h2)];exact h3⟩
 ·(try dsimp only);rw [if_neg e1];exact h.small
theorem Lv.begin {S:Nat -> Nat -> Bool} {n m:Nat} {V:Nat × Nat -> Nat} {i k:Nat} (h:Lv S n m V i k):LvIn S n m (fun t=>if t = (i,k) then 1 else V t) i k 0 :=
 ⟨fun a b ha hb hd=>lvok_put (h.done a b ha hb hd) hd,fun a b hd hne=>by (try dsimp only);rw [if_neg hne];exact h.rest a b hd,by (try dsimp only);rw [if_pos rfl];decide,fun a b _ hr=>absurd hr (Nat.not_lt_zero _),.inl (by (try dsimp only);rw [if_pos rfl]),by (try dsimp only);rw [if_pos rfl];omega⟩
theorem LvIn.round {S:Nat -> Nat -> Bool} {n m:Nat} {V:Nat × Nat -> Nat} {i k a b:Nat} (h:LvIn S n m V i k (a * k + b)) (ha:a < i) (hb:b < k) (hi:i < n) (hk:k < m):LvIn S n m (fun t=>if t = (i,k) then max (V (i,k)) (V (a,b) + 1) else V t) i k (a * k + b + 1):=by
 have hsm:=(h.done a b (by omega) (by omega) (.inl ha)).small;have hne:∀ a' b',b' < k -> ((a',b'):Nat × Nat) ≠ (i,k):=fun a' b' h1 e=>by cases e;omega
 refine ⟨fun a' b' ha' hb' hd=>lvok_put (h.done a' b' ha' hb' hd) hd,fun a' b' hd hn=>?_,?_,fun a' b' hb' hr=>?_,?_,?_⟩
 ·(try dsimp only);rw [if_neg hn];exact h.rest a' b' hd hn
 ·(try dsimp only);rw [if_pos rfl];omega
 ·try dsimp only
  rw [if_pos rfl,if_neg (hne a' b' hb')];by_cases e:a' * k + b' < a * k + b
  ·have:=h.up a' b' hb' e;omega
  ·have e1:a' * k + b' = a * k + b:=by omega
   have e2:a' = a /\ b' = b:=by
    have h1:(a' * k + b') / k = a':=by rw [Nat.mul_comm,Nat.mul_add_div (by omega),Nat.div_eq_of_lt hb'];omega
    have h2:(a * k + b) / k = a:=by rw [Nat.mul_comm,Nat.mul_add_div (by omega),Nat.div_eq_of_lt hb];omega
    have h3:a' = a:=by rw [<- h1,e1,h2]
    subst h3;exact ⟨rfl,by omega⟩
   obtain ⟨rfl,rfl⟩:=e2;omega
 ·try dsimp only
  rw [if_pos rfl];by_cases e:V (a,b) + 1 <= V (i,k)
  ·rw [Nat.max_eq_left e];rcases h.has with h1 | ⟨a',b',h1,h2,h3⟩
   ·exact .inl h1
   ·exact .inr ⟨a',b',h1,h2,by rw [if_neg (hne a' b' h2)];exact h3⟩
  ·rw [Nat.max_eq_right (by omega)];exact .inr ⟨a,b,ha,hb,by rw [if_neg (hne a b hb)]⟩
 ·try dsimp only
  rw [if_pos rfl];have:=h.small;omega
theorem LvIn.end_ {S:Nat -> Nat -> Bool} {n m:Nat} {V:Nat × Nat -> Nat} {i k:Nat} (h:LvIn S n m V i k (i * k)) (hs:S i k = true):Lv S n m V i (k + 1) :=
 ⟨fun a b ha hb hd=>by
  by_cases e:a = i /\ b = k
  ·obtain ⟨rfl,rfl⟩:=e;refine ⟨fun h1=>absurd h1 (by rw [hs];decide),fun _=>⟨h.pos,fun a' b' h1 h2=>h.up a' b' h2 ?_⟩,fun _=>h.has,h.small⟩;have:(a' + 1) * b <= a * b:=Nat.mul_le_mul_right b (by omega);rw [Nat.add_mul,Nat.one_mul] at this;omega
  ·exact h.done a b ha hb (by omega),fun a b hd=>h.rest a b (by omega) (fun e=>by cases e;omega)⟩
end Sheet
end
section
/- Words: a range over an iterator within a round of another one. -/
namespace Go.Proofs
open Go.RowKit
theorem wpIn_range5r {g:Operand} {p:Tmp} {assign body:Code} {Q:Exit -> Act -> World -> Prop} {a:Act} {w:World} {n:Nat} {gf:Nat} {lb:Array Value} (hg:a.eval g = .func (.func gf) #[] lb) (eg:∀ args w,(callFunc gf args).run Tryz.prog w = .ok (.enter gf args) w)
  {N:Nat} {Gv:Nat -> World -> World -> Value -> Prop} {Rep:World -> Prop} (hseq:Iter2 (n - 1) gf lb w.heap.size N Gv Rep)
  (I:Nat -> World -> Prop) (Ix:Code -> World -> Prop) (hI:Two w.heap.size I) (hIx:∀ c,Two w.heap.size (fun (_:Unit)=>Ix c)) (hrep:∀ k W,I k W -> Rep W) (h0:I 0 w) (a₁:World -> Value -> Act) (aw:World -> Value -> World) (haw:∀ W v,Aft W (aw W v))
  (hassign:∀ (l k:Nat) (v:Value) (W0 W:World) (K:Act -> World -> Prop),Gv k W0 W v -> K (a₁ W v) (aw W v) ->
   assign.wpIn (Fence.wide.inRound l) (n - 1 - 1) Tryz.prog (Exit.then K (fun _ _ _=>False)) { tmps:=a.tmps.setIfInBounds p v,defers:=[] } W)
  (hbody:∀ (l k:Nat) (v:Value) (W0 W:World),k < N -> I k W0 -> Aft W0 W -> w.heap.size + 2 <= W0.heap.size -> Gv k W0 W v -> ∀ X,(∃ o,X = (aw W v).putObj (w.heap.size + 1) o) -> l = w.heap.size + 1 -> (∃ r,X.heap[l]? = some (.loop r)) -> body.wpIn (Fence.wide.inRound l) (n - 1 - 1) Tryz.prog (post2 w.heap.size I Ix (k + 1) X) (a₁ W v) X)
  (hdone:∀ (D:Nat) (W:World),w.heap.size = D -> I N W -> W.heap[D]? = some (.deferred (some [])) -> Q .normal { a with defers:={ target:=.collected D,args:=#[] } :: a.defers } W)
  (hstop:∀ (D:Nat) (c:Code) (W:World),w.heap.size = D -> Ix c W -> W.heap[D]? = some (.deferred (some [])) -> c.wpIn Fence.wide n Tryz.prog Q { a with defers:={ target:=.collected D,args:=#[] } :: a.defers } W) :
  (Code.rangeFunc g #[p] assign body).wpIn Fence.wide n Tryz.prog Q a w:=by
 refine wpIn_rangeFunc ?_;intro fn hfn;obtain ⟨rec,hrec⟩:∃ rec:LoopState -> Option Code -> Loop,rec = fun st pe=>{ state:=st,pending:=pe,fn,tmps:=a.tmps,params:=#[p],assign,body,defers:=w.heap.size }:=⟨_,rfl⟩
 obtain ⟨W1,hW1⟩:∃ W1,(w.alloc (.deferred (some []))).alloc (.loop (rec .ready none)) = W1:=⟨_,rfl⟩
 have hL1:W1.heap[w.heap.size + 1]? = some (.loop (rec .ready none)):=by
  rw [<- hW1];have:=World.alloc_heap_new (w.alloc (.deferred (some []))) (.loop (rec .ready none));rwa [World.size_alloc] at this
 have hK1:W1.heap[w.heap.size]? = some (.deferred (some [])):=by
  rw [<- hW1];exact (Below.heap_alloc _ _ _ (by simp)).trans (World.alloc_heap_new w _)
 have hs1:W1.heap.size = w.heap.size + 2:=by rw [<- hW1];simp
 have hI1:I 0 W1:=by
  have:=only_of_aft ((Aft.alloc w (.deferred (some []))).then_alloc (.loop (rec .ready none))) (some w.heap.size);rw [hW1] at this;exact hI _ _ _ _ h0 this (Nat.le_refl _) (by omega)
 refine ⟨w.heap.size + 1,[{ target:=.collected w.heap.size,args:=#[] }],W1,{ target:=.fn (.func gf) lb,args:=#[.func (.yield (w.heap.size + 1)) #[] #[]] },W1,gf,
  #[.func (.yield (w.heap.size + 1)) #[] #[]] ++ lb,W1,?_,?_,?_,?_,(fun h=>by cases h),?_⟩
 ·rw [<- hW1,hrec];exact run_enterLoop_outer _ _ _ _ _
 ·simp only [resolve,hg];simp [go_sem]
 ·intro f' hf';trivial
 ·simp [invoke,go_sem,eg]
 ·refine (hseq (w.heap.size + 1)
   (fun k W=>I k W /\ W.heap[w.heap.size + 1]? = some (.loop (rec .ready none)) /\ W.heap[w.heap.size]? = some (.deferred (some [])))
   (fun W=>∃ c,Ix c W /\ W.heap[w.heap.size + 1]? = some (.loop (rec .done (some c))) /\ W.heap[w.heap.size]? = some (.deferred (some [])))
   W1 hs1 (fun k W h=>hrep k W h.1) ?_ ⟨hI1,hL1,hK1⟩).mono ?_
  ·rintro k v W0 W hkN ⟨hi,hl',hk'⟩ ha hB hgv;have hl:W.heap[w.heap.size + 1]? = some (.loop (rec .ready none)):=(ha.below.block _ (by omega)).trans hl';have hk:W.heap[w.heap.size]? = some (.deferred (some [])):=(ha.below.block _ (by omega)).trans hk';have hlt:w.heap.size + 1 < W.heap.size:=(Array.getElem?_eq_some_iff.1 hl).1;have hy:=run_yield (P:=Tryz.prog) (args:=#[v]) hl (by rw [hrec];rfl);rw [hrec] at hy;have hz:((#[p]:Array Tmp).zip #[v]).foldl (fun tmps (t,a)=>tmps.setIfInBounds t a) a.tmps = a.tmps.setIfInBounds p v:=by simp
   dsimp only at hy;rw [hz] at hy;refine ⟨fn,_,assign,body,hy,?_⟩;refine roundIn_of_wpIn hfn ?_;refine hassign _ k v W0 W _ hgv ?_;have hs0:=(haw W v).size;have hl'':(aw W v).heap[w.heap.size + 1]? = some (.loop (rec .ready none)):=((haw W v).below.block _ hlt).trans hl;have hk'':(aw W v).heap[w.heap.size]? = some (.deferred (some [])):=((haw W v).below.block _ (by omega)).trans hk;have hbody2:=hbody (w.heap.size + 1) k v W0 W;obtain ⟨Wa,hWa⟩:∃ Wa,aw W v = Wa:=⟨_,rfl⟩;rw [hWa] at hl'' hk'' hs0 hbody2 ⊢;have hlta:w.heap.size + 1 < Wa.heap.size:=(Array.getElem?_eq_some_iff.1 hl'').1;refine ⟨_,run_beginRound hl'' (by rw [hrec]),?_⟩;have hl2:(Wa.putObj (w.heap.size + 1) (.loop { rec .ready none with state:=.busy })).heap[w.heap.size + 1]? = some (.loop { rec .ready none with state:=.busy }):=World.putObj_heap_same hlta;have hk2:(Wa.putObj (w.heap.size + 1) (.loop { rec .ready none with state:=.busy })).heap[w.heap.size]? = some (.deferred (some [])):=(World.putObj_heap_other (by omega)).trans hk'';have hsz2:(Wa.putObj (w.heap.size + 1) (.loop { rec .ready none with state:=.busy })).heap.size = Wa.heap.size:=by simp [World.putObj]
   refine wpIn_mono (hbody2 hkN hi ha hB hgv _ ⟨_,rfl⟩ rfl ⟨_,hl2⟩) ?_;have fin:∀ (jump:Option Code) (W3:World),Kept2 w.heap.size (Wa.putObj (w.heap.size + 1) (.loop { rec .ready none with state:=.busy })) W3 ->
     (Instr.endRound (w.heap.size + 1) jump).run Tryz.prog W3 = .ok (.bool jump.isNone) (W3.putObj (w.heap.size + 1) (.loop (rec (if jump.isNone then .ready else .done) jump))) /\
     (W3.putObj (w.heap.size + 1) (.loop (rec (if jump.isNone then .ready else .done) jump))).heap[w.heap.size + 1]? = some (.loop (rec (if jump.isNone then .ready else .done) jump)) /\
     (W3.putObj (w.heap.size + 1) (.loop (rec (if jump.isNone then .ready else .done) jump))).heap[w.heap.size]? = some (.deferred (some [])) /\
     W.heap.size <= (W3.putObj (w.heap.size + 1) (.loop (rec (if jump.isNone then .ready else .done) jump))).heap.size:=fun jump W3 hk3=>by
    have hl3:=(hk3.same _ (by omega) (by omega)).trans hl2;have:=run_endRound (P:=Tryz.prog) jump hl3;rw [hrec] at this ⊢;exact ⟨this,World.putObj_heap_same (Array.getElem?_eq_some_iff.1 hl3).1,(World.putObj_heap_other (by omega)).trans ((hk3.same _ (by omega) (by omega)).trans hk2),by have:=hk3.size;simp [World.putObj] at this ⊢;omega⟩
   rintro e a3 W3 hp
   cases e with
   | normal =>
    obtain ⟨hk3,hi3⟩:=hp;obtain ⟨hr,hl4,hk4,h6⟩:=fin none W3 hk3;exact ⟨_,_,hr,.inl ⟨rfl,⟨hI _ _ _ _ hi3 (grownBy_putObj' _ _ _) (by omega) (by omega),hl4,hk4⟩,h6⟩⟩
   | ret =>
    obtain ⟨hk3,hi3⟩:=hp;obtain ⟨hr,hl4,hk4,h6⟩:=fin (some .ret) W3 hk3;exact ⟨_,_,hr,.inr ⟨rfl,.ret,hIx _ () _ _ _ hi3 (grownBy_putObj' _ _ _) (by omega) (by omega),hl4,hk4⟩⟩
   | exit id =>
    obtain ⟨hk3,hi3⟩:=hp;obtain ⟨hr,hl4,hk4,h6⟩:=fin (some (.exit id)) W3 hk3;exact ⟨_,_,hr,.inr ⟨rfl,.exit id,hIx _ () _ _ _ hi3 (grownBy_putObj' _ _ _) (by omega) (by omega),hl4,hk4⟩⟩
   | goto t =>
    obtain ⟨hk3,hi3⟩:=hp;obtain ⟨hr,hl4,hk4,h6⟩:=fin (some (.goto t)) W3 hk3;exact ⟨_,_,hr,.inr ⟨rfl,.goto t,hIx _ () _ _ _ hi3 (grownBy_putObj' _ _ _) (by omega) (by omega),hl4,hk4⟩⟩
   | panic ch=>exact hp.elim
   | outgrown=>exact hp.elim
  ·rintro e W2 ⟨⟨v,rfl⟩,(⟨hi,hl,hk⟩ | ⟨c,hi,hl,hk⟩)⟩
   ·exact ⟨none,_,by have:=run_endLoop (P:=Tryz.prog) hl (by rw [hrec];simp);rw [hrec] at this;exact this,hdone _ _ rfl (hI _ _ _ _ hi (grownBy_putObj' _ _ _) (by omega) (by omega)) ((World.putObj_heap_other (by omega)).trans hk)⟩
   ·exact ⟨some c,_,by have:=run_endLoop (P:=Tryz.prog) hl (by rw [hrec];simp);rw [hrec] at this;exact this,hstop _ c _ rfl (hIx c () _ _ _ hi (grownBy_putObj' _ _ _) (by omega) (by omega)) ((World.putObj_heap_other (by omega)).trans hk)⟩
structure Kept1 (B:Nat) (w w':World):Prop where
 same:w'.heap[B]? = w.heap[B]?
 size:w.heap.size <= w'.heap.size
def One {β:Type} (B:Nat) (I:β -> World -> Prop):Prop:=∀ s W W',I s W -> W.grownBy W' (some B) -> I s W'
def post1 (B:Nat) (I:Nat -> World -> Prop) (Ix:Code -> World -> Prop) (k:Nat) (W:World):Exit -> Act -> World -> Prop
 | .normal,_,W'=>Kept1 B W W' /\ I k W'
 | .ret,_,W'=>Kept1 B W W' /\ Ix .ret W'
 | .exit id,_,W'=>Kept1 B W W' /\ Ix (.exit id) W'
 | .goto t,_,W'=>Kept1 B W W' /\ Ix (.goto t) W'
 | .panic _,_,_=>False
 | .outgrown,_,_=>False
theorem wpIn_range6 {g:Operand} {p:Tmp} {assign body:Code} {Q:Exit -> Act -> World -> Prop} {a:Act} {w:World} {n l₀:Nat} {r₀:Loop} (hl₀:w.heap[l₀]? = some (.loop r₀)) {gf:Nat} {lb:Array Value} (hg:a.eval g = .func (.func gf) #[] lb) (eg:∀ args w,(callFunc gf args).run Tryz.prog w = .ok (.enter gf args) w)
  {N:Nat} {Gv:Nat -> World -> World -> Value -> Prop} {Rep:World -> Prop} (hseq:Iter2 (n - 1) gf lb (w.heap.size - 1) N Gv Rep)
  (I:Nat -> World -> Prop) (Ix:Code -> World -> Prop) (hI:One w.heap.size I) (hIx:∀ c,One w.heap.size (fun (_:Unit)=>Ix c)) (hrep:∀ k W,I k W -> Rep W) (h0:I 0 w) (a₁:World -> Value -> Act) (aw:World -> Value -> World) (haw:∀ W v,Aft W (aw W v))
  (hassign:∀ (l k:Nat) (v:Value) (W0 W:World) (K:Act -> World -> Prop),Gv k W0 W v -> K (a₁ W v) (aw W v) ->
   assign.wpIn (Fence.wide.inRound l) (n - 1 - 1) Tryz.prog (Exit.then K (fun _ _ _=>False)) { tmps:=a.tmps.setIfInBounds p v,defers:=[] } W)
  (hbody:∀ (l k:Nat) (v:Value) (W0 W:World),k < N -> I k W0 -> Aft W0 W -> w.heap.size + 1 <= W0.heap.size -> Gv k W0 W v -> ∀ X,(∃ o,X = (aw W v).putObj w.heap.size o) -> body.wpIn (Fence.wide.inRound l) (n - 1 - 1) Tryz.prog (post1 w.heap.size I Ix (k + 1) X) (a₁ W v) X)
  (hdone:∀ W:World,I N W -> Q .normal a W)
  (hstop:∀ (c:Code) (W:World),Ix c W -> c.wpIn (Fence.wide.inRound l₀) n Tryz.prog Q a W) :
  (Code.rangeFunc g #[p] assign body).wpIn (Fence.wide.inRound l₀) n Tryz.prog Q a w:=by
 have hpos:w.heap.size - 1 + 1 = w.heap.size:=by have:=(Array.getElem?_eq_some_iff.1 hl₀).1;omega
 refine wpIn_rangeFunc ?_;intro fn hfn;obtain ⟨rec,hrec⟩:∃ rec:LoopState -> Option Code -> Loop,rec = fun st pe=>{ state:=st,pending:=pe,fn,tmps:=a.tmps,params:=#[p],assign,body,defers:=r₀.defers }:=⟨_,rfl⟩
 obtain ⟨W1,hW1⟩:∃ W1,w.alloc (.loop (rec .ready none)) = W1:=⟨_,rfl⟩;have hL1:W1.heap[w.heap.size]? = some (.loop (rec .ready none)):=by rw [<- hW1];exact World.alloc_heap_new w _
 have hs1:W1.heap.size = w.heap.size + 1:=by rw [<- hW1];simp
 have hI1:I 0 W1:=by
  have:=only_of_aft (Aft.alloc w (.loop (rec .ready none))) (some w.heap.size);rw [hW1] at this;exact hI _ _ _ h0 this
 refine ⟨w.heap.size,[],W1,{ target:=.fn (.func gf) lb,args:=#[.func (.yield w.heap.size) #[] #[]] },W1,gf,
  #[.func (.yield w.heap.size) #[] #[]] ++ lb,W1,?_,?_,?_,?_,(fun h=>by cases h),?_⟩
 ·rw [<- hW1,hrec];exact run_enterLoop_inner hl₀ _ _ _ _ _
 ·simp only [resolve,hg];simp [go_sem]
 ·intro f' hf';trivial
 ·simp [invoke,go_sem,eg]
 ·refine CallsIn.mono (CallsIn.inRound l₀ (hseq w.heap.size
   (fun k W=>I k W /\ W.heap[w.heap.size]? = some (.loop (rec .ready none)))
   (fun W=>∃ c,Ix c W /\ W.heap[w.heap.size]? = some (.loop (rec .done (some c))))
   W1 (by omega) (fun k W h=>hrep k W h.1) ?_ ⟨hI1,hL1⟩)) ?_
  ·rintro k v W0 W hkN ⟨hi,hl'⟩ ha hB hgv;have hl:W.heap[w.heap.size]? = some (.loop (rec .ready none)):=(ha.below.block _ (by omega)).trans hl';have hlt:w.heap.size < W.heap.size:=(Array.getElem?_eq_some_iff.1 hl).1;have hy:=run_yield (P:=Tryz.prog) (args:=#[v]) hl (by rw [hrec];rfl);rw [hrec] at hy;have hz:((#[p]:Array Tmp).zip #[v]).foldl (fun tmps (t,a)=>tmps.setIfInBounds t a) a.tmps = a.tmps.setIfInBounds p v:=by simp
   dsimp only at hy;rw [hz] at hy;refine ⟨fn,_,assign,body,hy,?_⟩;refine roundIn_of_wpIn hfn ?_;refine hassign _ k v W0 W _ hgv ?_;have hs0:=(haw W v).size;have hl'':(aw W v).heap[w.heap.size]? = some (.loop (rec .ready none)):=((haw W v).below.block _ hlt).trans hl;have hbody2:=hbody w.heap.size k v W0 W;obtain ⟨Wa,hWa⟩:∃ Wa,aw W v = Wa:=⟨_,rfl⟩;rw [hWa] at hl'' hs0 hbody2 ⊢;have hlta:w.heap.size < Wa.heap.size:=(Array.getElem?_eq_some_iff.1 hl'').1;refine ⟨_,run_beginRound hl'' (by rw [hrec]),?_⟩;have hl2:(Wa.putObj w.heap.size (.loop { rec .ready none with state:=.busy })).heap[w.heap.size]? = some (.loop { rec .ready none with state:=.busy }):=World.putObj_heap_same hlta;have hsz2:(Wa.putObj w.heap.size (.loop { rec .ready none with state:=.busy })).heap.size = Wa.heap.size:=by simp [World.putObj]
   refine wpIn_mono (hbody2 hkN hi ha (by omega) hgv _ ⟨_,rfl⟩) ?_;have fin:∀ (jump:Option Code) (W3:World),Kept1 w.heap.size (Wa.putObj w.heap.size (.loop { rec .ready none with state:=.busy })) W3 ->
     (Instr.endRound w.heap.size jump).run Tryz.prog W3 = .ok (.bool jump.isNone) (W3.putObj w.heap.size (.loop (rec (if jump.isNone then .ready else .done) jump))) /\
     (W3.putObj w.heap.size (.loop (rec (if jump.isNone then .ready else .done) jump))).heap[w.heap.size]? = some (.loop (rec (if jump.isNone then .ready else .done) jump)) /\
     W.heap.size <= (W3.putObj w.heap.size (.loop (rec (if jump.isNone then .ready else .done) jump))).heap.size:=fun jump W3 hk3=>by
    have hl3:=hk3.same.trans hl2;have:=run_endRound (P:=Tryz.prog) jump hl3;rw [hrec] at this ⊢;exact ⟨this,World.putObj_heap_same (Array.getElem?_eq_some_iff.1 hl3).1,by have:=hk3.size;simp [World.putObj] at this ⊢;omega⟩
   rintro e a3 W3 hp
   cases e with
   | normal =>
    obtain ⟨hk3,hi3⟩:=hp;obtain ⟨hr,hl4,h6⟩:=fin none W3 hk3;exact ⟨_,_,hr,.inl ⟨rfl,⟨hI _ _ _ hi3 (grownBy_putObj' _ _ _),hl4⟩,h6⟩⟩
   | ret =>
    obtain ⟨hk3,hi3⟩:=hp;obtain ⟨hr,hl4,h6⟩:=fin (some .ret) W3 hk3;exact ⟨_,_,hr,.inr ⟨rfl,.ret,hIx _ () _ _ hi3 (grownBy_putObj' _ _ _),hl4⟩⟩
   | exit id =>
    obtain ⟨hk3,hi3⟩:=hp;obtain ⟨hr,hl4,h6⟩:=fin (some (.exit id)) W3 hk3;exact ⟨_,_,hr,.inr ⟨rfl,.exit id,hIx _ () _ _ hi3 (grownBy_putObj' _ _ _),hl4⟩⟩
   | goto t =>
    obtain ⟨hk3,hi3⟩:=hp;obtain ⟨hr,hl4,h6⟩:=fin (some (.goto t)) W3 hk3;exact ⟨_,_,hr,.inr ⟨rfl,.goto t,hIx _ () _ _ hi3 (grownBy_putObj' _ _ _),hl4⟩⟩
   | panic ch=>exact hp.elim
   | outgrown=>exact hp.elim
  ·rintro e W2 ⟨⟨v,rfl⟩,(⟨hi,hl⟩ | ⟨c,hi,hl⟩)⟩
   ·exact ⟨none,_,by have:=run_endLoop (P:=Tryz.prog) hl (by rw [hrec];simp);rw [hrec] at this;exact this,hdone _ (hI _ _ _ hi (grownBy_putObj' _ _ _))⟩
   ·exact ⟨some c,_,by have:=run_endLoop (P:=Tryz.prog) hl (by rw [hrec];simp);rw [hrec] at this;exact this,hstop c _ (hIx c () _ _ hi (grownBy_putObj' _ _ _))⟩
end Go.Proofs
end
