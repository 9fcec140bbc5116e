/- Own texts, merged: Ttr1 Ttw0 Rfa Rgj Rgw. -/
import Derived.Test.YtobpdobneocckaaGreatDoorP09
section
/- Walks: the law's Treaty: its drawn region 1. -/
namespace Go.Proofs
open Go.RowKit
theorem blk_five36 {w:World} {b:Nat} (h:Blk w b 35 #[.int .i64 0,.slice none 0 0,.slice none 0 0,.slice none 0 0,.slice none 0 0]) (x0 x1 x2 x3 x4:Value) :
  Blk (((((w.setCell ⟨b,0,none⟩ x0).setCell ⟨b,1,none⟩ x1).setCell ⟨b,2,none⟩ x2).setCell ⟨b,3,none⟩ x3).setCell ⟨b,4,none⟩ x4) b 35 #[x0,x1,x2,x3,x4] /\ w.grownBy (((((w.setCell ⟨b,0,none⟩ x0).setCell ⟨b,1,none⟩ x1).setCell ⟨b,2,none⟩ x2).setCell ⟨b,3,none⟩ x3).setCell ⟨b,4,none⟩ x4) (some b) :=
 ⟨((((h.store 0 x0).store 1 x1).store 2 x2).store 3 x3).store 4 x4,only_setCell (only_setCell (only_setCell (only_setCell (only_setCell (only_refl w (some b)) (.inl rfl) x0) (.inl rfl) x1) (.inl rfl) x2) (.inl rfl) x3) (.inl rfl) x4⟩
def Good1t (W8:World) (T:Treaty) (b:Nat) (w:World):Prop:=∃ v3,Blk w b 35 #[.int .i64 T.places,.slice none 0 0,.slice none 0 0,v3,.slice none 0 0] /\ w.ownsRow W8.heap.size 3 1 v3 T.starts.length (T.starts.map (Value.int .i64))
structure Wt1 (W8:World) (_:Nat -> Bool) (w:World):Prop where
 aft:Aft W8 w
def Factt1 (B1:Nat) (W8:World) (T:Treaty) (a1 a2 a3 a4:Option Addr) (c1 c2 c3 c4:Nat) (done:Nat -> Bool):Nat -> Value -> World -> Prop
 | 0,v,_=>v = .pointer (some ⟨B1,0,none⟩)
 | 1,v,_=>v = .int .i64 T.places
 | 2,v,_=>v = .pointer (some ⟨B1,3,none⟩)
 | 3,v,_=>v = .slice a3 T.starts.length c3
 | 4,v,w=>w.ownsRow W8.heap.size 3 1 v T.starts.length (T.starts.map (Value.int .i64))
 | 5,v,w=>∃ v3,v = .agg #[.int .i64 T.places,.slice none 0 0,.slice none 0 0,v3,.slice none 0 0] /\ w.ownsRow W8.heap.size 3 1 v3 T.starts.length (T.starts.map (Value.int .i64))
 | 6,v,w=>∃ b,v = .pointer (some ⟨b,0,none⟩) /\ W8.heap.size <= b /\ (done 7 = false -> Blk w b 35 #[.int .i64 0,.slice none 0 0,.slice none 0 0,.slice none 0 0,.slice none 0 0]) /\ (done 7 = true -> Good1t W8 T b w)
 | _,_,_=>True
section
variable {B1:Nat} {W8:World} {T:Treaty} {a1 a2 a3 a4:Option Addr} {c1 c2 c3 c4:Nat} {done done':Nat -> Bool} {w w':World} {i:Nat} {v:Value}
theorem Good1t.aft {b:Nat} (h:Good1t W8 T b w) (ha:Aft w w'):Good1t W8 T b w':=let ⟨v3,h1,h2⟩:=h;⟨v3,h1.aft ha,own_aft h2 ha⟩
theorem Factt1.aft (ha:Aft w w') (hd:done' 7 = done 7) (h:Factt1 B1 W8 T a1 a2 a3 a4 c1 c2 c3 c4 done i v w):Factt1 B1 W8 T a1 a2 a3 a4 c1 c2 c3 c4 done' i v w':=by
 unfold Factt1 at h ⊢
 split at h <;> first
  | exact h
  | exact own_aft h ha
  | (obtain ⟨v3,e,h1⟩:=h;exact ⟨v3,e,own_aft h1 ha⟩)
  | (obtain ⟨b,e,h1,h2,h3⟩:=h;exact ⟨b,e,h1,fun h=>(h2 (by rw [<- hd];exact h)).aft ha,fun h=>(h3 (by rw [<- hd];exact h)).aft ha⟩)
theorem Factt1.low {g:Nat} (hg:w.grownBy w' (some g)) {cs:Array Value} (hb:Blk w g 35 cs) (hi:i ≠ 6) (h:Factt1 B1 W8 T a1 a2 a3 a4 c1 c2 c3 c4 done i v w):Factt1 B1 W8 T a1 a2 a3 a4 c1 c2 c3 c4 done' i v w':=by
 have k:∀ {e sz n:Nat} {v:Value} {xs:List Value},w.ownsRow W8.heap.size e sz v n xs -> e ≠ 35 -> w'.ownsRow W8.heap.size e sz v n xs:=fun h he=>own_kept3 h hg (fun q e=>by cases e;exact own_ne36 h he hb)
 unfold Factt1 at h ⊢
 split at h <;> first
  | exact h
  | omega
  | exact k h (by decide)
  | (obtain ⟨v3,e,h1⟩:=h;exact ⟨v3,e,k h1 (by decide)⟩)
end
def cht1 (s:Nat):Bool:=decide (s = 3) || decide (s = 13) || decide (s = 14) || decide (s = 15) || decide (s = 16) || decide (s = 17) || decide (s = 18)
set_option maxRecDepth 100000 in
set_option maxHeartbeats 2000000 in
theorem region1_tr (T:Treaty) (a1 a2 a3 a4:Option Addr) (c1 c2 c3 c4:Nat) (B1:Nat) (a0:Act) (Q0:Exit -> Act -> World -> Prop) (W8:World)
  (hz:a0.tmps.size = 79) (s1:a0.eval (.tmp 1) = .pointer (some ⟨B1,0,none⟩))
  (hT:TRep W8 T a1 a2 a3 a4) (hbx:Blk W8 B1 27 #[.int .i64 T.places,.slice a1 T.ways.length c1,.slice a2 T.words.length c2,.slice a3 T.starts.length c3,.slice a4 T.legs.length c4])
  (hexit:∀ a W' b,a.tmps.size = 79 -> a.defers = a0.defers -> (∀ s:Nat,cht1 s = false -> a.eval (.tmp s) = a0.eval (.tmp s)) -> a.eval (.tmp 3) = .pointer (some ⟨b,0,none⟩) -> W8.heap.size <= b -> Good1t W8 T b W' -> Aft W8 W' -> Q0 .normal a W') :
  Code.wp Tryz.prog (Code.region 1 (opsTt 1).toArray true) Q0 a0 W8:=by
 have HEX:=Lib.hid hexit;clear hexit;refine wp_region_factsE (by kernel_rfl) 79 hz (by kernel_rfl) (Factt1 B1 W8 T a1 a2 a3 a4 c1 c2 c3 c4) (Wt1 W8) ⟨Aft.drew _⟩ ?step ?fin
 case step =>
  intro i o ho done a w hH hd hp K hK;have hW:=hH.wd
  have hold:∀ s:Nat,cht1 s = false -> a.eval (.tmp s) = a0.eval (.tmp s):=fun s h=>hH.old s fun k ok hk hs=>by
   match k,hk with
   | 0,hk=>cases hk;cases hs;exact absurd h (by decide)
   | 1,hk=>cases hk;cases hs;exact absurd h (by decide)
   | 2,hk=>cases hk;cases hs;exact absurd h (by decide)
   | 3,hk=>cases hk;cases hs;exact absurd h (by decide)
   | 4,hk=>cases hk;cases hs;exact absurd h (by decide)
   | 5,hk=>cases hk;cases hs;exact absurd h (by decide)
   | 6,hk=>cases hk;cases hs;exact absurd h (by decide)
   | 7,hk=>cases hk;cases hs
   | _ + 8,hk=>cases hk
  have hbox:Blk w B1 27 #[.int .i64 T.places,.slice a1 T.ways.length c1,.slice a2 T.words.length c2,.slice a3 T.starts.length c3,.slice a4 T.legs.length c4]:=hbx.aft hW.aft
  have h13':i ≠ 7 -> done 7 = false:=fun hi=>by
   cases hdk:done 7 with
   | false=>rfl
   | true=>have:=hH.closed 7 _ rfl hdk i (by revert hd;match i,ho with
    | 0,_=>intro _;decide
    | 1,_=>intro _;decide
    | 2,_=>intro _;decide
    | 3,_=>intro _;decide
    | 4,_=>intro _;decide
    | 5,_=>intro _;decide
    | 6,_=>intro _;decide
    | 7,_=>exact absurd rfl hi
    | _ + 8,ho=>cases ho);rw [hd] at this;cases this
  have hK':∀ v,i ≠ 7 -> Factt1 B1 W8 T a1 a2 a3 a4 c1 c2 c3 c4 (Go.upd done i) i v w -> K (a.put o.dst v) w:=fun v h9 hv=>hK v w hv ⟨hW.aft⟩ fun j _ _ _ _ _ hu=>Factt1.aft (Aft.refl w) (by unfold Go.upd;rw [if_neg (Ne.symm h9)]) hu
  match i,ho,hd,hp,hK,hK',h13' with
  | 0,ho,hd,hp,hK,hK',h13' =>
   cases ho;have e:a.eval (.tmp 1) = .pointer (some ⟨B1,0,none⟩):=(hold 1 (by decide)).trans s1;exact op_value (by simp [go_sem,ev e]) (hK' _ (by decide) rfl)
  | 1,ho,hd,hp,hK,hK',h13' =>
   cases ho;have e:a.eval (.tmp 13) = .pointer (some ⟨B1,0,none⟩):=hH.fact 0 _ 13 rfl rfl (hp 0 (by decide));have hc:w.cell? ⟨B1,0,none⟩ = some (.int .i64 T.places):=hbox.cell 0;exact op_value (by simp [go_sem,ev e,hc]) (hK' _ (by decide) rfl)
  | 2,ho,hd,hp,hK,hK',h13' =>
   cases ho;have e:a.eval (.tmp 1) = .pointer (some ⟨B1,0,none⟩):=(hold 1 (by decide)).trans s1;exact op_value (by simp [go_sem,ev e]) (hK' _ (by decide) rfl)
  | 3,ho,hd,hp,hK,hK',h13' =>
   cases ho;have e:a.eval (.tmp 15) = .pointer (some ⟨B1,3,none⟩):=hH.fact 2 _ 15 rfl rfl (hp 2 (by decide));have hc:w.cell? ⟨B1,3,none⟩ = some (.slice a3 T.starts.length c3):=hbox.cell 3;exact op_value (by simp [go_sem,ev e,hc]) (hK' _ (by decide) rfl)
  | 4,ho,hd,hp,hK,hK',h13' =>
   cases ho;have e:a.eval (.tmp 16) = .slice a3 T.starts.length c3:=hH.fact 3 _ 16 rfl rfl (hp 3 (by decide));refine op_call1 Tryz.func46 (by kernel_rfl) (by kernel_rfl) _ rfl e (kitClone_int a3 T.starts c3 w (hT.aft hW.aft).starts) ?_;rintro e w' ⟨v,rfl,hown,ha⟩;exact ⟨_,rfl,hK _ _ (World.ownsRow.mono hown hW.aft.size) ⟨hW.aft.trans ha⟩ fun j _ _ _ _ _ hu=>Factt1.aft ha rfl hu⟩
  | 5,ho,hd,hp,hK,hK',h13' =>
   cases ho;have e0:a.eval (.tmp 14) = .int .i64 T.places:=hH.fact 1 _ 14 rfl rfl (hp 1 (by decide));obtain ⟨v3,e3⟩:∃ v,a.eval (.tmp 17) = v:=⟨_,rfl⟩;have g3:w.ownsRow W8.heap.size 3 1 v3 T.starts.length (T.starts.map (Value.int .i64)):=by rw [<- e3];exact hH.fact 4 _ 17 rfl rfl (hp 4 (by decide))
   have hf:Factt1 B1 W8 T a1 a2 a3 a4 c1 c2 c3 c4 (Go.upd done 5) 5 (.agg #[.int .i64 T.places,.slice none 0 0,.slice none 0 0,v3,.slice none 0 0]) w:=⟨v3,rfl,g3⟩;obtain ⟨s3A,s3n,s3c,rfl⟩:=own_slice' g3;exact op_value (by simp [go_sem,ev e0,ev e3]) (hK' _ (by decide) hf)
  | 6,ho,hd,hp,hK,hK',h13' =>
   cases ho;have h13:=h13' (by decide);have ha:=Aft.alloc w (.cells #[.int .i64 0,.slice none 0 0,.slice none 0 0,.slice none 0 0,.slice none 0 0] 35);have h1:Factt1 B1 W8 T a1 a2 a3 a4 c1 c2 c3 c4 (Go.upd done 6) 6 (.pointer (some ⟨w.heap.size,0,none⟩)) (w.alloc (.cells #[.int .i64 0,.slice none 0 0,.slice none 0 0,.slice none 0 0,.slice none 0 0] 35)):=⟨_,rfl,hW.aft.size,fun _=>Blk.new _ _ _,fun h=>by rw [show Go.upd done 6 7 = done 7 from rfl,h13] at h;cases h⟩;have:=hK _ _ h1 ⟨hW.aft.trans ha⟩ fun j _ _ _ _ _ hu=>Factt1.aft ha rfl hu
   unfold Oper.wp;simpa [go_sem] using this
  | 7,ho,hd,hp,hK,hK',h13' =>
   cases ho;obtain ⟨v3,e,g3⟩:∃ v3,a.eval (.tmp 18) = .agg #[.int .i64 T.places,.slice none 0 0,.slice none 0 0,v3,.slice none 0 0] /\ w.ownsRow W8.heap.size 3 1 v3 T.starts.length (T.starts.map (Value.int .i64)):=hH.fact 5 _ 18 rfl rfl (hp 5 (by decide));obtain ⟨b,e2,hbb,hbl,-⟩:∃ b,a.eval (.tmp 3) = .pointer (some ⟨b,0,none⟩) /\ W8.heap.size <= b /\ (done 7 = false -> Blk w b 35 #[.int .i64 0,.slice none 0 0,.slice none 0 0,.slice none 0 0,.slice none 0 0]) /\ (done 7 = true -> Good1t W8 T b w):=hH.fact 6 _ 3 rfl rfl (hp 6 (by decide));have hb0:=hbl hd;obtain ⟨h5,hg5⟩:=blk_five36 hb0 (.int .i64 T.places) (.slice none 0 0) (.slice none 0 0) v3 (.slice none 0 0);have k:∀ {e sz n:Nat} {v:Value} {xs:List Value},w.ownsRow W8.heap.size e sz v n xs -> e ≠ 35 -> World.ownsRow (((((w.setCell ⟨b,0,none⟩ (.int .i64 T.places)).setCell ⟨b,1,none⟩ (.slice none 0 0)).setCell ⟨b,2,none⟩ (.slice none 0 0)).setCell ⟨b,3,none⟩ v3).setCell ⟨b,4,none⟩ (.slice none 0 0)) W8.heap.size e sz v n xs:=fun h he=>own_kept3 h hg5 (fun q e=>by cases e;exact own_ne36 h he hb0)
   have hgood:Good1t W8 T b _:=⟨v3,h5,k g3 (by decide)⟩
   have:=hK undef _ trivial ⟨hW.aft.grown hg5 (fun q e=>by cases e;exact hbb)⟩ fun j oj s hoj hs hj hu=>by
    by_cases hj12:j = 6
    ·subst hj12;cases hoj;cases hs;exact ⟨b,e2,hbb,fun h=>(by (have h':Go.upd done 7 7 = true:=rfl);rw [h'] at h;cases h),fun _=>hgood⟩
    ·exact Factt1.low hg5 hb0 hj12 hu
   obtain ⟨s3A,s3n,s3c,rfl⟩:=own_slice' g3;have hlt:=hb0.lt;have hf:∀ i,w.frozen? ⟨b,i,none⟩ = false:=fun i=>hb0.frozen i
   have j0:w.cell? ⟨b,0,none⟩ = some (.int .i64 0):=hb0.cell 0;have j1:w.cell? ⟨b,1,none⟩ = some (.slice none 0 0):=hb0.cell 1;have j2:w.cell? ⟨b,2,none⟩ = some (.slice none 0 0):=hb0.cell 2;have j3:w.cell? ⟨b,3,none⟩ = some (.slice none 0 0):=hb0.cell 3;have j4:w.cell? ⟨b,4,none⟩ = some (.slice none 0 0):=hb0.cell 4;unfold Oper.wp;simpa [go_sem,ev e,ev e2,hf,j0,j1,j2,j3,j4,hlt] using this
  | _ + 8,ho,_,_,_,_,_=>cases ho
 case fin =>
  intro done a w hall hH;have hdone:∀ i,i < 8 -> done i = true:=fun i hi=>hall i (by exact hi)
  have hold:∀ s:Nat,cht1 s = false -> a.eval (.tmp s) = a0.eval (.tmp s):=fun s h=>hH.old s fun k ok hk hs=>by
   match k,hk with
   | 0,hk=>cases hk;cases hs;exact absurd h (by decide)
   | 1,hk=>cases hk;cases hs;exact absurd h (by decide)
   | 2,hk=>cases hk;cases hs;exact absurd h (by decide)
   | 3,hk=>cases hk;cases hs;exact absurd h (by decide)
   | 4,hk=>cases hk;cases hs;exact absurd h (by decide)
   | 5,hk=>cases hk;cases hs;exact absurd h (by decide)
   | 6,hk=>cases hk;cases hs;exact absurd h (by decide)
   | 7,hk=>cases hk;cases hs
   | _ + 8,hk=>cases hk
  obtain ⟨b,e,h1,-,h2⟩:∃ b,a.eval (.tmp 3) = .pointer (some ⟨b,0,none⟩) /\ W8.heap.size <= b /\ (done 7 = false -> Blk w b 35 #[.int .i64 0,.slice none 0 0,.slice none 0 0,.slice none 0 0,.slice none 0 0]) /\ (done 7 = true -> Good1t W8 T b w):=hH.fact 6 _ 3 rfl rfl (hdone 6 (by decide));exact HEX.out a w b (hH.size.trans hz) hH.defers hold e h1 (h2 (hdone 7 (by decide))) hH.wd.aft
set_option maxRecDepth 100000 in
set_option maxHeartbeats 2000000 in
theorem region1_trlit (T:Treaty) (a1 a2 a3 a4:Option Addr) (c1 c2 c3 c4:Nat) (B1:Nat) (W8:World) (hT:TRep W8 T a1 a2 a3 a4) (hbx:Blk W8 B1 27 #[.int .i64 T.places,.slice a1 T.ways.length c1,.slice a2 T.words.length c2,.slice a3 T.starts.length c3,.slice a4 T.legs.length c4])
  (q0 q2 q3 q4 q5 q6 q7 q8 q9 q10 q11 q12 q13 q14 q15 q16 q17 q18 q19 q20 q21 q22 q23 q24 q25 q26 q27 q28 q29 q30 q31 q32 q33 q34 q35 q36 q37 q38 q39 q40 q41 q42 q43 q44 q45 q46 q47 q48 q49 q50 q51 q52 q53 q54 q55 q56 q57 q58 q59 q60 q61 q62 q63 q64 q65 q66 q67 q68 q69 q70 q71 q72 q73 q74 q75 q76 q77 q78:Value) (Q0:Exit -> Act -> World -> Prop)
  (hexit:∀ (u3 u13 u14 u15 u16 u17 u18:Value) W' b,u3 = .pointer (some ⟨b,0,none⟩) -> W8.heap.size <= b -> Good1t W8 T b W' -> Aft W8 W' -> Q0 .normal ⟨(List.toArray (q0 :: .pointer (some ⟨B1,0,none⟩) :: q2 :: u3 :: q4 :: q5 :: q6 :: q7 :: q8 :: q9 :: q10 :: q11 :: q12 :: u13 :: u14 :: u15 :: u16 :: u17 :: u18 :: q19 :: q20 :: q21 :: q22 :: q23 :: q24 :: q25 :: q26 :: q27 :: q28 :: q29 :: q30 :: q31 :: q32 :: q33 :: q34 :: q35 :: q36 :: q37 :: q38 :: q39 :: q40 :: q41 :: q42 :: q43 :: q44 :: q45 :: q46 :: q47 :: q48 :: q49 :: q50 :: q51 :: q52 :: q53 :: q54 :: q55 :: q56 :: q57 :: q58 :: q59 :: q60 :: q61 :: q62 :: q63 :: q64 :: q65 :: q66 :: q67 :: q68 :: q69 :: q70 :: q71 :: q72 :: q73 :: q74 :: q75 :: q76 :: q77 :: q78 :: [])),[]⟩ W') :
  Code.wp Tryz.prog (Code.region 1 (opsTt 1).toArray true) Q0 ⟨(List.toArray (q0 :: .pointer (some ⟨B1,0,none⟩) :: q2 :: q3 :: q4 :: q5 :: q6 :: q7 :: q8 :: q9 :: q10 :: q11 :: q12 :: q13 :: q14 :: q15 :: q16 :: q17 :: q18 :: q19 :: q20 :: q21 :: q22 :: q23 :: q24 :: q25 :: q26 :: q27 :: q28 :: q29 :: q30 :: q31 :: q32 :: q33 :: q34 :: q35 :: q36 :: q37 :: q38 :: q39 :: q40 :: q41 :: q42 :: q43 :: q44 :: q45 :: q46 :: q47 :: q48 :: q49 :: q50 :: q51 :: q52 :: q53 :: q54 :: q55 :: q56 :: q57 :: q58 :: q59 :: q60 :: q61 :: q62 :: q63 :: q64 :: q65 :: q66 :: q67 :: q68 :: q69 :: q70 :: q71 :: q72 :: q73 :: q74 :: q75 :: q76 :: q77 :: q78 :: [])),[]⟩ W8:=by
 refine region1_tr T a1 a2 a3 a4 c1 c2 c3 c4 B1 _ Q0 W8 rfl rfl hT hbx ?_;intro a W' b hz hd hs h1 h2 h3 h4;have e:=frame_act 79 a _ hz hd cht1 (fun s hp=>hs s hp);have e2:a = ⟨(List.toArray (q0 :: .pointer (some ⟨B1,0,none⟩) :: q2 :: a.eval (.tmp 3) :: q4 :: q5 :: q6 :: q7 :: q8 :: q9 :: q10 :: q11 :: q12 :: a.eval (.tmp 13) :: a.eval (.tmp 14) :: a.eval (.tmp 15) :: a.eval (.tmp 16) :: a.eval (.tmp 17) :: a.eval (.tmp 18) :: q19 :: q20 :: q21 :: q22 :: q23 :: q24 :: q25 :: q26 :: q27 :: q28 :: q29 :: q30 :: q31 :: q32 :: q33 :: q34 :: q35 :: q36 :: q37 :: q38 :: q39 :: q40 :: q41 :: q42 :: q43 :: q44 :: q45 :: q46 :: q47 :: q48 :: q49 :: q50 :: q51 :: q52 :: q53 :: q54 :: q55 :: q56 :: q57 :: q58 :: q59 :: q60 :: q61 :: q62 :: q63 :: q64 :: q65 :: q66 :: q67 :: q68 :: q69 :: q70 :: q71 :: q72 :: q73 :: q74 :: q75 :: q76 :: q77 :: q78 :: [])),[]⟩:=e;have h:=hexit (a.eval (.tmp 3)) (a.eval (.tmp 13)) (a.eval (.tmp 14)) (a.eval (.tmp 15)) (a.eval (.tmp 16)) (a.eval (.tmp 17)) (a.eval (.tmp 18)) W' b h1 h2 h3 h4;rw [<- e2] at h;exact h
end Go.Proofs
end
section
/- Plain lemmas for the walk of the law's Treaty: what lies in the record under way. -/
namespace Go.Proofs
open Go.RowKit
theorem ty32:SliceTy Tryz.prog 31 86 3 24:=.mk' (z:=.agg #[.int .i64 0,.int .i64 0,.int .i64 0]) Tryz.underlying31 (by kernel_rfl) rfl (by decide)
theorem ty33:SliceTy Tryz.prog 32 87 1 24:=.mk' (z:=.slice none 0 0) Tryz.underlying32 (by kernel_rfl) rfl (by decide)
theorem ty34:SliceTy Tryz.prog 33 89 2 16:=.mk' (z:=.agg #[.int .i64 0,.int .i64 0]) Tryz.underlying33 (by kernel_rfl) rfl (by decide)
theorem one_way (x:Way):∀ u ∈ encWay x,u.oneCell' = true:=fun u hu=>by
 rcases List.mem_cons.1 hu with rfl | hu
 ·rfl
 ·rcases List.mem_cons.1 hu with rfl | hu
  ·rfl
  ·rw [List.mem_singleton] at hu;subst hu;rfl
theorem one_leg (x:Leg):∀ u ∈ encLeg x,u.oneCell' = true:=fun u hu=>by
 rcases List.mem_cons.1 hu with rfl | hu
 ·rfl
 ·rw [List.mem_singleton] at hu;subst hu;rfl
def MF {α:Type} (Y:World) (b e sz:Nat) (enc:α -> List Value) (mk:Value -> Array Value) (l:List α) (W:World):Prop :=
 ∃ v,Y.grownBy W (some b) /\ Blk W b 35 (mk v) /\ W.ownsRow Y.heap.size e sz v l.length (l.flatMap enc)
theorem MF.nil {α:Type} {Y:World} {b e sz:Nat} {enc:α -> List Value} {mk:Value -> Array Value} (h:Blk Y b 35 (mk (.slice none 0 0))):MF Y b e sz enc mk ([]:List α) Y :=
 ⟨_,World.grownBy.refl _ _,h,World.ownsRow_nil _ _ e sz⟩
theorem slot_put {Y W w6:World} {b i e sz n n':Nat} {cs:Array Value} {v v':Value} {xs xs':List Value} (hY:Y.grownBy W (some b)) (hb:Blk W b 35 cs) (ho:W.ownsRow Y.heap.size e sz v n xs) (he:e ≠ 35) (hg:W.grownBy w6 v.ownBlock) (ho6:w6.ownsRow Y.heap.size e sz v' n' xs') :
  Y.grownBy (w6.setCell ⟨b,i,none⟩ v') (some b) /\ Blk (w6.setCell ⟨b,i,none⟩ v') b 35 (cs.setIfInBounds i v') /\ (w6.setCell ⟨b,i,none⟩ v').ownsRow Y.heap.size e sz v' n' xs':=by
 have hb6:Blk w6 b 35 cs:=hb.grown hg (fun e2=>own_ne36 ho he hb e2.symm);exact ⟨only_setCell (only_grown hY hg (fun k e=>(ho.lt k e).1)) (.inl rfl) _,hb6.store i v',own_kept3 ho6 (setc' w6 b i v') (fun q e=>by cases e;exact own_ne36 ho6 he hb6)⟩
theorem MF.put {α:Type} {Y W w6:World} {b i e sz:Nat} {enc:α -> List Value} {mk:Value -> Array Value} {l:List α} {x:α} {v v':Value} (hY:Y.grownBy W (some b)) (hb:Blk W b 35 (mk v)) (ho:W.ownsRow Y.heap.size e sz v l.length (l.flatMap enc)) (he:e ≠ 35) (hg:W.grownBy w6 v.ownBlock) (ho6:w6.ownsRow Y.heap.size e sz v' (l.length + 1) (l.flatMap enc ++ enc x)) (hi:(mk v).setIfInBounds i v' = mk v') :
  MF Y b e sz enc mk (l ++ [x]) (w6.setCell ⟨b,i,none⟩ v'):=by
 obtain ⟨h1,h2,h3⟩:=slot_put (i:=i) hY hb ho he hg ho6;rw [hi] at h2;exact ⟨v',h1,h2,by simpa [List.flatMap_append] using h3⟩
theorem OwnK.word90 {W:World} {base:Nat} {v:Value} {xs:List Value} {S:Nat -> Prop} {ms:List Mean} (h:OwnK MeanR 88 2 base v S ms xs W) (hl:ms.length <= 1000):Sup W (fun k=>S k \/ v.ownBlock = some k) (fun W'=>WordR W' ms [v]):=by
 obtain ⟨A,c,e,_,hs⟩:=h.rowsP (by omega);exact hs.mono fun W' h=>⟨A,c,by rw [e],h⟩
def MWt (Y:World) (b:Nat) (P v1 v3 v4:Value) (ws:List (List Mean)) (W:World):Prop :=
 ∃ (v2:Value) (S:Nat -> Prop) (xs:List Value),Y.grownBy W (some b) /\ Blk W b 35 #[P,v1,v2,v3,v4] /\ OwnK WordR 87 1 Y.heap.size v2 S ws xs W /\ N36 W S
def MMt (y:World) (l:List Mean) (k:Nat) (vS:Value) (W:World):Prop :=
 ∃ (S:Nat -> Prop) (xs:List Value),Aft y W /\ OwnK MeanR 88 2 y.heap.size vS S (l.take k) xs W /\ N36 W S
theorem words_put {Y W w6:World} {b yn:Nat} {P v1 v2 v3 v4 v' vw:Value} {S S3:Nat -> Prop} {ws:List (List Mean)} {l:List Mean} {xs xs3:List Value} (hY:Y.grownBy W (some b)) (hb:Blk W b 35 #[P,v1,v2,v3,v4])
  (h2:OwnK WordR 87 1 Y.heap.size v2 S ws xs W) (hn:N36 W S) (hv2:∀ q,v2.ownBlock = some q -> q < yn) (hk:OwnK MeanR 88 2 yn vw S3 l xs3 W) (hn3:N36 W S3) (hyY:Y.heap.size <= yn) (hl:l.length <= 1000)
  (ho6:w6.ownsRow Y.heap.size 87 1 v' (ws.length + 1) (xs ++ [vw])) (hg:W.grownBy w6 v2.ownBlock) (hat:v'.ownBlock = v2.ownBlock \/ v'.ownBlock = some W.heap.size):MWt Y b P v1 v3 v4 (ws ++ [l]) (w6.setCell ⟨b,2,none⟩ v'):=by
 have hword:=hk.word90 hl;have hfar:∀ q,(S3 q \/ vw.ownBlock = some q) -> yn <= q:=fun q hq=>hq.elim (fun h=>(hk.far q h).1) (fun e=>(hk.own.lt q e).1)
 have hpush:=h2.push hword rfl (fun q hq=>⟨Nat.le_trans hyY (hfar q hq),fun e=>by have:=hv2 q e;have:=hfar q hq;omega⟩) ho6 hg hat
 have hn6:N36 w6 (fun q=>S q \/ (S3 q \/ vw.ownBlock = some q)):=fun q hq=>by
  have hlt6:q < W.heap.size:=hq.elim (fun h=>h2.lt q h) (fun h=>hword.1 q h);have hne:some q ≠ v2.ownBlock:=fun e=>hq.elim (fun h=>(h2.far q h).2 e.symm) (fun h=>by have:=hv2 q e.symm;have:=hfar q h;omega)
  rw [hg.block q hlt6 hne];exact hq.elim (fun h=>hn q h) (fun h=>h.elim (fun h=>hn3 q h) (fun e=>own_n36 hk.own (by decide) q e))
 obtain ⟨p1,p2,p3⟩:=slot_put (i:=2) hY hb h2.own (by decide) hg ho6;have hb6:Blk w6 b 35 #[P,v1,v2,v3,v4]:=hb.grown hg (fun e2=>own_ne36 h2.own (by decide) hb e2.symm);have hgs:=setc' w6 b 2 v';have hnb:=hn6.not hb6;exact ⟨v',_,_,p1,p2,hpush.kept3 hgs (fun q e=>by cases e;exact ⟨own_ne36 ho6 (by decide) hb6,hnb⟩),hn6.kept3 hpush.lt hgs (fun q e=>by cases e;exact hnb)⟩
end Go.Proofs
end
section
/- Walks: the reference's small helpers: beside,anyBeside,has. -/
namespace Go.Proofs
open Go.RowKit
theorem beside_any (n a b:Int) (w:World):Calls Tryz.prog 112 #[.int .i64 n,.int .i64 a,.int .i64 b] w fun e w'=>e = .returned (.bool (!fromB n a b)) /\ w' = w:=by
 by_cases h1:n < a
 ·have hf:fromB n a b = false:=fromB_not.2 (by omega);have hd:decide (n < a) = true:=decide_eq_true h1;go_enter Tryz.func112,Tryz.ntmps112;go_wp2;go_ret;exact ⟨ret_bool (by first | rfl | (rw [hf];rfl)),rfl⟩
 ·have hd:decide (n < a) = false:=decide_eq_false h1;by_cases h2:b < n
  ·have hf:fromB n a b = false:=fromB_not.2 (by omega);have hd2:decide (b < n) = true:=decide_eq_true h2;go_enter Tryz.func112,Tryz.ntmps112;go_wp2;go_ret;exact ⟨ret_bool (by first | rfl | (rw [hf];rfl)),rfl⟩
  ·have hf:fromB n a b = true:=fromB_iff.2 (by omega);have hd2:decide (b < n) = false:=decide_eq_false h2;go_enter Tryz.func112,Tryz.ntmps112;go_wp2;go_ret;exact ⟨ret_bool (by first | rfl | (rw [hf];rfl)),rfl⟩
theorem has_any (A:Option Addr) (l:List Int) (c:Nat) (x:Int) (w:World) (hA:Ints w A l) :
  Calls Tryz.prog 125 #[.slice A l.length c,.int .i64 x] w fun e w'=>e = .returned (.bool (hasB l x)) /\ w' = w:=by
 have hl:=hA.len;go_enter Tryz.func125,Tryz.ntmps125;go_wp2;go_loopw [5] (fun i wr=>∃ k:Nat,i = .int .i64 k /\ k <= l.length /\ (l.take k).any (fun y=>y == x) = false /\ wr = w) (fun i _=>l.length - (intOf i).toNat)
 case atStart=>exact ⟨0,rfl,by omega,by simp,rfl⟩
 case round =>
  obtain ⟨k,rfl,hk,hno,rfl⟩:=hrel;have HN:=Lib.hid hno;clear hno;by_cases hkl:k < l.length
  ·obtain ⟨b,o,rfl,hb,hc⟩:=hA.at hkl;have h1:wr.cell? ⟨b,o + k,none⟩ = some (.int .i64 l[k]):=hc k hkl;have i1:(0:Int) <= (k:Int) /\ (k:Int) < (l.length:Int):=by omega
   have HMEM:=Lib.hid (List.getElem_mem hkl);have HTK:=Lib.hid (any_take_succ l (fun y=>y == x) k hkl);clear hc;generalize l[k] = y at *;by_cases hyx:(y == x) = true
   ·go_wp2;go_ret;exact ⟨ret_bool (by rw [hasB_iff.2 (by have:=HMEM.out;rwa [eq_of_beq hyx] at this)]),rfl⟩
   ·have hyf:(y == x) = false:=by simpa using hyx
    go_wp2;exact ⟨⟨k + 1,by go_num,by omega,by rw [HTK.out,HN.out,hyf];rfl,by first | rfl | trivial⟩,by simp [intOf];omega⟩
  ·obtain rfl:k = l.length:=by omega
   go_wp2;go_ret;refine ⟨ret_bool ?_,rfl⟩
   symm
   rw [hasB_false];intro hm;have:=HN.out;rw [List.take_length,List.any_eq_false] at this;exact this x hm (by simp)
theorem anyBeside_any (A:Option Addr) (l:List Int) (c:Nat) (x y:Int) (w:World) (hA:Ints w A l) :
  Calls Tryz.prog 113 #[.slice A l.length c,.int .i64 x,.int .i64 y] w fun e w'=>e = .returned (.bool (!l.all fun n=>fromB n x y)) /\ w' = w:=by
 have hl:=hA.len;go_enter Tryz.func113,Tryz.ntmps113;go_wp2;go_loopw [7] (fun i wr=>∃ k:Nat,i = .int .i64 k /\ k <= l.length /\ ((l.take k).all fun n=>fromB n x y) = true /\ wr = w) (fun i _=>l.length - (intOf i).toNat)
 case atStart=>exact ⟨0,rfl,by omega,by simp,rfl⟩
 case round =>
  obtain ⟨k,rfl,hk,hno,rfl⟩:=hrel;have HN:=Lib.hid hno;clear hno;by_cases hkl:k < l.length
  ·obtain ⟨b,o,rfl,hb,hc⟩:=hA.at hkl;have h1:wr.cell? ⟨b,o + k,none⟩ = some (.int .i64 l[k]):=hc k hkl;have i1:(0:Int) <= (k:Int) /\ (k:Int) < (l.length:Int):=by omega
   have HMEM:=Lib.hid (List.getElem_mem hkl);have HTK:=Lib.hid (all_take_succ l (fun n=>fromB n x y) k hkl);clear hc;generalize l[k] = z at *
   cases hz:fromB z x y with
   | true =>
    have HZ:=Lib.hid hz;clear hz;go_wp2_with (go_at_call 112;refine (beside_any z x y wr).mono ?_;rintro e w' ⟨rfl,rfl⟩;rw [HZ.out])
    exact ⟨⟨k + 1,by go_num,by omega,by rw [HTK.out,HN.out,HZ.out];rfl,by first | rfl | trivial⟩,by simp [intOf];omega⟩
   | false =>
    have HZ:=Lib.hid hz;clear hz;go_wp2_with (go_at_call 112;refine (beside_any z x y wr).mono ?_;rintro e w' ⟨rfl,rfl⟩;rw [HZ.out])
    go_ret;refine ⟨ret_bool ?_,rfl⟩
    have:(l.all fun n=>fromB n x y) = false:=by
     rw [List.all_eq_false];exact ⟨z,HMEM.out,by rw [HZ.out];simp⟩
    rw [this];rfl
  ·obtain rfl:k = l.length:=by omega
   go_wp2;go_ret;refine ⟨ret_bool ?_,rfl⟩;have:=HN.out;rw [List.take_length] at this;rw [this];rfl
set_option maxHeartbeats 1000000 in
theorem mixed_any (A:Option Addr) (l:List Int) (c:Nat) (w:World) (hA:Ints w A l) :
  Calls Tryz.prog 114 #[.slice A l.length c] w fun e w'=>e = .returned (.bool (!risesB l)) /\ Aft w w':=by
 have hl:=hA.len;go_enter Tryz.func114,Tryz.ntmps114;go_wp2;go_loopw [3] (fun i wr=>∃ k:Nat,1 <= k /\ i = .int .i64 k /\ (k <= l.length \/ k = 1) /\ (∀ j,j + 1 < k -> (h:j + 1 < l.length) -> l[j] < l[j+1]) /\ ∃ n,wr = w.drewN n) (fun i _=>l.length - (intOf i).toNat)
 case atStart=>exact ⟨1,by omega,rfl,by omega,fun j hj=>by omega,0,rfl⟩
 case round =>
  obtain ⟨k,hk1,rfl,hk,hlt,n,rfl⟩:=hrel;have HL:=Lib.hid hlt;clear hlt;by_cases hkl:k < l.length
  ·obtain ⟨b,o,rfl,hb,hc⟩:=hA.at hkl;have h1:w.cell? ⟨b,o + k,none⟩ = some (.int .i64 l[k]):=hc k hkl;have h2:w.cell? ⟨b,o + (k - 1),none⟩ = some (.int .i64 l[k-1]):=hc (k-1) (by omega);have e1:IntKind.i64.wrap ((k:Int) - 1) = ((k - 1:Nat):Int):=by rw [IntWalk.i64_in _ (by omega)];omega
   clear hc;go_wp2;go_quiet (fail);clear e1;go_wp2
   ·go_ret;have h3:l[k] <= l[k-1]:=by assumption
    exact ⟨ret_bool (by rw [risesB_false l (k-1) (by omega) (by simp only [Nat.sub_add_cancel hk1];exact h3)];rfl),(Aft.drewN _ _).then_drewN _⟩
   ·have h3:l[k-1] < l[k]:=by assumption
    go_roundw
    case rel =>
     refine ⟨k + 1,by omega,by go_num,by omega,fun j hj hjl=>?_,_,rfl⟩;by_cases hjk:j + 1 < k
     ·exact HL.out j hjk hjl
     ·obtain rfl:j = k - 1:=by omega
      simp only [Nat.sub_add_cancel hk1];exact h3
    case measure=>simp [intOf];omega
  ·go_wp2;go_ret;exact ⟨ret_bool (by rw [risesB_true l fun j hj=>HL.out j (by omega) hj];rfl),Aft.drewN _ _⟩
end Go.Proofs
end
section
/- A region that draws its order and whose operations may bear guards,by facts. -/
namespace Go
structure HeldG (ops:Array Oper) (Fact:(Nat -> Bool) -> Nat -> Value -> World -> Prop) (Wd:(Nat -> Bool) -> Act -> World -> Prop) (a0:Act) (done:Nat -> Bool) (a:Act) (w:World):Prop where
 wd:Wd done a w
 size:a.tmps.size = a0.tmps.size
 defers:a.defers = a0.defers
 closed:∀ i o,ops[i]? = some o -> done i = true -> ∀ j ∈ Region.preds o,done j = true
 old:∀ s,(∀ i o,ops[i]? = some o -> o.dst = some s -> done i = false) -> a.eval (.tmp s) = a0.eval (.tmp s)
 fact:∀ (i:Nat) (o:Oper) (s:Nat),ops[i]? = some o -> o.dst = some s -> done i = true -> Fact done i (a.eval (.tmp s)) w
section
variable {P:Program} {ops:Array Oper} {Q:Exit -> Act -> World -> Prop} {Fact:(Nat -> Bool) -> Nat -> Value -> World -> Prop} {Wd:(Nat -> Bool) -> Act -> World -> Prop} {a0:Act}
theorem HeldG.put {done:Nat -> Bool} {a:Act} {w w':World} {i:Nat} {o:Oper} {v:Value} (h:HeldG ops Fact Wd a0 done a w) (ho:ops[i]? = some o) (hd:done i = false) (hp:∀ j ∈ Region.preds o,done j = true)
  (hdst:∀ (i j:Nat) (oi oj:Oper) (s:Nat),ops[i]? = some oi -> ops[j]? = some oj -> oi.dst = some s -> oj.dst = some s -> i = j) (hin:∀ (i:Nat) (o:Oper) (s:Nat),ops[i]? = some o -> o.dst = some s -> s < a0.tmps.size)
  (hf:Fact (upd done i) i v w') (hw:Wd (upd done i) (a.put o.dst v) w') (hk:∀ (j:Nat) (oj:Oper) (s:Nat),ops[j]? = some oj -> oj.dst = some s -> done j = true -> Fact done j (a.eval (.tmp s)) w -> Fact (upd done i) j (a.eval (.tmp s)) w'):HeldG ops Fact Wd a0 (upd done i) (a.put o.dst v) w':=by
 refine ⟨hw,?_,?_,fun k ok hk' hdk j hj=>?_,fun s hs=>?_,fun k ok s hk' hs hdk=>?_⟩
 ·rw [<- h.size];unfold Act.put;split <;> simp
 ·rw [<- h.defers];unfold Act.put;split <;> rfl
 ·unfold upd at hdk ⊢;by_cases e:j = i
  ·rw [if_pos e]
  ·rw [if_neg e];by_cases e2:k = i
   ·subst e2;rw [ho] at hk';cases hk';exact hp j hj
   ·rw [if_neg e2] at hdk;exact h.closed k ok hk' hdk j hj
 ·have hne:∀ d,o.dst = some d -> (Operand.tmp s) ≠ .tmp d:=fun d hd' e=>by
   cases e;have:=hs i o ho hd';simp [upd] at this
  rw [Act.eval_put hne];refine h.old s fun k ok hk' hs'=>?_
  have:=hs k ok hk' hs';unfold upd at this;split at this
  ·cases this
  ·exact this
 ·by_cases e:k = i
  ·subst e;rw [ho] at hk';cases hk';rw [hs,Act.eval_put_same _ _ _ (by rw [h.size];exact hin k o s ho hs)];exact hf
  ·unfold upd at hdk;rw [if_neg e] at hdk
   have hne:∀ d,o.dst = some d -> (Operand.tmp s) ≠ .tmp d:=fun d hd' e2=>by
    cases e2;exact e (hdst k i ok o s hk' ho hs hd')
   rw [Act.eval_put hne];exact hk k ok s hk' hs hdk (h.fact k ok s hk' hs hdk)
theorem wpAny_factsG (hdst:∀ (i j:Nat) (oi oj:Oper) (s:Nat),ops[i]? = some oi -> ops[j]? = some oj -> oi.dst = some s -> oj.dst = some s -> i = j) (hin:∀ (i:Nat) (o:Oper) (s:Nat),ops[i]? = some o -> o.dst = some s -> s < a0.tmps.size)
  (hlt:∀ (i:Nat) (o:Oper),ops[i]? = some o -> ∀ j ∈ Region.preds o,j < i)
  (step:∀ (i:Nat) (o:Oper),ops[i]? = some o -> ∀ (done:Nat -> Bool) (a:Act) (w:World),HeldG ops Fact Wd a0 done a w -> done i = false -> (∀ j ∈ Region.preds o,done j = true) -> ∀ K:Act -> World -> Prop,
   (∀ (v:Value) (w':World),Fact (upd done i) i v w' -> Wd (upd done i) (a.put o.dst v) w' -> (∀ (j:Nat) (oj:Oper) (s:Nat),ops[j]? = some oj -> oj.dst = some s -> done j = true -> Fact done j (a.eval (.tmp s)) w -> Fact (upd done i) j (a.eval (.tmp s)) w') -> K (a.put o.dst v) w') -> if Region.wanted o (yielded ops a.tmps) = true then Oper.wp P o a w K Q else K (a.put o.dst undef) w)
  (fin:∀ (done:Nat -> Bool) (a:Act) (w:World),(∀ i,i < ops.size -> done i = true) -> HeldG ops Fact Wd a0 done a w -> Q .normal a w) :
  ∀ (fuel:Nat) (listed:Array Bool) (a:Act) (w:World),listed.size = ops.size -> HeldG ops Fact Wd a0 (dn listed) a w -> (unl ops (dn listed)).length <= fuel -> wpAny P .any ops Q fuel listed a w
 | 0,listed,a,w,hs,h,hf=>by
  have hd:∀ i,i < ops.size -> dn listed i = true:=fun i hi=>by
   cases hd:dn listed i with
   | true=>rfl
   | false =>
    have:i ∈ unl ops (dn listed):=List.mem_filter.2 ⟨List.mem_range.2 hi,by simp [hd]⟩;have hz:unl ops (dn listed) = []:=List.eq_nil_of_length_eq_zero (by omega);rw [hz] at this;cases this
  refine ⟨?_,fin _ a w hd h⟩
  cases hr:Region.ready .any ops listed with
  | nil=>rfl
  | cons i r =>
   obtain ⟨o,ho,h1,_⟩:=mem_ready' rfl hs (show i ∈ Region.ready .any ops listed by rw [hr];simp);rw [hd i (Array.getElem?_eq_some_iff.1 ho).1] at h1;cases h1
 | fuel + 1,listed,a,w,hs,h,hf=>by
  refine ⟨fun hr=>fin _ a w (all_done hs hlt hr) h,fun i hi=>?_⟩;obtain ⟨o,ho,h1,h2⟩:=mem_ready' rfl hs hi;have hio:=(Array.getElem?_eq_some_iff.1 ho).1;unfold wpOp;simp only [ho]
  have hst:=step i o ho _ a w h h1 h2 (wpAny P .any ops Q fuel (listed.setIfInBounds i true)) fun v w' hf' hw' hk=>by
   refine wpAny_factsG hdst hin hlt step fin fuel _ _ _ (by simpa using hs) ?_ ?_
   ·rw [dn_set (by omega)];exact h.put ho h1 h2 hdst hin hf' hw' hk
   ·rw [dn_set (by omega)];have:=unl_lt (ops:=ops) hio h1;omega
  by_cases hw:Region.wanted o (yielded ops a.tmps) = true
  ·rw [if_pos hw] at hst ⊢;exact .inl hst
  ·rw [if_neg hw] at hst ⊢;exact hst
theorem HeldG.same {done:Nat -> Bool} {a:Act} {w:World} (h:HeldG ops Fact Wd a0 done a w) {s:Nat} (hs:s ∉ ops.toList.filterMap (·.dst)):a.eval (.tmp s) = a0.eval (.tmp s) :=
 h.old s fun k ok hk he=>absurd (List.mem_filterMap.2 ⟨ok,by rw [<- Array.getElem?_toList] at hk;exact List.mem_of_getElem? hk,he⟩) hs
def factsGB (xs:List Oper) (n:Nat):Bool :=
 decide ((xs.filterMap (·.dst)).Nodup) && (xs.all fun o=>match o.dst with | some s=>decide (s < n) | none=>true) && ((List.range xs.length).all fun i=>match xs[i]? with | some o=>(Region.preds o).all fun j=>decide (j < i) | none=>true)
theorem wp_region_factsG {id:Nat} {xs:List Oper} {w:World} (hm:P.follows .mixedOrders = true) (n:Nat) (hn:a0.tmps.size = n) (hB:factsGB xs n = true)
  (Fact:(Nat -> Bool) -> Nat -> Value -> World -> Prop) (Wd:(Nat -> Bool) -> Act -> World -> Prop) (h0:Wd (fun _=>false) a0 w.drew)
  (step:∀ (i:Nat) (o:Oper),xs[i]? = some o -> ∀ (done:Nat -> Bool) (a:Act) (w:World),HeldG xs.toArray Fact Wd a0 done a w -> done i = false -> (∀ j ∈ Region.preds o,done j = true) -> ∀ K:Act -> World -> Prop,
   (∀ (v:Value) (w':World),Fact (upd done i) i v w' -> Wd (upd done i) (a.put o.dst v) w' -> (∀ (j:Nat) (oj:Oper) (s:Nat),xs[j]? = some oj -> oj.dst = some s -> done j = true -> Fact done j (a.eval (.tmp s)) w -> Fact (upd done i) j (a.eval (.tmp s)) w') -> K (a.put o.dst v) w') -> if Region.wanted o (yielded xs.toArray a.tmps) = true then Oper.wp P o a w K Q else K (a.put o.dst undef) w)
  (fin:∀ (done:Nat -> Bool) (a:Act) (w:World),(∀ i,i < xs.length -> done i = true) -> HeldG xs.toArray Fact Wd a0 done a w -> Q .normal a w):(Code.region id xs.toArray true).wp P Q a0 w:=by
 unfold factsGB at hB;rw [Bool.and_eq_true,Bool.and_eq_true] at hB;obtain ⟨⟨h2,h3⟩,h4⟩:=hB;refine wp_region_any hm ?_
 have e0:dn (Array.replicate xs.toArray.size false) = fun _=>false:=by
  funext i
  unfold dn;rw [Array.getD_eq_getD_getElem?,Array.getElem?_replicate];split <;> rfl
 refine wpAny_factsG (Fact:=Fact) (Wd:=Wd) (a0:=a0) (fun i j oi oj s hi hj=>nodup_dst (of_decide_eq_true h2) i j oi oj s (by simpa using hi) (by simpa using hj)) (fun i o s ho hs=>?_) (fun i o ho j hj=>?_)
  (fun i o ho done a w h hd hp K hK=>step i o (by simpa using ho) done a w h hd hp K (fun v w' h1 h2 h3=>hK v w' h1 h2 (fun j oj s hj=>h3 j oj s (by simpa using hj)))) (fun done a w hd=>fin done a w (by simpa using hd)) _ _ _ _ (by simp) ?_ ?_
 ·have:=List.all_eq_true.1 h3 o (List.mem_of_getElem? (by simpa using ho));rw [hs] at this;rw [hn];simpa using this
 ·have ho':xs[i]? = some o:=by simpa using ho
  have:=List.all_eq_true.1 h4 i (List.mem_range.2 (List.getElem?_eq_some_iff.1 ho').1);rw [ho'] at this;have:=List.all_eq_true.1 this j hj;simpa using this
 ·rw [e0];exact ⟨h0,rfl,rfl,(fun i o _ h=>by cases h),(fun s _=>rfl),(fun i o s _ _ h=>by cases h)⟩
 ·have:(unl xs.toArray (dn (Array.replicate xs.toArray.size false))).length <= (List.range xs.toArray.size).length:=List.length_filter_le _ _;simpa using this
end
end Go
end
section
/- A region that draws its order,whose operations may bear guards and yield known values. -/
namespace Go
def wantedV (vals:List Value) (o:Oper):Bool :=
 match o.guard with
 | none=>true
 | some (j,b)=>match vals[j]? with
  | some (.bool x)=>x == b
  | _=>false
def guardsB (xs:List Oper):Bool:=xs.all fun o=>match o.guard with
 | none=>true
 | some (j,_)=>(Region.preds o).contains j && ((xs[j]?).bind (·.dst)).isSome
section
variable {P:Program} {Q:Exit -> Act -> World -> Prop} {a0:Act}
theorem wanted_eq {xs:List Oper} {vals:List Value} {Wd:(Nat -> Bool) -> Act -> World -> Prop} {done:Nat -> Bool} {a:Act} {w:World} {o:Oper} (hin:∀ o ∈ xs,∀ s,o.dst = some s -> s < a0.tmps.size)
  (h:HeldG xs.toArray (fun _ i v _=>vals[i]? = some v) Wd a0 done a w) (ho:o ∈ xs) (hp:∀ j ∈ Region.preds o,done j = true) (hG:guardsB xs = true):Region.wanted o (yielded xs.toArray a.tmps) = wantedV vals o:=by
 have hg:=List.all_eq_true.1 hG o ho;unfold Region.wanted wantedV
 cases hgd:o.guard with
 | none=>rfl
 | some p =>
  obtain ⟨j,b⟩:=p;rw [hgd] at hg;simp only [Bool.and_eq_true] at hg;obtain ⟨h1,h2⟩:=hg;obtain ⟨s,hs⟩:=Option.isSome_iff_exists.1 h2;obtain ⟨oj,hoj,hdj⟩:=Option.bind_eq_some_iff.1 hs;have hv:=h.fact j oj s (by simpa using hoj) hdj (hp j (by simpa using h1));have hlt:s < a.tmps.size:=by rw [h.size];exact hin oj (List.mem_of_getElem? hoj) s hdj
  have hy:yielded xs.toArray a.tmps j = match a.eval (.tmp s) with | .bool b=>some b | _=>none:=by
   unfold yielded
   have:((xs.toArray[j]?).bind (·.dst)).bind (a.tmps[·]?) = some (a.eval (.tmp s)):=by
    rw [List.getElem?_toArray,hs,Option.bind_some];simp only [Act.eval,Array.getD_eq_getD_getElem?];rw [Array.getElem?_eq_getElem hlt];rfl
   rw [this];cases a.eval (.tmp s) <;> rfl
  have hv':vals[j]? = some (a.eval (.tmp s)):=hv;simp only [hy,hv'];cases a.eval (.tmp s) <;> simp
theorem wp_region_valsG {id:Nat} {xs:List Oper} {w:World} (hm:P.follows .mixedOrders = true) (n:Nat) (hn:a0.tmps.size = n) (hB:factsGB xs n = true) (hG:guardsB xs = true) (vals:List Value) (hl:xs.length = vals.length) (Wd:World -> Prop) (h0:Wd w.drew)
  (step:∀ (i:Nat) (o:Oper) (v:Value),xs[i]? = some o -> vals[i]? = some v -> wantedV vals o = true /\ (∀ (a:Act) (w:World),Knows xs vals a0 i a -> Wd w -> ∀ K:Act -> World -> Prop,(∀ w',Wd w' -> K (a.put o.dst v) w') -> Oper.wp P o a w K Q) \/ wantedV vals o = false /\ v = undef)
  (fin:∀ w,Wd w -> Q .normal (putAll a0 (xs.zip vals)) w):(Code.region id xs.toArray true).wp P Q a0 w:=by
 have hB':=hB;unfold factsGB at hB';rw [Bool.and_eq_true,Bool.and_eq_true] at hB';obtain ⟨⟨h2,h3⟩,h4⟩:=hB'
 have hin:∀ o ∈ xs,∀ s,o.dst = some s -> s < a0.tmps.size:=fun o ho s hs=>by
  have:=List.all_eq_true.1 h3 o ho;rw [hs] at this;rw [hn];simpa using this
 refine wp_region_factsG hm n hn hB (fun _ i v _=>vals[i]? = some v) (fun _ _ w=>Wd w) h0 (fun i o ho done a w hH hd hp K hK=>?_) (fun done a w hd hH=>?_)
 ·have hi:=(List.getElem?_eq_some_iff.1 ho).1;have hv:vals[i]? = some vals[i]:=List.getElem?_eq_getElem (by omega)
  have hk:Knows xs vals a0 i a:=⟨fun j o' s v hx hj oj hoj hs hvj=>by
   rw [ho] at hx;cases hx;have:=hH.fact j oj s (by simpa using hoj) hs (hp j hj);rw [hvj] at this;exact (Option.some.inj this).symm,fun s hs=>hH.same (by simpa using hs)⟩
  rw [wanted_eq hin hH (List.mem_of_getElem? ho) hp hG];rcases step i o _ ho hv with ⟨hw,hs⟩ | ⟨hw,hs⟩
  ·rw [if_pos hw];exact hs a w hk hH.wd K fun w' hw'=>hK _ w' hv hw' fun _ _ _ _ _ _ h=>h
  ·rw [if_neg (by rw [hw];decide)];rw [hs] at hv;exact hK _ w hv hH.wd fun _ _ _ _ _ _ h=>h
 ·have hH':Held xs.toArray (fun i v _=>vals[i]? = some v) (fun _ w=>Wd w) a0 done a w:=⟨hH.wd,hH.size,hH.defers,hH.closed,hH.old,hH.fact⟩;rw [held_putAll hl (of_decide_eq_true h2) hin hd hH'];exact fin w hH.wd
end
end Go
end
