/- Own texts, merged: Ctr Ttr. -/
import Derived.Test.YtobpdobneocckaaGreatDoorP08
section
/- Walks: CloneTreaty: its drawn regions. -/
namespace Go.Proofs
open Go.RowKit
noncomputable def opsCt (k:Nat):List Oper:=((regAt k (Tryz.f10.body.getD .skip)).getD #[]).toList
def N27 (w:World) (S:Nat -> Prop):Prop:=∀ k,S k -> ∃ cs t,w.heap[k]? = some (.cells cs t) /\ t ≠ 27
theorem N27.keep {w w':World} {S:Nat -> Prop} (h:N27 w S) (hk:∀ k,S k -> w'.heap[k]? = w.heap[k]?):N27 w' S:=fun k hS=>by rw [hk k hS];exact h k hS
theorem own_block {W:World} {b:Nat} {e:TypeId} {sz:Nat} {v:Value} {n:Nat} {xs:List Value} (h:W.ownsRow b e sz v n xs) {g:Nat} (hg:v.ownBlock = some g):∃ cs,W.heap[g]? = some (.cells cs e):=by
 rcases h.2 with ⟨rfl,_⟩ | ⟨g',cap,cur,rfl,_,hh,_⟩
 ·cases hg
 ·cases hg;exact ⟨cur,hh⟩
theorem own_n27 {W:World} {b:Nat} {e:TypeId} {sz:Nat} {v:Value} {n:Nat} {xs:List Value} (h:W.ownsRow b e sz v n xs) (he:e ≠ 27):N27 W (fun k=>v.ownBlock = some k):=fun k hk=>let ⟨cs,h1⟩:=own_block h hk;⟨cs,e,h1,he⟩
theorem N27.not {W:World} {S:Nat -> Prop} (h:N27 W S) {g:Nat} {cs:Array Value} (hb:Blk W g 27 cs):¬ S g:=fun hS=>by
 obtain ⟨cs',t,h1,h2⟩:=h g hS;have hb':W.heap[g]? = some (.cells cs 27):=hb;rw [hb'] at h1;cases h1;exact h2 rfl
theorem own_ne27 {W:World} {b:Nat} {e:TypeId} {sz:Nat} {v:Value} {n:Nat} {xs:List Value} (h:W.ownsRow b e sz v n xs) (he:e ≠ 27) {g:Nat} {cs:Array Value} (hb:Blk W g 27 cs):v.ownBlock ≠ some g:=fun e2=>(own_n27 h he).not hb e2
theorem own_kept3 {b e sz n:Nat} {v:Value} {xs:List Value} {w w':World} (h:w.ownsRow b e sz v n xs) {row:Option Nat} (hg:w.grownBy w' row) (hr:∀ k,row = some k -> v.ownBlock ≠ some k):w'.ownsRow b e sz v n xs:=by
 refine h.kept hg ?_
 cases hb:v.ownBlock with
 | none=>exact .inl rfl
 | some g=>exact .inr fun e=>hr g e.symm hb
section
variable {α:Type} {R:World -> α -> List Value -> Prop} {e:TypeId} {sz base:Nat} {v:Value} {S:Nat -> Prop} {l:List α} {xs:List Value} {W W':World}
theorem OwnK.kept3 (h:OwnK R e sz base v S l xs W) {row:Option Nat} (hg:W.grownBy W' row) (hr:∀ k,row = some k -> v.ownBlock ≠ some k /\ ¬ S k):OwnK R e sz base v S l xs W' :=
 ⟨own_kept3 h.own hg (fun k e=>(hr k e).1),h.rows.grown hg (fun k e hk=>(hr k e).2 hk),h.far⟩
theorem N27.kept3 (h:N27 W S) {row:Option Nat} (hl:∀ k,S k -> k < W.heap.size) (hg:W.grownBy W' row) (hr:∀ k,row = some k -> ¬ S k):N27 W' S:=h.keep fun k hS=>hg.block k (hl k hS) (fun e=>hr k e.symm hS)
theorem OwnK.lt (h:OwnK R e sz base v S l xs W):∀ k,S k -> k < W.heap.size:=h.rows.1
end
theorem aft_keep {w w':World} (h:Aft w w') {k:Nat} (hk:k < w.heap.size):w'.heap[k]? = w.heap[k]?:=h.below.block k hk
def More9 (base:Nat) (ms:List Mean) (mm:Mean) (v:Value) (w:World):Prop:=∃ S xs,OwnK MeanR 67 2 base v S (ms ++ [mm]) xs w /\ N27 w S
theorem More9.aft {base:Nat} {ms:List Mean} {mm:Mean} {v:Value} {w w':World} (h:More9 base ms mm v w) (ha:Aft w w'):More9 base ms mm v w':=let ⟨S,xs,h1,h2⟩:=h;⟨S,xs,h1.aft ha,h2.keep fun k hk=>aft_keep ha (h1.lt k hk)⟩
structure Wc9 (X W8:World) (base:Nat) (vS:Value) (S:Nat -> Prop) (ms:List Mean) (xs:List Value) (done:Nat -> Bool) (w:World):Prop where
 aft:Aft X w
 keep:W8.heap.size <= w.heap.size /\ ∀ k,k < W8.heap.size -> vS.ownBlock ≠ some k -> w.heap[k]? = W8.heap[k]?
 own:done 9 = false -> OwnK MeanR 67 2 base vS S ms xs w /\ N27 w S
theorem Wc9.go {X W8:World} {base:Nat} {vS:Value} {S:Nat -> Prop} {ms:List Mean} {xs:List Value} {done done':Nat -> Bool} {w w':World} (h:Wc9 X W8 base vS S ms xs done w) (ha:Aft w w') (hd:done' 9 = false -> done 9 = false):Wc9 X W8 base vS S ms xs done' w' :=
 ⟨h.aft.trans ha,⟨Nat.le_trans h.keep.1 ha.size,fun k hk hne=>(aft_keep ha (Nat.lt_of_lt_of_le hk h.keep.1)).trans (h.keep.2 k hk hne)⟩,fun h9=>⟨(h.own (hd h9)).1.aft ha,(h.own (hd h9)).2.keep fun k hk=>aft_keep ha ((h.own (hd h9)).1.lt k hk)⟩⟩
def Factc9 (E:Nat) (W8:World) (Ak Ae:Option Addr) (ck ce base:Nat) (vS:Value) (ms:List Mean) (mm:Mean) (_:Nat -> Bool):Nat -> Value -> World -> Prop
 | 0,v,_=>v = vS
 | 1,v,_=>v = .pointer (some ⟨E,0,none⟩)
 | 2,v,_=>v = .slice Ak mm.kinds.length ck
 | 3,v,w=>w.ownsRow W8.heap.size 3 1 v mm.kinds.length (mm.kinds.map (Value.int .i64))
 | 4,v,_=>v = .pointer (some ⟨E,1,none⟩)
 | 5,v,_=>v = .slice Ae mm.ends.length ce
 | 6,v,w=>w.ownsRow W8.heap.size 3 1 v mm.ends.length (mm.ends.map (Value.int .i64))
 | 7,v,w=>∃ v1 v2,v = .agg #[v1,v2] /\ w.ownsRow W8.heap.size 3 1 v1 mm.kinds.length (mm.kinds.map (Value.int .i64)) /\ w.ownsRow W8.heap.size 3 1 v2 mm.ends.length (mm.ends.map (Value.int .i64))
 | 8,v,w=>∃ v1 v2 b,v = .slice (some ⟨b,0,none⟩) 1 1 /\ w.ownsRow W8.heap.size 3 1 v1 mm.kinds.length (mm.kinds.map (Value.int .i64)) /\ w.ownsRow W8.heap.size 3 1 v2 mm.ends.length (mm.ends.map (Value.int .i64)) /\ Blk w b 67 #[v1,v2] /\ W8.heap.size <= b
 | 9,v,w=>More9 base ms mm v w
 | 10,v,w=>More9 base ms mm v w
 | _,_,_=>True
section
variable {E:Nat} {W8:World} {Ak Ae:Option Addr} {ck ce base:Nat} {vS:Value} {ms:List Mean} {mm:Mean} {done done':Nat -> Bool} {w w':World} {i:Nat} {v:Value}
theorem Factc9.aft (ha:Aft w w') (h:Factc9 E W8 Ak Ae ck ce base vS ms mm done i v w):Factc9 E W8 Ak Ae ck ce base vS ms mm done' i v w':=by
 unfold Factc9 at h ⊢
 split at h <;> first
  | exact h
  | exact own_aft h ha
  | exact More9.aft h ha
  | (obtain ⟨v1,v2,e,h1,h2⟩:=h;exact ⟨v1,v2,e,own_aft h1 ha,own_aft h2 ha⟩)
  | (obtain ⟨v1,v2,b,e,h1,h2,h3,h4⟩:=h;exact ⟨v1,v2,b,e,own_aft h1 ha,own_aft h2 ha,h3.aft ha,h4⟩)
theorem Factc9.low {row:Option Nat} (hg:w.grownBy w' row) (hr:∀ k,row = some k -> k < W8.heap.size) (hi:i < 9) (h:Factc9 E W8 Ak Ae ck ce base vS ms mm done i v w):Factc9 E W8 Ak Ae ck ce base vS ms mm done' i v w':=by
 unfold Factc9 at h ⊢
 split at h <;> first
  | exact h
  | omega
  | exact own_kept' h hg hr
  | (obtain ⟨v1,v2,e,h1,h2⟩:=h;exact ⟨v1,v2,e,own_kept' h1 hg hr,own_kept' h2 hg hr⟩)
  | (obtain ⟨v1,v2,b,e,h1,h2,h3,h4⟩:=h;exact ⟨v1,v2,b,e,own_kept' h1 hg hr,own_kept' h2 hg hr,h3.grown hg (fun e=>by have:=hr b e.symm;omega),h4⟩)
end
def chc9 (s:Nat):Bool:=decide (s = 6) || decide (s = 34) || decide (s = 35) || decide (s = 36) || decide (s = 37) || decide (s = 38) || decide (s = 39) || decide (s = 40) || decide (s = 41) || decide (s = 42) || decide (s = 43)
set_option maxRecDepth 100000 in
set_option maxHeartbeats 2000000 in
theorem region9_ct (X:World) (E base:Nat) (Ak Ae:Option Addr) (ck ce:Nat) (vS:Value) (S:Nat -> Prop) (ms:List Mean) (xs:List Value) (mm:Mean) (a0:Act) (Q0:Exit -> Act -> World -> Prop) (W8:World)
  (hz:a0.tmps.size = 53) (s8:a0.eval (.tmp 8) = .pointer (some ⟨E,0,none⟩)) (s6:a0.eval (.tmp 6) = vS)
  (ha:Aft X W8) (hbx:Blk W8 E 67 #[.slice Ak mm.kinds.length ck,.slice Ae mm.ends.length ce]) (hvE:vS.ownBlock ≠ some E) (hk1:Ints X Ak mm.kinds) (hk2:Ints X Ae mm.ends) (hown:OwnK MeanR 67 2 base vS S ms xs W8) (hn7:N27 W8 S) (hn:ms.length <= 100) (hXb:X.heap.size <= base) (hsz:base <= W8.heap.size)
  (hexit:∀ a W' ,a.tmps.size = 53 -> a.defers = a0.defers -> (∀ s:Nat,chc9 s = false -> a.eval (.tmp s) = a0.eval (.tmp s)) -> More9 base ms mm (a.eval (.tmp 6)) W' -> Aft X W' -> (W8.heap.size <= W'.heap.size /\ ∀ k,k < W8.heap.size -> vS.ownBlock ≠ some k -> W'.heap[k]? = W8.heap[k]?) -> Q0 .normal a W') :
  Code.wp Tryz.prog (Code.region 9 (opsCt 9).toArray true) Q0 a0 W8:=by
 have HEX:=Lib.hid hexit;clear hexit;refine wp_region_factsE (by kernel_rfl) 53 hz (by kernel_rfl) (Factc9 E W8 Ak Ae ck ce base vS ms mm) (Wc9 X W8 base vS S ms xs) ⟨ha.then_drew,⟨Nat.le_refl _,fun _ _ _=>rfl⟩,fun _=>⟨hown.aft (Aft.drew _),hn7⟩⟩ ?step ?fin
 case step =>
  intro i o ho done a w hH hd hp K hK;have hW:=hH.wd
  have hold:∀ s:Nat,chc9 s = false -> a.eval (.tmp s) = a0.eval (.tmp s):=fun s h=>hH.old s fun k ok hk hs=>by
   match k,hk with
   | 0,hk=>cases hk;cases hs;exact absurd h (by decide)
   | 1,hk=>cases hk;cases hs;exact absurd h (by decide)
   | 2,hk=>cases hk;cases hs;exact absurd h (by decide)
   | 3,hk=>cases hk;cases hs;exact absurd h (by decide)
   | 4,hk=>cases hk;cases hs;exact absurd h (by decide)
   | 5,hk=>cases hk;cases hs;exact absurd h (by decide)
   | 6,hk=>cases hk;cases hs;exact absurd h (by decide)
   | 7,hk=>cases hk;cases hs;exact absurd h (by decide)
   | 8,hk=>cases hk;cases hs;exact absurd h (by decide)
   | 9,hk=>cases hk;cases hs;exact absurd h (by decide)
   | 10,hk=>cases hk;cases hs;exact absurd h (by decide)
   | _ + 11,hk=>cases hk
  have hvS:∀ k,vS.ownBlock = some k -> base <= k /\ k < W8.heap.size:=fun k e=>hown.own.lt k e
  have hbox:Blk w E 67 #[.slice Ak mm.kinds.length ck,.slice Ae mm.ends.length ce]:=(hW.keep.2 E hbx.lt hvE).trans hbx;have hK':∀ v,i ≠ 9 -> Factc9 E W8 Ak Ae ck ce base vS ms mm (Go.upd done i) i v w -> K (a.put o.dst v) w:=fun v h9 hv=>hK v w hv ⟨hW.aft,hW.keep,fun h=>hW.own (by unfold Go.upd at h;rw [if_neg (Ne.symm h9)] at h;exact h)⟩ fun j _ _ _ _ _ hu=>Factc9.aft (Aft.refl w) hu
  match i,ho,hd,hp,hK,hK' with
  | 0,ho,hd,hp,hK,hK' =>
   cases ho
   have e7:a.eval (.tmp 6) = vS:=(hH.old 6 fun k ok hk hs=>by
    match k,hk with
    | 0,hk=>cases hk;cases hs
    | 1,hk=>cases hk;cases hs
    | 2,hk=>cases hk;cases hs
    | 3,hk=>cases hk;cases hs
    | 4,hk=>cases hk;cases hs
    | 5,hk=>cases hk;cases hs
    | 6,hk=>cases hk;cases hs
    | 7,hk=>cases hk;cases hs
    | 8,hk=>cases hk;cases hs
    | 9,hk=>cases hk;cases hs
    | 10,hk =>
     cases hdk:done 10 with
     | false=>rfl
     | true=>have:=hH.closed 10 _ hk hdk 0 (by cases hk;decide);rw [hd] at this;cases this
    | _ + 11,hk=>cases hk).trans s6
   exact op_value (by simp [go_sem,ev e7]) (hK' _ (by decide) rfl)
  | 1,ho,hd,hp,hK,hK' =>
   cases ho;have e:a.eval (.tmp 8) = .pointer (some ⟨E,0,none⟩):=(hold 8 (by decide)).trans s8;exact op_value (by simp [go_sem,ev e]) (hK' _ (by decide) rfl)
  | 2,ho,hd,hp,hK,hK' =>
   cases ho;have e:a.eval (.tmp 35) = .pointer (some ⟨E,0,none⟩):=hH.fact 1 _ 35 rfl rfl (hp 1 (by decide));have hc:w.cell? ⟨E,0,none⟩ = some (.slice Ak mm.kinds.length ck):=hbox.cell 0;exact op_value (by simp [go_sem,ev e,hc]) (hK' _ (by decide) rfl)
  | 3,ho,hd,hp,hK,hK' =>
   cases ho;have e:a.eval (.tmp 36) = .slice Ak mm.kinds.length ck:=hH.fact 2 _ 36 rfl rfl (hp 2 (by decide));refine op_call1 Tryz.func46 (by kernel_rfl) (by kernel_rfl) _ rfl e (kitClone_int Ak mm.kinds ck w (hk1.aft hW.aft)) ?_;rintro e w' ⟨v,rfl,hown,ha⟩;exact ⟨_,rfl,hK _ _ (World.ownsRow.mono hown hW.keep.1) (hW.go ha (fun h=>h)) fun j _ _ _ _ _ hu=>Factc9.aft ha hu⟩
  | 4,ho,hd,hp,hK,hK' =>
   cases ho;have e:a.eval (.tmp 8) = .pointer (some ⟨E,0,none⟩):=(hold 8 (by decide)).trans s8;exact op_value (by simp [go_sem,ev e]) (hK' _ (by decide) rfl)
  | 5,ho,hd,hp,hK,hK' =>
   cases ho;have e:a.eval (.tmp 38) = .pointer (some ⟨E,1,none⟩):=hH.fact 4 _ 38 rfl rfl (hp 4 (by decide));have hc:w.cell? ⟨E,1,none⟩ = some (.slice Ae mm.ends.length ce):=hbox.cell 1;exact op_value (by simp [go_sem,ev e,hc]) (hK' _ (by decide) rfl)
  | 6,ho,hd,hp,hK,hK' =>
   cases ho;have e:a.eval (.tmp 39) = .slice Ae mm.ends.length ce:=hH.fact 5 _ 39 rfl rfl (hp 5 (by decide));refine op_call1 Tryz.func46 (by kernel_rfl) (by kernel_rfl) _ rfl e (kitClone_int Ae mm.ends ce w (hk2.aft hW.aft)) ?_;rintro e w' ⟨v,rfl,hown,ha⟩;exact ⟨_,rfl,hK _ _ (World.ownsRow.mono hown hW.keep.1) (hW.go ha (fun h=>h)) fun j _ _ _ _ _ hu=>Factc9.aft ha hu⟩
  | 7,ho,hd,hp,hK,hK' =>
   cases ho;obtain ⟨v1,e1⟩:∃ v,a.eval (.tmp 37) = v:=⟨_,rfl⟩;obtain ⟨v2,e2⟩:∃ v,a.eval (.tmp 40) = v:=⟨_,rfl⟩;have g1:w.ownsRow W8.heap.size 3 1 v1 mm.kinds.length (mm.kinds.map (Value.int .i64)):=by rw [<- e1];exact hH.fact 3 _ 37 rfl rfl (hp 3 (by decide))
   have g2:w.ownsRow W8.heap.size 3 1 v2 mm.ends.length (mm.ends.map (Value.int .i64)):=by rw [<- e2];exact hH.fact 6 _ 40 rfl rfl (hp 6 (by decide))
   have hf:Factc9 E W8 Ak Ae ck ce base vS ms mm (Go.upd done 7) 7 (.agg #[v1,v2]) w:=⟨v1,v2,rfl,g1,g2⟩;obtain ⟨sA,sn,sc,rfl⟩:=own_slice' g1;obtain ⟨tA,tn,tc,rfl⟩:=own_slice' g2;exact op_value (by simp [go_sem,ev e1,ev e2]) (hK' _ (by decide) hf)
  | 8,ho,hd,hp,hK,hK' =>
   cases ho;obtain ⟨v1,v2,e,g1,g2⟩:∃ v1 v2,a.eval (.tmp 41) = .agg #[v1,v2] /\ w.ownsRow W8.heap.size 3 1 v1 mm.kinds.length (mm.kinds.map (Value.int .i64)) /\ w.ownsRow W8.heap.size 3 1 v2 mm.ends.length (mm.ends.map (Value.int .i64)):=hH.fact 7 _ 41 rfl rfl (hp 7 (by decide));have ha:=Aft.alloc w (.cells #[v1,v2] 67);have h1:Factc9 E W8 Ak Ae ck ce base vS ms mm (Go.upd done 8) 8 (.slice (some ⟨w.heap.size,0,none⟩) 1 1) (w.alloc (.cells #[v1,v2] 67)):=⟨v1,v2,_,rfl,own_aft g1 ha,own_aft g2 ha,Blk.new _ _ _,hW.keep.1⟩;have:=hK _ _ h1 (hW.go ha (fun h=>h)) fun j _ _ _ _ _ hu=>Factc9.aft ha hu
   obtain ⟨sA,sn,sc,rfl⟩:=own_slice' g1;obtain ⟨tA,tn,tc,rfl⟩:=own_slice' g2;unfold Oper.wp;simpa [go_sem,ev e] using this
  | 9,ho,hd,hp,hK,hK' =>
   cases ho;obtain ⟨v1,v2,b,e,g1,g2,hb,hb3⟩:∃ v1 v2 b,a.eval (.tmp 42) = .slice (some ⟨b,0,none⟩) 1 1 /\ w.ownsRow W8.heap.size 3 1 v1 mm.kinds.length (mm.kinds.map (Value.int .i64)) /\ w.ownsRow W8.heap.size 3 1 v2 mm.ends.length (mm.ends.map (Value.int .i64)) /\ Blk w b 67 #[v1,v2] /\ W8.heap.size <= b:=hH.fact 8 _ 42 rfl rfl (hp 8 (by decide));have e2:a.eval (.tmp 34) = vS:=hH.fact 0 _ 34 rfl rfl (hp 0 (by decide));obtain ⟨ho1,hn7⟩:=hW.own hd;have hx:=mean_sup g1 g2 hk1.len hk2.len
   have hone:∀ u ∈ [v1,v2],u.oneCell' = true:=fun u hu=>by
    rcases List.mem_cons.1 hu with rfl | hu
    ·exact own_cell1 g1
    ·rw [List.mem_singleton] at hu;subst hu;exact own_cell1 g2
   refine op_app ty78 _ _ rfl (Nat.le_trans hsz hW.keep.1) e2 ho1.own e hb rfl hone (by omega) (by decide) fun v' w' h1 h2 h3=>?_
   have hfar:∀ k,(v1.ownBlock = some k \/ v2.ownBlock = some k) -> W8.heap.size <= k:=fun k hk=>hk.elim (fun e=>(g1.lt k e).1) (fun e=>(g2.lt k e).1)
   have hpush:=ho1.push hx rfl (fun k hk=>⟨Nat.le_trans hsz (hfar k hk),fun e=>by have:=(hvS k e).2;have:=hfar k hk;omega⟩) h1 h2 h3
   have hn2:N27 w' (fun k=>S k \/ (v1.ownBlock = some k \/ v2.ownBlock = some k)):=fun k hk=>by
    have hlt:k < w.heap.size:=hk.elim (ho1.lt k) (fun e=>hx.1 k e);have hne:some k ≠ vS.ownBlock:=fun e=>hk.elim (fun hS=>(ho1.far k hS).2 e.symm) (fun h=>by have:=(hvS k e.symm).2;have:=hfar k h;omega)
    rw [h2.block k hlt hne];exact hk.elim (hn7 k) (fun h=>h.elim (fun e=>own_n27 g1 (by decide) k e) (fun e=>own_n27 g2 (by decide) k e))
   refine hK _ _ ⟨_,_,hpush,hn2⟩ ⟨hW.aft.grown h2 (fun k e=>by have:=(hvS k e).1;omega),⟨Nat.le_trans hW.keep.1 h2.size,fun k hk hne=>(h2.block k (Nat.lt_of_lt_of_le hk hW.keep.1) (fun e=>hne e.symm)).trans (hW.keep.2 k hk hne)⟩,fun h=>(by (have h':Go.upd done 9 9 = true:=rfl);rw [h'] at h;cases h)⟩ fun j _ _ _ _ hj hu=>?_
   have:j ≠ 9:=fun e=>by rw [e,hd] at hj;cases hj
   have:j ≠ 10:=fun e=>by
    subst e;have:=hH.closed 10 _ rfl hj 9 (by decide);rw [hd] at this;cases this
   by_cases h9:j < 9
   ·exact Factc9.low h2 (fun k e=>(hvS k e).2) h9 hu
   ·unfold Factc9 at hu ⊢;split at hu <;> first | exact hu | omega
  | 10,ho,hd,hp,hK,hK' =>
   cases ho;obtain ⟨v',e2⟩:∃ v',a.eval (.tmp 43) = v':=⟨_,rfl⟩;have h1:More9 base ms mm v' w:=by rw [<- e2];exact hH.fact 9 _ 43 rfl rfl (hp 9 (by decide))
   exact op_value (by simp [go_sem,ev e2]) (hK' _ (by decide) h1)
  | _ + 11,ho,_,_,_,_=>cases ho
 case fin =>
  intro done a w hall hH;have hdone:∀ i,i < 11 -> done i = true:=fun i hi=>hall i (by exact hi)
  have hold:∀ s:Nat,chc9 s = false -> a.eval (.tmp s) = a0.eval (.tmp s):=fun s h=>hH.old s fun k ok hk hs=>by
   match k,hk with
   | 0,hk=>cases hk;cases hs;exact absurd h (by decide)
   | 1,hk=>cases hk;cases hs;exact absurd h (by decide)
   | 2,hk=>cases hk;cases hs;exact absurd h (by decide)
   | 3,hk=>cases hk;cases hs;exact absurd h (by decide)
   | 4,hk=>cases hk;cases hs;exact absurd h (by decide)
   | 5,hk=>cases hk;cases hs;exact absurd h (by decide)
   | 6,hk=>cases hk;cases hs;exact absurd h (by decide)
   | 7,hk=>cases hk;cases hs;exact absurd h (by decide)
   | 8,hk=>cases hk;cases hs;exact absurd h (by decide)
   | 9,hk=>cases hk;cases hs;exact absurd h (by decide)
   | 10,hk=>cases hk;cases hs;exact absurd h (by decide)
   | _ + 11,hk=>cases hk
  exact HEX.out a w (hH.size.trans hz) hH.defers hold (hH.fact 10 _ 6 rfl rfl (hdone 10 (by decide))) hH.wd.aft hH.wd.keep
set_option maxRecDepth 100000 in
set_option maxHeartbeats 2000000 in
theorem region9_ctlit (X:World) (E base:Nat) (Ak Ae:Option Addr) (ck ce:Nat) (vS:Value) (S:Nat -> Prop) (ms:List Mean) (xs:List Value) (mm:Mean) (W8:World) (ha:Aft X W8) (hbx:Blk W8 E 67 #[.slice Ak mm.kinds.length ck,.slice Ae mm.ends.length ce]) (hvE:vS.ownBlock ≠ some E) (hk1:Ints X Ak mm.kinds) (hk2:Ints X Ae mm.ends) (hown:OwnK MeanR 67 2 base vS S ms xs W8) (hn7:N27 W8 S) (hn:ms.length <= 100) (hXb:X.heap.size <= base) (hsz:base <= W8.heap.size)
  (q0 q1 q2 q3 q4 q5 q7 q9 q10 q11 q12 q13 q14 q15 q16 q17 q18 q19 q20 q21 q22 q23 q24 q25 q26 q27 q28 q29 q30 q31 q32 q33 q34 q35 q36 q37 q38 q39 q40 q41 q42 q43 q44 q45 q46 q47 q48 q49 q50 q51 q52:Value) (Q0:Exit -> Act -> World -> Prop)
  (hexit:∀ (u6 u34 u35 u36 u37 u38 u39 u40 u41 u42 u43:Value) W' ,More9 base ms mm (u6) W' -> Aft X W' -> (W8.heap.size <= W'.heap.size /\ ∀ k,k < W8.heap.size -> vS.ownBlock ≠ some k -> W'.heap[k]? = W8.heap[k]?) -> Q0 .normal ⟨(List.toArray (q0 :: q1 :: q2 :: q3 :: q4 :: q5 :: u6 :: q7 :: .pointer (some ⟨E,0,none⟩) :: q9 :: q10 :: q11 :: q12 :: q13 :: q14 :: q15 :: q16 :: q17 :: q18 :: q19 :: q20 :: q21 :: q22 :: q23 :: q24 :: q25 :: q26 :: q27 :: q28 :: q29 :: q30 :: q31 :: q32 :: q33 :: u34 :: u35 :: u36 :: u37 :: u38 :: u39 :: u40 :: u41 :: u42 :: u43 :: q44 :: q45 :: q46 :: q47 :: q48 :: q49 :: q50 :: q51 :: q52 :: [])),[]⟩ W') :
  Code.wp Tryz.prog (Code.region 9 (opsCt 9).toArray true) Q0 ⟨(List.toArray (q0 :: q1 :: q2 :: q3 :: q4 :: q5 :: vS :: q7 :: .pointer (some ⟨E,0,none⟩) :: q9 :: q10 :: q11 :: q12 :: q13 :: q14 :: q15 :: q16 :: q17 :: q18 :: q19 :: q20 :: q21 :: q22 :: q23 :: q24 :: q25 :: q26 :: q27 :: q28 :: q29 :: q30 :: q31 :: q32 :: q33 :: q34 :: q35 :: q36 :: q37 :: q38 :: q39 :: q40 :: q41 :: q42 :: q43 :: q44 :: q45 :: q46 :: q47 :: q48 :: q49 :: q50 :: q51 :: q52 :: [])),[]⟩ W8:=by
 refine region9_ct X E base Ak Ae ck ce vS S ms xs mm _ Q0 W8 rfl rfl rfl ha hbx hvE hk1 hk2 hown hn7 hn hXb hsz ?_;intro a W'  hz hd hs h1 h2 h3;have e:=frame_act 53 a _ hz hd chc9 (fun s hp=>hs s hp);have e2:a = ⟨(List.toArray (q0 :: q1 :: q2 :: q3 :: q4 :: q5 :: a.eval (.tmp 6) :: q7 :: .pointer (some ⟨E,0,none⟩) :: q9 :: q10 :: q11 :: q12 :: q13 :: q14 :: q15 :: q16 :: q17 :: q18 :: q19 :: q20 :: q21 :: q22 :: q23 :: q24 :: q25 :: q26 :: q27 :: q28 :: q29 :: q30 :: q31 :: q32 :: q33 :: a.eval (.tmp 34) :: a.eval (.tmp 35) :: a.eval (.tmp 36) :: a.eval (.tmp 37) :: a.eval (.tmp 38) :: a.eval (.tmp 39) :: a.eval (.tmp 40) :: a.eval (.tmp 41) :: a.eval (.tmp 42) :: a.eval (.tmp 43) :: q44 :: q45 :: q46 :: q47 :: q48 :: q49 :: q50 :: q51 :: q52 :: [])),[]⟩:=e;have h:=hexit (a.eval (.tmp 6)) (a.eval (.tmp 34)) (a.eval (.tmp 35)) (a.eval (.tmp 36)) (a.eval (.tmp 37)) (a.eval (.tmp 38)) (a.eval (.tmp 39)) (a.eval (.tmp 40)) (a.eval (.tmp 41)) (a.eval (.tmp 42)) (a.eval (.tmp 43)) W'  h1 h2 h3;rw [<- e2] at h;exact h
def Good1 (W8:World) (T:Treaty) (b:Nat) (w:World):Prop:=∃ v1 v3 v4,Blk w b 27 #[.int .i64 T.places,v1,.slice none 0 0,v3,v4] /\ w.ownsRow W8.heap.size 65 3 v1 T.ways.length (T.ways.flatMap encWay) /\ w.ownsRow W8.heap.size 3 1 v3 T.starts.length (T.starts.map (Value.int .i64)) /\ w.ownsRow W8.heap.size 70 2 v4 T.legs.length (T.legs.flatMap encLeg)
structure Wc1 (W8:World) (_:Nat -> Bool) (w:World):Prop where
 aft:Aft W8 w
def Factc1 (B1:Nat) (W8:World) (T:Treaty) (a1 a2 a3 a4:Option Addr) (c1 c2 c3 c4:Nat) (done:Nat -> Bool):Nat -> Value -> World -> Prop
 | 0,v,_=>v = .pointer (some ⟨B1,0,none⟩)
 | 1,v,_=>v = .int .i64 T.places
 | 2,v,_=>v = .pointer (some ⟨B1,1,none⟩)
 | 3,v,_=>v = .slice a1 T.ways.length c1
 | 4,v,w=>w.ownsRow W8.heap.size 65 3 v T.ways.length (T.ways.flatMap encWay)
 | 5,v,_=>v = .pointer (some ⟨B1,3,none⟩)
 | 6,v,_=>v = .slice a3 T.starts.length c3
 | 7,v,w=>w.ownsRow W8.heap.size 3 1 v T.starts.length (T.starts.map (Value.int .i64))
 | 8,v,_=>v = .pointer (some ⟨B1,4,none⟩)
 | 9,v,_=>v = .slice a4 T.legs.length c4
 | 10,v,w=>w.ownsRow W8.heap.size 70 2 v T.legs.length (T.legs.flatMap encLeg)
 | 11,v,w=>∃ v1 v3 v4,v = .agg #[.int .i64 T.places,v1,.slice none 0 0,v3,v4] /\ w.ownsRow W8.heap.size 65 3 v1 T.ways.length (T.ways.flatMap encWay) /\ w.ownsRow W8.heap.size 3 1 v3 T.starts.length (T.starts.map (Value.int .i64)) /\ w.ownsRow W8.heap.size 70 2 v4 T.legs.length (T.legs.flatMap encLeg)
 | 12,v,w=>∃ b,v = .pointer (some ⟨b,0,none⟩) /\ W8.heap.size <= b /\ (done 13 = false -> Blk w b 27 #[.int .i64 0,.slice none 0 0,.slice none 0 0,.slice none 0 0,.slice none 0 0]) /\ (done 13 = true -> Good1 W8 T b w)
 | _,_,_=>True
section
variable {B1:Nat} {W8:World} {T:Treaty} {a1 a2 a3 a4:Option Addr} {c1 c2 c3 c4:Nat} {done done':Nat -> Bool} {w w':World} {i:Nat} {v:Value}
theorem Good1.aft {b:Nat} (h:Good1 W8 T b w) (ha:Aft w w'):Good1 W8 T b w':=let ⟨v1,v3,v4,h1,h2,h3,h4⟩:=h;⟨v1,v3,v4,h1.aft ha,own_aft h2 ha,own_aft h3 ha,own_aft h4 ha⟩
theorem Factc1.aft (ha:Aft w w') (hd:done' 13 = done 13) (h:Factc1 B1 W8 T a1 a2 a3 a4 c1 c2 c3 c4 done i v w):Factc1 B1 W8 T a1 a2 a3 a4 c1 c2 c3 c4 done' i v w':=by
 unfold Factc1 at h ⊢
 split at h <;> first
  | exact h
  | exact own_aft h ha
  | (obtain ⟨v1,v3,v4,e,h1,h2,h3⟩:=h;exact ⟨v1,v3,v4,e,own_aft h1 ha,own_aft h2 ha,own_aft h3 ha⟩)
  | (obtain ⟨b,e,h1,h2,h3⟩:=h;exact ⟨b,e,h1,fun h=>(h2 (by rw [<- hd];exact h)).aft ha,fun h=>(h3 (by rw [<- hd];exact h)).aft ha⟩)
theorem Factc1.low {g:Nat} (hg:w.grownBy w' (some g)) {cs:Array Value} (hb:Blk w g 27 cs) (hi:i ≠ 12) (h:Factc1 B1 W8 T a1 a2 a3 a4 c1 c2 c3 c4 done i v w):Factc1 B1 W8 T a1 a2 a3 a4 c1 c2 c3 c4 done' i v w':=by
 have k:∀ {e sz n:Nat} {v:Value} {xs:List Value},w.ownsRow W8.heap.size e sz v n xs -> e ≠ 27 -> w'.ownsRow W8.heap.size e sz v n xs:=fun h he=>own_kept3 h hg (fun q e=>by cases e;exact own_ne27 h he hb)
 unfold Factc1 at h ⊢
 split at h <;> first
  | exact h
  | omega
  | exact k h (by decide)
  | (obtain ⟨v1,v3,v4,e,h1,h2,h3⟩:=h;exact ⟨v1,v3,v4,e,k h1 (by decide),k h2 (by decide),k h3 (by decide)⟩)
end
def chc1 (s:Nat):Bool:=decide (s = 3) || decide (s = 9) || decide (s = 10) || decide (s = 11) || decide (s = 12) || decide (s = 13) || decide (s = 14) || decide (s = 15) || decide (s = 16) || decide (s = 17) || decide (s = 18) || decide (s = 19) || decide (s = 20)
set_option maxRecDepth 100000 in
set_option maxHeartbeats 2000000 in
theorem region1_ct (T:Treaty) (a1 a2 a3 a4:Option Addr) (c1 c2 c3 c4:Nat) (B1:Nat) (a0:Act) (Q0:Exit -> Act -> World -> Prop) (W8:World)
  (hz:a0.tmps.size = 53) (s1:a0.eval (.tmp 1) = .pointer (some ⟨B1,0,none⟩))
  (hT:TRep W8 T a1 a2 a3 a4) (hbx:Blk W8 B1 27 #[.int .i64 T.places,.slice a1 T.ways.length c1,.slice a2 T.words.length c2,.slice a3 T.starts.length c3,.slice a4 T.legs.length c4]) (hl1:T.ways.length <= 1000) (hl4:T.legs.length <= 1000)
  (hexit:∀ a W' b,a.tmps.size = 53 -> a.defers = a0.defers -> (∀ s:Nat,chc1 s = false -> a.eval (.tmp s) = a0.eval (.tmp s)) -> a.eval (.tmp 3) = .pointer (some ⟨b,0,none⟩) -> W8.heap.size <= b -> Good1 W8 T b W' -> Aft W8 W' -> Q0 .normal a W') :
  Code.wp Tryz.prog (Code.region 1 (opsCt 1).toArray true) Q0 a0 W8:=by
 have HEX:=Lib.hid hexit;clear hexit;refine wp_region_factsE (by kernel_rfl) 53 hz (by kernel_rfl) (Factc1 B1 W8 T a1 a2 a3 a4 c1 c2 c3 c4) (Wc1 W8) ⟨Aft.drew _⟩ ?step ?fin
 case step =>
  intro i o ho done a w hH hd hp K hK;have hW:=hH.wd
  have hold:∀ s:Nat,chc1 s = false -> a.eval (.tmp s) = a0.eval (.tmp s):=fun s h=>hH.old s fun k ok hk hs=>by
   match k,hk with
   | 0,hk=>cases hk;cases hs;exact absurd h (by decide)
   | 1,hk=>cases hk;cases hs;exact absurd h (by decide)
   | 2,hk=>cases hk;cases hs;exact absurd h (by decide)
   | 3,hk=>cases hk;cases hs;exact absurd h (by decide)
   | 4,hk=>cases hk;cases hs;exact absurd h (by decide)
   | 5,hk=>cases hk;cases hs;exact absurd h (by decide)
   | 6,hk=>cases hk;cases hs;exact absurd h (by decide)
   | 7,hk=>cases hk;cases hs;exact absurd h (by decide)
   | 8,hk=>cases hk;cases hs;exact absurd h (by decide)
   | 9,hk=>cases hk;cases hs;exact absurd h (by decide)
   | 10,hk=>cases hk;cases hs;exact absurd h (by decide)
   | 11,hk=>cases hk;cases hs;exact absurd h (by decide)
   | 12,hk=>cases hk;cases hs;exact absurd h (by decide)
   | 13,hk=>cases hk;cases hs
   | _ + 14,hk=>cases hk
  have hbox:Blk w B1 27 #[.int .i64 T.places,.slice a1 T.ways.length c1,.slice a2 T.words.length c2,.slice a3 T.starts.length c3,.slice a4 T.legs.length c4]:=hbx.aft hW.aft
  have h13':i ≠ 13 -> done 13 = false:=fun hi=>by
   cases hdk:done 13 with
   | false=>rfl
   | true=>have:=hH.closed 13 _ rfl hdk i (by revert hd;match i,ho with
    | 0,_=>intro _;decide
    | 1,_=>intro _;decide
    | 2,_=>intro _;decide
    | 3,_=>intro _;decide
    | 4,_=>intro _;decide
    | 5,_=>intro _;decide
    | 6,_=>intro _;decide
    | 7,_=>intro _;decide
    | 8,_=>intro _;decide
    | 9,_=>intro _;decide
    | 10,_=>intro _;decide
    | 11,_=>intro _;decide
    | 12,_=>intro _;decide
    | 13,_=>exact absurd rfl hi
    | _ + 14,ho=>cases ho);rw [hd] at this;cases this
  have hK':∀ v,i ≠ 13 -> Factc1 B1 W8 T a1 a2 a3 a4 c1 c2 c3 c4 (Go.upd done i) i v w -> K (a.put o.dst v) w:=fun v h9 hv=>hK v w hv ⟨hW.aft⟩ fun j _ _ _ _ _ hu=>Factc1.aft (Aft.refl w) (by unfold Go.upd;rw [if_neg (Ne.symm h9)]) hu
  match i,ho,hd,hp,hK,hK',h13' with
  | 0,ho,hd,hp,hK,hK',h13' =>
   cases ho;have e:a.eval (.tmp 1) = .pointer (some ⟨B1,0,none⟩):=(hold 1 (by decide)).trans s1;exact op_value (by simp [go_sem,ev e]) (hK' _ (by decide) rfl)
  | 1,ho,hd,hp,hK,hK',h13' =>
   cases ho;have e:a.eval (.tmp 9) = .pointer (some ⟨B1,0,none⟩):=hH.fact 0 _ 9 rfl rfl (hp 0 (by decide));have hc:w.cell? ⟨B1,0,none⟩ = some (.int .i64 T.places):=hbox.cell 0;exact op_value (by simp [go_sem,ev e,hc]) (hK' _ (by decide) rfl)
  | 2,ho,hd,hp,hK,hK',h13' =>
   cases ho;have e:a.eval (.tmp 1) = .pointer (some ⟨B1,0,none⟩):=(hold 1 (by decide)).trans s1;exact op_value (by simp [go_sem,ev e]) (hK' _ (by decide) rfl)
  | 3,ho,hd,hp,hK,hK',h13' =>
   cases ho;have e:a.eval (.tmp 11) = .pointer (some ⟨B1,1,none⟩):=hH.fact 2 _ 11 rfl rfl (hp 2 (by decide));have hc:w.cell? ⟨B1,1,none⟩ = some (.slice a1 T.ways.length c1):=hbox.cell 1;exact op_value (by simp [go_sem,ev e,hc]) (hK' _ (by decide) rfl)
  | 4,ho,hd,hp,hK,hK',h13' =>
   cases ho;have e:a.eval (.tmp 12) = .slice a1 T.ways.length c1:=hH.fact 3 _ 12 rfl rfl (hp 3 (by decide));refine op_call1 Tryz.func45 (by kernel_rfl) (by kernel_rfl) _ rfl e (cloneWays a1 T.ways c1 w (hT.aft hW.aft).ways (by omega)) ?_;rintro e w' ⟨v,rfl,hown,ha⟩;exact ⟨_,rfl,hK _ _ (World.ownsRow.mono hown hW.aft.size) ⟨hW.aft.trans ha⟩ fun j _ _ _ _ _ hu=>Factc1.aft ha rfl hu⟩
  | 5,ho,hd,hp,hK,hK',h13' =>
   cases ho;have e:a.eval (.tmp 1) = .pointer (some ⟨B1,0,none⟩):=(hold 1 (by decide)).trans s1;exact op_value (by simp [go_sem,ev e]) (hK' _ (by decide) rfl)
  | 6,ho,hd,hp,hK,hK',h13' =>
   cases ho;have e:a.eval (.tmp 14) = .pointer (some ⟨B1,3,none⟩):=hH.fact 5 _ 14 rfl rfl (hp 5 (by decide));have hc:w.cell? ⟨B1,3,none⟩ = some (.slice a3 T.starts.length c3):=hbox.cell 3;exact op_value (by simp [go_sem,ev e,hc]) (hK' _ (by decide) rfl)
  | 7,ho,hd,hp,hK,hK',h13' =>
   cases ho;have e:a.eval (.tmp 15) = .slice a3 T.starts.length c3:=hH.fact 6 _ 15 rfl rfl (hp 6 (by decide));refine op_call1 Tryz.func46 (by kernel_rfl) (by kernel_rfl) _ rfl e (kitClone_int a3 T.starts c3 w (hT.aft hW.aft).starts) ?_;rintro e w' ⟨v,rfl,hown,ha⟩;exact ⟨_,rfl,hK _ _ (World.ownsRow.mono hown hW.aft.size) ⟨hW.aft.trans ha⟩ fun j _ _ _ _ _ hu=>Factc1.aft ha rfl hu⟩
  | 8,ho,hd,hp,hK,hK',h13' =>
   cases ho;have e:a.eval (.tmp 1) = .pointer (some ⟨B1,0,none⟩):=(hold 1 (by decide)).trans s1;exact op_value (by simp [go_sem,ev e]) (hK' _ (by decide) rfl)
  | 9,ho,hd,hp,hK,hK',h13' =>
   cases ho;have e:a.eval (.tmp 17) = .pointer (some ⟨B1,4,none⟩):=hH.fact 8 _ 17 rfl rfl (hp 8 (by decide));have hc:w.cell? ⟨B1,4,none⟩ = some (.slice a4 T.legs.length c4):=hbox.cell 4;exact op_value (by simp [go_sem,ev e,hc]) (hK' _ (by decide) rfl)
  | 10,ho,hd,hp,hK,hK',h13' =>
   cases ho;have e:a.eval (.tmp 18) = .slice a4 T.legs.length c4:=hH.fact 9 _ 18 rfl rfl (hp 9 (by decide));refine op_call1 Tryz.func47 (by kernel_rfl) (by kernel_rfl) _ rfl e (cloneLegs a4 T.legs c4 w (hT.aft hW.aft).legs (by omega)) ?_;rintro e w' ⟨v,rfl,hown,ha⟩;exact ⟨_,rfl,hK _ _ (World.ownsRow.mono hown hW.aft.size) ⟨hW.aft.trans ha⟩ fun j _ _ _ _ _ hu=>Factc1.aft ha rfl hu⟩
  | 11,ho,hd,hp,hK,hK',h13' =>
   cases ho;have e0:a.eval (.tmp 10) = .int .i64 T.places:=hH.fact 1 _ 10 rfl rfl (hp 1 (by decide));obtain ⟨v1,e1⟩:∃ v,a.eval (.tmp 13) = v:=⟨_,rfl⟩;obtain ⟨v3,e3⟩:∃ v,a.eval (.tmp 16) = v:=⟨_,rfl⟩;obtain ⟨v4,e4⟩:∃ v,a.eval (.tmp 19) = v:=⟨_,rfl⟩;have g1:w.ownsRow W8.heap.size 65 3 v1 T.ways.length (T.ways.flatMap encWay):=by rw [<- e1];exact hH.fact 4 _ 13 rfl rfl (hp 4 (by decide))
   have g3:w.ownsRow W8.heap.size 3 1 v3 T.starts.length (T.starts.map (Value.int .i64)):=by rw [<- e3];exact hH.fact 7 _ 16 rfl rfl (hp 7 (by decide))
   have g4:w.ownsRow W8.heap.size 70 2 v4 T.legs.length (T.legs.flatMap encLeg):=by rw [<- e4];exact hH.fact 10 _ 19 rfl rfl (hp 10 (by decide))
   have hf:Factc1 B1 W8 T a1 a2 a3 a4 c1 c2 c3 c4 (Go.upd done 11) 11 (.agg #[.int .i64 T.places,v1,.slice none 0 0,v3,v4]) w:=⟨v1,v3,v4,rfl,g1,g3,g4⟩;obtain ⟨s1A,s1n,s1c,rfl⟩:=own_slice' g1;obtain ⟨s3A,s3n,s3c,rfl⟩:=own_slice' g3;obtain ⟨s4A,s4n,s4c,rfl⟩:=own_slice' g4;exact op_value (by simp [go_sem,ev e0,ev e1,ev e3,ev e4]) (hK' _ (by decide) hf)
  | 12,ho,hd,hp,hK,hK',h13' =>
   cases ho;have ha:=Aft.alloc w (.cells #[.int .i64 0,.slice none 0 0,.slice none 0 0,.slice none 0 0,.slice none 0 0] 27);have h13:=h13' (by decide);have h1:Factc1 B1 W8 T a1 a2 a3 a4 c1 c2 c3 c4 (Go.upd done 12) 12 (.pointer (some ⟨w.heap.size,0,none⟩)) (w.alloc (.cells #[.int .i64 0,.slice none 0 0,.slice none 0 0,.slice none 0 0,.slice none 0 0] 27)):=⟨_,rfl,hW.aft.size,fun _=>Blk.new _ _ _,fun h=>by rw [show Go.upd done 12 13 = done 13 from rfl,h13] at h;cases h⟩;have:=hK _ _ h1 ⟨hW.aft.trans ha⟩ fun j _ _ _ _ _ hu=>Factc1.aft ha rfl hu
   unfold Oper.wp;simpa [go_sem] using this
  | 13,ho,hd,hp,hK,hK',h13' =>
   cases ho;obtain ⟨v1,v3,v4,e,g1,g3,g4⟩:∃ v1 v3 v4,a.eval (.tmp 20) = .agg #[.int .i64 T.places,v1,.slice none 0 0,v3,v4] /\ w.ownsRow W8.heap.size 65 3 v1 T.ways.length (T.ways.flatMap encWay) /\ w.ownsRow W8.heap.size 3 1 v3 T.starts.length (T.starts.map (Value.int .i64)) /\ w.ownsRow W8.heap.size 70 2 v4 T.legs.length (T.legs.flatMap encLeg):=hH.fact 11 _ 20 rfl rfl (hp 11 (by decide));obtain ⟨b,e2,hbb,hbl,-⟩:∃ b,a.eval (.tmp 3) = .pointer (some ⟨b,0,none⟩) /\ W8.heap.size <= b /\ (done 13 = false -> Blk w b 27 #[.int .i64 0,.slice none 0 0,.slice none 0 0,.slice none 0 0,.slice none 0 0]) /\ (done 13 = true -> Good1 W8 T b w):=hH.fact 12 _ 3 rfl rfl (hp 12 (by decide));have hb0:=hbl hd;obtain ⟨h5,hg5⟩:=blk_five hb0 (.int .i64 T.places) v1 (.slice none 0 0) v3 v4;have k:∀ {e sz n:Nat} {v:Value} {xs:List Value},w.ownsRow W8.heap.size e sz v n xs -> e ≠ 27 -> World.ownsRow (((((w.setCell ⟨b,0,none⟩ (.int .i64 T.places)).setCell ⟨b,1,none⟩ v1).setCell ⟨b,2,none⟩ (.slice none 0 0)).setCell ⟨b,3,none⟩ v3).setCell ⟨b,4,none⟩ v4) W8.heap.size e sz v n xs:=fun h he=>own_kept3 h hg5 (fun q e=>by cases e;exact own_ne27 h he hb0)
   have hgood:Good1 W8 T b _:=⟨v1,v3,v4,h5,k g1 (by decide),k g3 (by decide),k g4 (by decide)⟩
   have:=hK undef _ trivial ⟨hW.aft.grown hg5 (fun q e=>by cases e;exact hbb)⟩ fun j oj s hoj hs hj hu=>by
    by_cases hj12:j = 12
    ·subst hj12;cases hoj;cases hs;exact ⟨b,e2,hbb,fun h=>(by (have h':Go.upd done 13 13 = true:=rfl);rw [h'] at h;cases h),fun _=>hgood⟩
    ·exact Factc1.low hg5 hb0 hj12 hu
   obtain ⟨s1A,s1n,s1c,rfl⟩:=own_slice' g1;obtain ⟨s3A,s3n,s3c,rfl⟩:=own_slice' g3;obtain ⟨s4A,s4n,s4c,rfl⟩:=own_slice' g4;have hlt:=hb0.lt;have hf:∀ i,w.frozen? ⟨b,i,none⟩ = false:=fun i=>hb0.frozen i
   have j0:w.cell? ⟨b,0,none⟩ = some (.int .i64 0):=hb0.cell 0;have j1:w.cell? ⟨b,1,none⟩ = some (.slice none 0 0):=hb0.cell 1;have j2:w.cell? ⟨b,2,none⟩ = some (.slice none 0 0):=hb0.cell 2;have j3:w.cell? ⟨b,3,none⟩ = some (.slice none 0 0):=hb0.cell 3;have j4:w.cell? ⟨b,4,none⟩ = some (.slice none 0 0):=hb0.cell 4;unfold Oper.wp;simpa [go_sem,ev e,ev e2,hf,j0,j1,j2,j3,j4,hlt] using this
  | _ + 14,ho,_,_,_,_,_=>cases ho
 case fin =>
  intro done a w hall hH;have hdone:∀ i,i < 14 -> done i = true:=fun i hi=>hall i (by exact hi)
  have hold:∀ s:Nat,chc1 s = false -> a.eval (.tmp s) = a0.eval (.tmp s):=fun s h=>hH.old s fun k ok hk hs=>by
   match k,hk with
   | 0,hk=>cases hk;cases hs;exact absurd h (by decide)
   | 1,hk=>cases hk;cases hs;exact absurd h (by decide)
   | 2,hk=>cases hk;cases hs;exact absurd h (by decide)
   | 3,hk=>cases hk;cases hs;exact absurd h (by decide)
   | 4,hk=>cases hk;cases hs;exact absurd h (by decide)
   | 5,hk=>cases hk;cases hs;exact absurd h (by decide)
   | 6,hk=>cases hk;cases hs;exact absurd h (by decide)
   | 7,hk=>cases hk;cases hs;exact absurd h (by decide)
   | 8,hk=>cases hk;cases hs;exact absurd h (by decide)
   | 9,hk=>cases hk;cases hs;exact absurd h (by decide)
   | 10,hk=>cases hk;cases hs;exact absurd h (by decide)
   | 11,hk=>cases hk;cases hs;exact absurd h (by decide)
   | 12,hk=>cases hk;cases hs;exact absurd h (by decide)
   | 13,hk=>cases hk;cases hs
   | _ + 14,hk=>cases hk
  obtain ⟨b,e,h1,-,h2⟩:∃ b,a.eval (.tmp 3) = .pointer (some ⟨b,0,none⟩) /\ W8.heap.size <= b /\ (done 13 = false -> Blk w b 27 #[.int .i64 0,.slice none 0 0,.slice none 0 0,.slice none 0 0,.slice none 0 0]) /\ (done 13 = true -> Good1 W8 T b w):=hH.fact 12 _ 3 rfl rfl (hdone 12 (by decide));exact HEX.out a w b (hH.size.trans hz) hH.defers hold e h1 (h2 (hdone 13 (by decide))) hH.wd.aft
set_option maxRecDepth 100000 in
set_option maxHeartbeats 2000000 in
theorem region1_ctlit (T:Treaty) (a1 a2 a3 a4:Option Addr) (c1 c2 c3 c4:Nat) (B1:Nat) (W8:World) (hT:TRep W8 T a1 a2 a3 a4) (hbx:Blk W8 B1 27 #[.int .i64 T.places,.slice a1 T.ways.length c1,.slice a2 T.words.length c2,.slice a3 T.starts.length c3,.slice a4 T.legs.length c4]) (hl1:T.ways.length <= 1000) (hl4:T.legs.length <= 1000)
  (q0 q2 q3 q4 q5 q6 q7 q8 q9 q10 q11 q12 q13 q14 q15 q16 q17 q18 q19 q20 q21 q22 q23 q24 q25 q26 q27 q28 q29 q30 q31 q32 q33 q34 q35 q36 q37 q38 q39 q40 q41 q42 q43 q44 q45 q46 q47 q48 q49 q50 q51 q52:Value) (Q0:Exit -> Act -> World -> Prop)
  (hexit:∀ (u3 u9 u10 u11 u12 u13 u14 u15 u16 u17 u18 u19 u20:Value) W' b,u3 = .pointer (some ⟨b,0,none⟩) -> W8.heap.size <= b -> Good1 W8 T b W' -> Aft W8 W' -> Q0 .normal ⟨(List.toArray (q0 :: .pointer (some ⟨B1,0,none⟩) :: q2 :: u3 :: q4 :: q5 :: q6 :: q7 :: q8 :: u9 :: u10 :: u11 :: u12 :: u13 :: u14 :: u15 :: u16 :: u17 :: u18 :: u19 :: u20 :: q21 :: q22 :: q23 :: q24 :: q25 :: q26 :: q27 :: q28 :: q29 :: q30 :: q31 :: q32 :: q33 :: q34 :: q35 :: q36 :: q37 :: q38 :: q39 :: q40 :: q41 :: q42 :: q43 :: q44 :: q45 :: q46 :: q47 :: q48 :: q49 :: q50 :: q51 :: q52 :: [])),[]⟩ W') :
  Code.wp Tryz.prog (Code.region 1 (opsCt 1).toArray true) Q0 ⟨(List.toArray (q0 :: .pointer (some ⟨B1,0,none⟩) :: q2 :: q3 :: q4 :: q5 :: q6 :: q7 :: q8 :: q9 :: q10 :: q11 :: q12 :: q13 :: q14 :: q15 :: q16 :: q17 :: q18 :: q19 :: q20 :: q21 :: q22 :: q23 :: q24 :: q25 :: q26 :: q27 :: q28 :: q29 :: q30 :: q31 :: q32 :: q33 :: q34 :: q35 :: q36 :: q37 :: q38 :: q39 :: q40 :: q41 :: q42 :: q43 :: q44 :: q45 :: q46 :: q47 :: q48 :: q49 :: q50 :: q51 :: q52 :: [])),[]⟩ W8:=by
 refine region1_ct T a1 a2 a3 a4 c1 c2 c3 c4 B1 _ Q0 W8 rfl rfl hT hbx hl1 hl4 ?_;intro a W' b hz hd hs h1 h2 h3 h4;have e:=frame_act 53 a _ hz hd chc1 (fun s hp=>hs s hp);have e2:a = ⟨(List.toArray (q0 :: .pointer (some ⟨B1,0,none⟩) :: q2 :: a.eval (.tmp 3) :: q4 :: q5 :: q6 :: q7 :: q8 :: a.eval (.tmp 9) :: a.eval (.tmp 10) :: a.eval (.tmp 11) :: a.eval (.tmp 12) :: a.eval (.tmp 13) :: a.eval (.tmp 14) :: a.eval (.tmp 15) :: a.eval (.tmp 16) :: a.eval (.tmp 17) :: a.eval (.tmp 18) :: a.eval (.tmp 19) :: a.eval (.tmp 20) :: q21 :: q22 :: q23 :: q24 :: q25 :: q26 :: q27 :: q28 :: q29 :: q30 :: q31 :: q32 :: q33 :: q34 :: q35 :: q36 :: q37 :: q38 :: q39 :: q40 :: q41 :: q42 :: q43 :: q44 :: q45 :: q46 :: q47 :: q48 :: q49 :: q50 :: q51 :: q52 :: [])),[]⟩:=e;have h:=hexit (a.eval (.tmp 3)) (a.eval (.tmp 9)) (a.eval (.tmp 10)) (a.eval (.tmp 11)) (a.eval (.tmp 12)) (a.eval (.tmp 13)) (a.eval (.tmp 14)) (a.eval (.tmp 15)) (a.eval (.tmp 16)) (a.eval (.tmp 17)) (a.eval (.tmp 18)) (a.eval (.tmp 19)) (a.eval (.tmp 20)) W' b h1 h2 h3 h4;rw [<- e2] at h;exact h
end Go.Proofs
end
section
/- Walks: the law's Treaty: its drawn region 14. -/
namespace Go.Proofs
open Go.RowKit
noncomputable def opsTt (k:Nat):List Oper:=((regAt k (Tryz.f11.body.getD .skip)).getD #[]).toList
def N36 (w:World) (S:Nat -> Prop):Prop:=∀ k,S k -> ∃ cs t,w.heap[k]? = some (.cells cs t) /\ t ≠ 35
theorem N36.keep {w w':World} {S:Nat -> Prop} (h:N36 w S) (hk:∀ k,S k -> w'.heap[k]? = w.heap[k]?):N36 w' S:=fun k hS=>by rw [hk k hS];exact h k hS
theorem own_n36 {W:World} {b:Nat} {e:TypeId} {sz:Nat} {v:Value} {n:Nat} {xs:List Value} (h:W.ownsRow b e sz v n xs) (he:e ≠ 35):N36 W (fun k=>v.ownBlock = some k):=fun k hk=>let ⟨cs,h1⟩:=own_block h hk;⟨cs,e,h1,he⟩
theorem N36.not {W:World} {S:Nat -> Prop} (h:N36 W S) {g:Nat} {cs:Array Value} (hb:Blk W g 35 cs):¬ S g:=fun hS=>by
 obtain ⟨cs',t,h1,h2⟩:=h g hS;have hb':W.heap[g]? = some (.cells cs 35):=hb;rw [hb'] at h1;cases h1;exact h2 rfl
theorem own_ne36 {W:World} {b:Nat} {e:TypeId} {sz:Nat} {v:Value} {n:Nat} {xs:List Value} (h:W.ownsRow b e sz v n xs) (he:e ≠ 35) {g:Nat} {cs:Array Value} (hb:Blk W g 35 cs):v.ownBlock ≠ some g:=fun e2=>(own_n36 h he).not hb e2
section
variable {α:Type} {R:World -> α -> List Value -> Prop} {e:TypeId} {sz base:Nat} {v:Value} {S:Nat -> Prop} {l:List α} {xs:List Value} {W W':World}
theorem N36.kept3 (h:N36 W S) {row:Option Nat} (hl:∀ k,S k -> k < W.heap.size) (hg:W.grownBy W' row) (hr:∀ k,row = some k -> ¬ S k):N36 W' S:=h.keep fun k hS=>hg.block k (hl k hS) (fun e=>hr k e.symm hS)
end
theorem ty89:SliceTy Tryz.prog 87 88 2 48:=.mk' (z:=.agg #[.slice none 0 0,.slice none 0 0]) Tryz.underlying87 (by kernel_rfl) rfl (by decide)
def More14 (base:Nat) (ms:List Mean) (mm:Mean) (v:Value) (w:World):Prop:=∃ S xs,OwnK MeanR 88 2 base v S (ms ++ [mm]) xs w /\ N36 w S
theorem More14.aft {base:Nat} {ms:List Mean} {mm:Mean} {v:Value} {w w':World} (h:More14 base ms mm v w) (ha:Aft w w'):More14 base ms mm v w':=let ⟨S,xs,h1,h2⟩:=h;⟨S,xs,h1.aft ha,h2.keep fun k hk=>aft_keep ha (h1.lt k hk)⟩
structure Wc14 (X W8:World) (base:Nat) (vS:Value) (S:Nat -> Prop) (ms:List Mean) (xs:List Value) (done:Nat -> Bool) (w:World):Prop where
 aft:Aft X w
 keep:W8.heap.size <= w.heap.size /\ ∀ k,k < W8.heap.size -> vS.ownBlock ≠ some k -> w.heap[k]? = W8.heap[k]?
 own:done 9 = false -> OwnK MeanR 88 2 base vS S ms xs w /\ N36 w S
theorem Wc14.go {X W8:World} {base:Nat} {vS:Value} {S:Nat -> Prop} {ms:List Mean} {xs:List Value} {done done':Nat -> Bool} {w w':World} (h:Wc14 X W8 base vS S ms xs done w) (ha:Aft w w') (hd:done' 9 = false -> done 9 = false):Wc14 X W8 base vS S ms xs done' w' :=
 ⟨h.aft.trans ha,⟨Nat.le_trans h.keep.1 ha.size,fun k hk hne=>(aft_keep ha (Nat.lt_of_lt_of_le hk h.keep.1)).trans (h.keep.2 k hk hne)⟩,fun h9=>⟨(h.own (hd h9)).1.aft ha,(h.own (hd h9)).2.keep fun k hk=>aft_keep ha ((h.own (hd h9)).1.lt k hk)⟩⟩
def Factc14 (E:Nat) (W8:World) (Ak Ae:Option Addr) (ck ce base:Nat) (vS:Value) (ms:List Mean) (mm:Mean) (_:Nat -> Bool):Nat -> Value -> World -> Prop
 | 0,v,_=>v = vS
 | 1,v,_=>v = .pointer (some ⟨E,0,none⟩)
 | 2,v,_=>v = .slice Ak mm.kinds.length ck
 | 3,v,w=>w.ownsRow W8.heap.size 3 1 v mm.kinds.length (mm.kinds.map (Value.int .i64))
 | 4,v,_=>v = .pointer (some ⟨E,1,none⟩)
 | 5,v,_=>v = .slice Ae mm.ends.length ce
 | 6,v,w=>w.ownsRow W8.heap.size 3 1 v mm.ends.length (mm.ends.map (Value.int .i64))
 | 7,v,w=>∃ v1 v2,v = .agg #[v1,v2] /\ w.ownsRow W8.heap.size 3 1 v1 mm.kinds.length (mm.kinds.map (Value.int .i64)) /\ w.ownsRow W8.heap.size 3 1 v2 mm.ends.length (mm.ends.map (Value.int .i64))
 | 8,v,w=>∃ v1 v2 b,v = .slice (some ⟨b,0,none⟩) 1 1 /\ w.ownsRow W8.heap.size 3 1 v1 mm.kinds.length (mm.kinds.map (Value.int .i64)) /\ w.ownsRow W8.heap.size 3 1 v2 mm.ends.length (mm.ends.map (Value.int .i64)) /\ Blk w b 88 #[v1,v2] /\ W8.heap.size <= b
 | 9,v,w=>More14 base ms mm v w
 | 10,v,w=>More14 base ms mm v w
 | _,_,_=>True
section
variable {E:Nat} {W8:World} {Ak Ae:Option Addr} {ck ce base:Nat} {vS:Value} {ms:List Mean} {mm:Mean} {done done':Nat -> Bool} {w w':World} {i:Nat} {v:Value}
theorem Factc14.aft (ha:Aft w w') (h:Factc14 E W8 Ak Ae ck ce base vS ms mm done i v w):Factc14 E W8 Ak Ae ck ce base vS ms mm done' i v w':=by
 unfold Factc14 at h ⊢
 split at h <;> first
  | exact h
  | exact own_aft h ha
  | exact More14.aft h ha
  | (obtain ⟨v1,v2,e,h1,h2⟩:=h;exact ⟨v1,v2,e,own_aft h1 ha,own_aft h2 ha⟩)
  | (obtain ⟨v1,v2,b,e,h1,h2,h3,h4⟩:=h;exact ⟨v1,v2,b,e,own_aft h1 ha,own_aft h2 ha,h3.aft ha,h4⟩)
theorem Factc14.low {row:Option Nat} (hg:w.grownBy w' row) (hr:∀ k,row = some k -> k < W8.heap.size) (hi:i < 9) (h:Factc14 E W8 Ak Ae ck ce base vS ms mm done i v w):Factc14 E W8 Ak Ae ck ce base vS ms mm done' i v w':=by
 unfold Factc14 at h ⊢
 split at h <;> first
  | exact h
  | omega
  | exact own_kept' h hg hr
  | (obtain ⟨v1,v2,e,h1,h2⟩:=h;exact ⟨v1,v2,e,own_kept' h1 hg hr,own_kept' h2 hg hr⟩)
  | (obtain ⟨v1,v2,b,e,h1,h2,h3,h4⟩:=h;exact ⟨v1,v2,b,e,own_kept' h1 hg hr,own_kept' h2 hg hr,h3.grown hg (fun e=>by have:=hr b e.symm;omega),h4⟩)
end
def chc14 (s:Nat):Bool:=decide (s = 8) || decide (s = 46) || decide (s = 47) || decide (s = 48) || decide (s = 49) || decide (s = 50) || decide (s = 51) || decide (s = 52) || decide (s = 53) || decide (s = 54) || decide (s = 55)
set_option maxRecDepth 100000 in
set_option maxHeartbeats 2000000 in
theorem region14_tr (X:World) (E base:Nat) (Ak Ae:Option Addr) (ck ce:Nat) (vS:Value) (S:Nat -> Prop) (ms:List Mean) (xs:List Value) (mm:Mean) (a0:Act) (Q0:Exit -> Act -> World -> Prop) (W8:World)
  (hz:a0.tmps.size = 79) (s8:a0.eval (.tmp 10) = .pointer (some ⟨E,0,none⟩)) (s6:a0.eval (.tmp 8) = vS)
  (ha:Aft X W8) (hbx:Blk W8 E 67 #[.slice Ak mm.kinds.length ck,.slice Ae mm.ends.length ce]) (hvE:vS.ownBlock ≠ some E) (hk1:Ints X Ak mm.kinds) (hk2:Ints X Ae mm.ends) (hown:OwnK MeanR 88 2 base vS S ms xs W8) (hn7:N36 W8 S) (hn:ms.length <= 100) (hXb:X.heap.size <= base) (hsz:base <= W8.heap.size)
  (hexit:∀ a W' ,a.tmps.size = 79 -> a.defers = a0.defers -> (∀ s:Nat,chc14 s = false -> a.eval (.tmp s) = a0.eval (.tmp s)) -> More14 base ms mm (a.eval (.tmp 8)) W' -> Aft X W' -> (W8.heap.size <= W'.heap.size /\ ∀ k,k < W8.heap.size -> vS.ownBlock ≠ some k -> W'.heap[k]? = W8.heap[k]?) -> Q0 .normal a W') :
  Code.wp Tryz.prog (Code.region 14 (opsTt 14).toArray true) Q0 a0 W8:=by
 have HEX:=Lib.hid hexit;clear hexit;refine wp_region_factsE (by kernel_rfl) 79 hz (by kernel_rfl) (Factc14 E W8 Ak Ae ck ce base vS ms mm) (Wc14 X W8 base vS S ms xs) ⟨ha.then_drew,⟨Nat.le_refl _,fun _ _ _=>rfl⟩,fun _=>⟨hown.aft (Aft.drew _),hn7⟩⟩ ?step ?fin
 case step =>
  intro i o ho done a w hH hd hp K hK;have hW:=hH.wd
  have hold:∀ s:Nat,chc14 s = false -> a.eval (.tmp s) = a0.eval (.tmp s):=fun s h=>hH.old s fun k ok hk hs=>by
   match k,hk with
   | 0,hk=>cases hk;cases hs;exact absurd h (by decide)
   | 1,hk=>cases hk;cases hs;exact absurd h (by decide)
   | 2,hk=>cases hk;cases hs;exact absurd h (by decide)
   | 3,hk=>cases hk;cases hs;exact absurd h (by decide)
   | 4,hk=>cases hk;cases hs;exact absurd h (by decide)
   | 5,hk=>cases hk;cases hs;exact absurd h (by decide)
   | 6,hk=>cases hk;cases hs;exact absurd h (by decide)
   | 7,hk=>cases hk;cases hs;exact absurd h (by decide)
   | 8,hk=>cases hk;cases hs;exact absurd h (by decide)
   | 9,hk=>cases hk;cases hs;exact absurd h (by decide)
   | 10,hk=>cases hk;cases hs;exact absurd h (by decide)
   | _ + 11,hk=>cases hk
  have hvS:∀ k,vS.ownBlock = some k -> base <= k /\ k < W8.heap.size:=fun k e=>hown.own.lt k e
  have hbox:Blk w E 67 #[.slice Ak mm.kinds.length ck,.slice Ae mm.ends.length ce]:=(hW.keep.2 E hbx.lt hvE).trans hbx;have hK':∀ v,i ≠ 9 -> Factc14 E W8 Ak Ae ck ce base vS ms mm (Go.upd done i) i v w -> K (a.put o.dst v) w:=fun v h9 hv=>hK v w hv ⟨hW.aft,hW.keep,fun h=>hW.own (by unfold Go.upd at h;rw [if_neg (Ne.symm h9)] at h;exact h)⟩ fun j _ _ _ _ _ hu=>Factc14.aft (Aft.refl w) hu
  match i,ho,hd,hp,hK,hK' with
  | 0,ho,hd,hp,hK,hK' =>
   cases ho
   have e7:a.eval (.tmp 8) = vS:=(hH.old 8 fun k ok hk hs=>by
    match k,hk with
    | 0,hk=>cases hk;cases hs
    | 1,hk=>cases hk;cases hs
    | 2,hk=>cases hk;cases hs
    | 3,hk=>cases hk;cases hs
    | 4,hk=>cases hk;cases hs
    | 5,hk=>cases hk;cases hs
    | 6,hk=>cases hk;cases hs
    | 7,hk=>cases hk;cases hs
    | 8,hk=>cases hk;cases hs
    | 9,hk=>cases hk;cases hs
    | 10,hk =>
     cases hdk:done 10 with
     | false=>rfl
     | true=>have:=hH.closed 10 _ hk hdk 0 (by cases hk;decide);rw [hd] at this;cases this
    | _ + 11,hk=>cases hk).trans s6
   exact op_value (by simp [go_sem,ev e7]) (hK' _ (by decide) rfl)
  | 1,ho,hd,hp,hK,hK' =>
   cases ho;have e:a.eval (.tmp 10) = .pointer (some ⟨E,0,none⟩):=(hold 10 (by decide)).trans s8;exact op_value (by simp [go_sem,ev e]) (hK' _ (by decide) rfl)
  | 2,ho,hd,hp,hK,hK' =>
   cases ho;have e:a.eval (.tmp 47) = .pointer (some ⟨E,0,none⟩):=hH.fact 1 _ 47 rfl rfl (hp 1 (by decide));have hc:w.cell? ⟨E,0,none⟩ = some (.slice Ak mm.kinds.length ck):=hbox.cell 0;exact op_value (by simp [go_sem,ev e,hc]) (hK' _ (by decide) rfl)
  | 3,ho,hd,hp,hK,hK' =>
   cases ho;have e:a.eval (.tmp 48) = .slice Ak mm.kinds.length ck:=hH.fact 2 _ 48 rfl rfl (hp 2 (by decide));refine op_call1 Tryz.func46 (by kernel_rfl) (by kernel_rfl) _ rfl e (kitClone_int Ak mm.kinds ck w (hk1.aft hW.aft)) ?_;rintro e w' ⟨v,rfl,hown,ha⟩;exact ⟨_,rfl,hK _ _ (World.ownsRow.mono hown hW.keep.1) (hW.go ha (fun h=>h)) fun j _ _ _ _ _ hu=>Factc14.aft ha hu⟩
  | 4,ho,hd,hp,hK,hK' =>
   cases ho;have e:a.eval (.tmp 10) = .pointer (some ⟨E,0,none⟩):=(hold 10 (by decide)).trans s8;exact op_value (by simp [go_sem,ev e]) (hK' _ (by decide) rfl)
  | 5,ho,hd,hp,hK,hK' =>
   cases ho;have e:a.eval (.tmp 50) = .pointer (some ⟨E,1,none⟩):=hH.fact 4 _ 50 rfl rfl (hp 4 (by decide));have hc:w.cell? ⟨E,1,none⟩ = some (.slice Ae mm.ends.length ce):=hbox.cell 1;exact op_value (by simp [go_sem,ev e,hc]) (hK' _ (by decide) rfl)
  | 6,ho,hd,hp,hK,hK' =>
   cases ho;have e:a.eval (.tmp 51) = .slice Ae mm.ends.length ce:=hH.fact 5 _ 51 rfl rfl (hp 5 (by decide));refine op_call1 Tryz.func46 (by kernel_rfl) (by kernel_rfl) _ rfl e (kitClone_int Ae mm.ends ce w (hk2.aft hW.aft)) ?_;rintro e w' ⟨v,rfl,hown,ha⟩;exact ⟨_,rfl,hK _ _ (World.ownsRow.mono hown hW.keep.1) (hW.go ha (fun h=>h)) fun j _ _ _ _ _ hu=>Factc14.aft ha hu⟩
  | 7,ho,hd,hp,hK,hK' =>
   cases ho;obtain ⟨v1,e1⟩:∃ v,a.eval (.tmp 49) = v:=⟨_,rfl⟩;obtain ⟨v2,e2⟩:∃ v,a.eval (.tmp 52) = v:=⟨_,rfl⟩;have g1:w.ownsRow W8.heap.size 3 1 v1 mm.kinds.length (mm.kinds.map (Value.int .i64)):=by rw [<- e1];exact hH.fact 3 _ 49 rfl rfl (hp 3 (by decide))
   have g2:w.ownsRow W8.heap.size 3 1 v2 mm.ends.length (mm.ends.map (Value.int .i64)):=by rw [<- e2];exact hH.fact 6 _ 52 rfl rfl (hp 6 (by decide))
   have hf:Factc14 E W8 Ak Ae ck ce base vS ms mm (Go.upd done 7) 7 (.agg #[v1,v2]) w:=⟨v1,v2,rfl,g1,g2⟩;obtain ⟨sA,sn,sc,rfl⟩:=own_slice' g1;obtain ⟨tA,tn,tc,rfl⟩:=own_slice' g2;exact op_value (by simp [go_sem,ev e1,ev e2]) (hK' _ (by decide) hf)
  | 8,ho,hd,hp,hK,hK' =>
   cases ho;obtain ⟨v1,v2,e,g1,g2⟩:∃ v1 v2,a.eval (.tmp 53) = .agg #[v1,v2] /\ w.ownsRow W8.heap.size 3 1 v1 mm.kinds.length (mm.kinds.map (Value.int .i64)) /\ w.ownsRow W8.heap.size 3 1 v2 mm.ends.length (mm.ends.map (Value.int .i64)):=hH.fact 7 _ 53 rfl rfl (hp 7 (by decide));have ha:=Aft.alloc w (.cells #[v1,v2] 88);have h1:Factc14 E W8 Ak Ae ck ce base vS ms mm (Go.upd done 8) 8 (.slice (some ⟨w.heap.size,0,none⟩) 1 1) (w.alloc (.cells #[v1,v2] 88)):=⟨v1,v2,_,rfl,own_aft g1 ha,own_aft g2 ha,Blk.new _ _ _,hW.keep.1⟩;have:=hK _ _ h1 (hW.go ha (fun h=>h)) fun j _ _ _ _ _ hu=>Factc14.aft ha hu
   obtain ⟨sA,sn,sc,rfl⟩:=own_slice' g1;obtain ⟨tA,tn,tc,rfl⟩:=own_slice' g2;unfold Oper.wp;simpa [go_sem,ev e] using this
  | 9,ho,hd,hp,hK,hK' =>
   cases ho;obtain ⟨v1,v2,b,e,g1,g2,hb,hb3⟩:∃ v1 v2 b,a.eval (.tmp 54) = .slice (some ⟨b,0,none⟩) 1 1 /\ w.ownsRow W8.heap.size 3 1 v1 mm.kinds.length (mm.kinds.map (Value.int .i64)) /\ w.ownsRow W8.heap.size 3 1 v2 mm.ends.length (mm.ends.map (Value.int .i64)) /\ Blk w b 88 #[v1,v2] /\ W8.heap.size <= b:=hH.fact 8 _ 54 rfl rfl (hp 8 (by decide));have e2:a.eval (.tmp 46) = vS:=hH.fact 0 _ 46 rfl rfl (hp 0 (by decide));obtain ⟨ho1,hn7⟩:=hW.own hd;have hx:=mean_sup g1 g2 hk1.len hk2.len
   have hone:∀ u ∈ [v1,v2],u.oneCell' = true:=fun u hu=>by
    rcases List.mem_cons.1 hu with rfl | hu
    ·exact own_cell1 g1
    ·rw [List.mem_singleton] at hu;subst hu;exact own_cell1 g2
   refine op_app ty89 _ _ rfl (Nat.le_trans hsz hW.keep.1) e2 ho1.own e hb rfl hone (by omega) (by decide) fun v' w' h1 h2 h3=>?_
   have hfar:∀ k,(v1.ownBlock = some k \/ v2.ownBlock = some k) -> W8.heap.size <= k:=fun k hk=>hk.elim (fun e=>(g1.lt k e).1) (fun e=>(g2.lt k e).1)
   have hpush:=ho1.push hx rfl (fun k hk=>⟨Nat.le_trans hsz (hfar k hk),fun e=>by have:=(hvS k e).2;have:=hfar k hk;omega⟩) h1 h2 h3
   have hn2:N36 w' (fun k=>S k \/ (v1.ownBlock = some k \/ v2.ownBlock = some k)):=fun k hk=>by
    have hlt:k < w.heap.size:=hk.elim (ho1.lt k) (fun e=>hx.1 k e);have hne:some k ≠ vS.ownBlock:=fun e=>hk.elim (fun hS=>(ho1.far k hS).2 e.symm) (fun h=>by have:=(hvS k e.symm).2;have:=hfar k h;omega)
    rw [h2.block k hlt hne];exact hk.elim (hn7 k) (fun h=>h.elim (fun e=>own_n36 g1 (by decide) k e) (fun e=>own_n36 g2 (by decide) k e))
   refine hK _ _ ⟨_,_,hpush,hn2⟩ ⟨hW.aft.grown h2 (fun k e=>by have:=(hvS k e).1;omega),⟨Nat.le_trans hW.keep.1 h2.size,fun k hk hne=>(h2.block k (Nat.lt_of_lt_of_le hk hW.keep.1) (fun e=>hne e.symm)).trans (hW.keep.2 k hk hne)⟩,fun h=>(by (have h':Go.upd done 9 9 = true:=rfl);rw [h'] at h;cases h)⟩ fun j _ _ _ _ hj hu=>?_
   have:j ≠ 9:=fun e=>by rw [e,hd] at hj;cases hj
   have:j ≠ 10:=fun e=>by
    subst e;have:=hH.closed 10 _ rfl hj 9 (by decide);rw [hd] at this;cases this
   by_cases h9:j < 9
   ·exact Factc14.low h2 (fun k e=>(hvS k e).2) h9 hu
   ·unfold Factc14 at hu ⊢;split at hu <;> first | exact hu | omega
  | 10,ho,hd,hp,hK,hK' =>
   cases ho;obtain ⟨v',e2⟩:∃ v',a.eval (.tmp 55) = v':=⟨_,rfl⟩;have h1:More14 base ms mm v' w:=by rw [<- e2];exact hH.fact 9 _ 55 rfl rfl (hp 9 (by decide))
   exact op_value (by simp [go_sem,ev e2]) (hK' _ (by decide) h1)
  | _ + 11,ho,_,_,_,_=>cases ho
 case fin =>
  intro done a w hall hH;have hdone:∀ i,i < 11 -> done i = true:=fun i hi=>hall i (by exact hi)
  have hold:∀ s:Nat,chc14 s = false -> a.eval (.tmp s) = a0.eval (.tmp s):=fun s h=>hH.old s fun k ok hk hs=>by
   match k,hk with
   | 0,hk=>cases hk;cases hs;exact absurd h (by decide)
   | 1,hk=>cases hk;cases hs;exact absurd h (by decide)
   | 2,hk=>cases hk;cases hs;exact absurd h (by decide)
   | 3,hk=>cases hk;cases hs;exact absurd h (by decide)
   | 4,hk=>cases hk;cases hs;exact absurd h (by decide)
   | 5,hk=>cases hk;cases hs;exact absurd h (by decide)
   | 6,hk=>cases hk;cases hs;exact absurd h (by decide)
   | 7,hk=>cases hk;cases hs;exact absurd h (by decide)
   | 8,hk=>cases hk;cases hs;exact absurd h (by decide)
   | 9,hk=>cases hk;cases hs;exact absurd h (by decide)
   | 10,hk=>cases hk;cases hs;exact absurd h (by decide)
   | _ + 11,hk=>cases hk
  exact HEX.out a w (hH.size.trans hz) hH.defers hold (hH.fact 10 _ 8 rfl rfl (hdone 10 (by decide))) hH.wd.aft hH.wd.keep
set_option maxRecDepth 100000 in
set_option maxHeartbeats 2000000 in
theorem region14_trlit (X:World) (E base:Nat) (Ak Ae:Option Addr) (ck ce:Nat) (vS:Value) (S:Nat -> Prop) (ms:List Mean) (xs:List Value) (mm:Mean) (W8:World) (ha:Aft X W8) (hbx:Blk W8 E 67 #[.slice Ak mm.kinds.length ck,.slice Ae mm.ends.length ce]) (hvE:vS.ownBlock ≠ some E) (hk1:Ints X Ak mm.kinds) (hk2:Ints X Ae mm.ends) (hown:OwnK MeanR 88 2 base vS S ms xs W8) (hn7:N36 W8 S) (hn:ms.length <= 100) (hXb:X.heap.size <= base) (hsz:base <= W8.heap.size)
  (q0 q1 q2 q3 q4 q5 q6 q7 q9 q11 q12 q13 q14 q15 q16 q17 q18 q19 q20 q21 q22 q23 q24 q25 q26 q27 q28 q29 q30 q31 q32 q33 q34 q35 q36 q37 q38 q39 q40 q41 q42 q43 q44 q45 q46 q47 q48 q49 q50 q51 q52 q53 q54 q55 q56 q57 q58 q59 q60 q61 q62 q63 q64 q65 q66 q67 q68 q69 q70 q71 q72 q73 q74 q75 q76 q77 q78:Value) (Q0:Exit -> Act -> World -> Prop)
  (hexit:∀ (u8 u46 u47 u48 u49 u50 u51 u52 u53 u54 u55:Value) W' ,More14 base ms mm (u8) W' -> Aft X W' -> (W8.heap.size <= W'.heap.size /\ ∀ k,k < W8.heap.size -> vS.ownBlock ≠ some k -> W'.heap[k]? = W8.heap[k]?) -> Q0 .normal ⟨(List.toArray (q0 :: q1 :: q2 :: q3 :: q4 :: q5 :: q6 :: q7 :: u8 :: q9 :: .pointer (some ⟨E,0,none⟩) :: q11 :: q12 :: q13 :: q14 :: q15 :: q16 :: q17 :: q18 :: q19 :: q20 :: q21 :: q22 :: q23 :: q24 :: q25 :: q26 :: q27 :: q28 :: q29 :: q30 :: q31 :: q32 :: q33 :: q34 :: q35 :: q36 :: q37 :: q38 :: q39 :: q40 :: q41 :: q42 :: q43 :: q44 :: q45 :: u46 :: u47 :: u48 :: u49 :: u50 :: u51 :: u52 :: u53 :: u54 :: u55 :: q56 :: q57 :: q58 :: q59 :: q60 :: q61 :: q62 :: q63 :: q64 :: q65 :: q66 :: q67 :: q68 :: q69 :: q70 :: q71 :: q72 :: q73 :: q74 :: q75 :: q76 :: q77 :: q78 :: [])),[]⟩ W') :
  Code.wp Tryz.prog (Code.region 14 (opsTt 14).toArray true) Q0 ⟨(List.toArray (q0 :: q1 :: q2 :: q3 :: q4 :: q5 :: q6 :: q7 :: vS :: q9 :: .pointer (some ⟨E,0,none⟩) :: q11 :: q12 :: q13 :: q14 :: q15 :: q16 :: q17 :: q18 :: q19 :: q20 :: q21 :: q22 :: q23 :: q24 :: q25 :: q26 :: q27 :: q28 :: q29 :: q30 :: q31 :: q32 :: q33 :: q34 :: q35 :: q36 :: q37 :: q38 :: q39 :: q40 :: q41 :: q42 :: q43 :: q44 :: q45 :: q46 :: q47 :: q48 :: q49 :: q50 :: q51 :: q52 :: q53 :: q54 :: q55 :: q56 :: q57 :: q58 :: q59 :: q60 :: q61 :: q62 :: q63 :: q64 :: q65 :: q66 :: q67 :: q68 :: q69 :: q70 :: q71 :: q72 :: q73 :: q74 :: q75 :: q76 :: q77 :: q78 :: [])),[]⟩ W8:=by
 refine region14_tr X E base Ak Ae ck ce vS S ms xs mm _ Q0 W8 rfl rfl rfl ha hbx hvE hk1 hk2 hown hn7 hn hXb hsz ?_;intro a W'  hz hd hs h1 h2 h3;have e:=frame_act 79 a _ hz hd chc14 (fun s hp=>hs s hp);have e2:a = ⟨(List.toArray (q0 :: q1 :: q2 :: q3 :: q4 :: q5 :: q6 :: q7 :: a.eval (.tmp 8) :: q9 :: .pointer (some ⟨E,0,none⟩) :: q11 :: q12 :: q13 :: q14 :: q15 :: q16 :: q17 :: q18 :: q19 :: q20 :: q21 :: q22 :: q23 :: q24 :: q25 :: q26 :: q27 :: q28 :: q29 :: q30 :: q31 :: q32 :: q33 :: q34 :: q35 :: q36 :: q37 :: q38 :: q39 :: q40 :: q41 :: q42 :: q43 :: q44 :: q45 :: a.eval (.tmp 46) :: a.eval (.tmp 47) :: a.eval (.tmp 48) :: a.eval (.tmp 49) :: a.eval (.tmp 50) :: a.eval (.tmp 51) :: a.eval (.tmp 52) :: a.eval (.tmp 53) :: a.eval (.tmp 54) :: a.eval (.tmp 55) :: q56 :: q57 :: q58 :: q59 :: q60 :: q61 :: q62 :: q63 :: q64 :: q65 :: q66 :: q67 :: q68 :: q69 :: q70 :: q71 :: q72 :: q73 :: q74 :: q75 :: q76 :: q77 :: q78 :: [])),[]⟩:=e;have h:=hexit (a.eval (.tmp 8)) (a.eval (.tmp 46)) (a.eval (.tmp 47)) (a.eval (.tmp 48)) (a.eval (.tmp 49)) (a.eval (.tmp 50)) (a.eval (.tmp 51)) (a.eval (.tmp 52)) (a.eval (.tmp 53)) (a.eval (.tmp 54)) (a.eval (.tmp 55)) W'  h1 h2 h3;rw [<- e2] at h;exact h
end Go.Proofs
end
