/- Own texts, merged: Sb Own2 Own3 Wd PBf PFw PSc PJt PPs PBk. -/
import Derived.Test.YthegmhnaiabcpaaGreatF03
import Derived.Maps.AppendAt
import Derived.Deep.Onto
set_option linter.unusedSimpArgs false
set_option linter.unusedVariables false
set_option linter.unnecessarySimpa false
section
/- Walks: opened. -/
namespace Go.Proofs
open Go.RowKit
attribute [local go_sem] Oper.semAt_some
def zAp:Nat -> Int:=fun _=>0
def zBy:Nat -> Nat × Bool:=fun _=>(0,false)
set_option maxRecDepth 100000 in
theorem build124 (n:Int) (sl:Value) (w:World):(Instr.build 116 #[(0,.agg #[.int .i64 n,sl])]).run Tryz.prog w = .ok (.agg (workC n sl zAp zBy)) w:=by kernel_rfl
attribute [local go_sem ↓] build124
structure WorkAt (w0 w:World) (d:Nat) (S:SetL) (A:Option Addr) (c:Nat) (ap:Nat -> Int) (bf:Nat -> Nat × Bool):Prop where
 blk:Blk w d 116 (workC S.n (.slice A S.J.length c) ap bf)
 rep:Quads w0 A S.J
 base:w0.heap.size <= d
 aft:Aft w0 w
section
variable {w0 w w':World} {d:Nat} {S:SetL} {A:Option Addr} {c:Nat} {ap:Nat -> Int} {bf:Nat -> Nat × Bool}
theorem WorkAt.lt (h:WorkAt w0 w d S A c ap bf):d < w.heap.size:=h.blk.lt
theorem WorkAt.later (h:WorkAt w0 w d S A c ap bf) (ha:Aft w w'):WorkAt w0 w' d S A c ap bf:=⟨h.blk.aft ha,h.rep,h.base,h.aft.trans ha⟩
theorem WorkAt.grown (h:WorkAt w0 w d S A c ap bf) {row:Option Nat} (hg:w.grownBy w' row) (h1:some d ≠ row) (h2:∀ k,row = some k -> w0.heap.size <= k):WorkAt w0 w' d S A c ap bf:=⟨h.blk.grown hg h1,h.rep,h.base,h.aft.grown hg h2⟩
theorem WorkAt.js (h:WorkAt w0 w d S A c ap bf):Quads w A S.J:=h.rep.aft h.aft
theorem WorkAt.k0 (h:WorkAt w0 w d S A c ap bf):w.cell? ⟨d,0,none⟩ = some (.int .i64 S.n):=(h.blk.cell 0).trans (workC_0 _ _ _ _)
theorem WorkAt.k1 (h:WorkAt w0 w d S A c ap bf):w.cell? ⟨d,1,none⟩ = some (.slice A S.J.length c):=(h.blk.cell 1).trans (workC_1 _ _ _ _)
theorem WorkAt.kap (h:WorkAt w0 w d S A c ap bf) {i:Nat} (hi:i < 144):w.cell? ⟨d,2 + i,none⟩ = some (.int .i64 (ap i)):=(h.blk.cell _).trans (workC_ap _ _ _ _ hi)
theorem WorkAt.kby (h:WorkAt w0 w d S A c ap bf) {i:Nat} (hi:i < 144):w.cell? ⟨d,146 + 2 * i,none⟩ = some (.int .i64 ((bf i).1:Nat)) /\ w.cell? ⟨d,146 + 2 * i + 1,none⟩ = some (.bool (bf i).2) :=
 ⟨(h.blk.cell _).trans (workC_leg _ _ _ _ hi).1,(h.blk.cell _).trans (workC_leg _ _ _ _ hi).2⟩
theorem WorkAt.fz (h:WorkAt w0 w d S A c ap bf) (i:Nat):w.frozen? ⟨d,i,none⟩ = false:=h.blk.frozen i
theorem WorkAt.setAp (h:WorkAt w0 w d S A c ap bf) {i:Nat} (hi:i < 144) (x:Int):WorkAt w0 (w.setCell ⟨d,2 + i,none⟩ (.int .i64 x)) d S A c (updF ap i x) bf :=
 ⟨by have:=h.blk.store (2 + i) (.int .i64 x);rwa [workC_setAp _ _ _ _ hi] at this,h.rep,h.base,h.aft.then_setCell h.base _⟩
theorem WorkAt.setBy (h:WorkAt w0 w d S A c ap bf) {i:Nat} (hi:i < 144) (g:Nat × Bool):WorkAt w0 ((w.setCell ⟨d,146 + 2 * i,none⟩ (.int .i64 (g.1:Nat))).setCell ⟨d,146 + 2 * i + 1,none⟩ (.bool g.2)) d S A c ap (updF bf i g) :=
 ⟨by have:=(h.blk.store (146 + 2 * i) (.int .i64 (g.1:Nat))).store (146 + 2 * i + 1) (.bool g.2);rwa [workC_setBy _ _ _ _ hi] at this,h.rep,h.base,(h.aft.then_setCell h.base _).then_setCell h.base _⟩
end
def OpenedR (S:SetL) (A:Option Addr) (c:Nat) (w:World) (e:Ending) (w':World):Prop:=∃ d,e = .returned (.tuple #[.pointer (some ⟨d,0,none⟩),.int .i64 0]) /\ WorkAt w w' d S A c zAp zBy
theorem opened_bad (S:SetL) (A:Option Addr) (c:Nat) (w:World) (hA:Quads w A S.J) (he:setE S ≠ 0) :
  Calls Tryz.prog 32 #[.agg #[.int .i64 S.n,.slice A S.J.length c]] w fun e w'=>e = .returned (.tuple #[.pointer none,.int .i64 (setE S)]) /\ Aft w w':=by
 have h0:Aft w (w.alloc (.cells #[.int .i64 S.n,.slice A S.J.length c] 24)):=Aft.alloc _ _;have H1:=Lib.hid (check_any S A c (w.alloc (.cells #[.int .i64 S.n,.slice A S.J.length c] 24)) (hA.aft h0));have H0:=Lib.hid h0;have t1:(setE S != 0) = true:=by simpa using he
 clear hA h0 he;generalize setE S = E at *;go_enter Tryz.func32,Tryz.ntmps32;go_wp2_with (go_at_call 24;refine H1.out.mono ?_;rintro e w' ⟨rfl,u,rfl⟩)
 go_ret2;exact ⟨rfl,H0.out.then_lat _⟩
set_option maxRecDepth 100000 in
set_option maxHeartbeats 2000000 in
theorem opened_good (S:SetL) (A:Option Addr) (c:Nat) (w:World) (hA:Quads w A S.J) (he:setE S = 0) :
  Calls Tryz.prog 32 #[.agg #[.int .i64 S.n,.slice A S.J.length c]] w (OpenedR S A c w):=by
 have h0:Aft w (w.alloc (.cells #[.int .i64 S.n,.slice A S.J.length c] 24)):=Aft.alloc _ _;have H1:=Lib.hid (check_any S A c (w.alloc (.cells #[.int .i64 S.n,.slice A S.J.length c] 24)) (hA.aft h0));have H0:=Lib.hid h0;have HA:=Lib.hid hA;rw [he] at H1;clear hA h0 he;go_enter Tryz.func32,Tryz.ntmps32;go_wp2_with (go_at_call 24;refine H1.out.mono ?_;rintro e w' ⟨rfl,u,rfl⟩)
 go_ret2;have h1:=H0.out.then_lat u;exact ⟨_,rfl,Blk.new _ _ _,HA.out,h1.size,h1.then_alloc _⟩
end Go.Proofs
end
section
/- Words for memory: a slice of slices of the call's own. -/
namespace Go.Proofs
open Go.RowKit
theorem ty41:SliceTy Tryz.prog 69 58 1 24:=.mk' (z:=.slice none 0 0) Tryz.underlying69 (by kernel_rfl) rfl (by decide)
structure OwnLs (W:World) (base:Nat) (v:Value) (vs:List Value) (ls:List (List Int)):Prop where
 own:W.ownsRow base 58 1 v ls.length vs
 rows:∀ i,(h:i < ls.length) -> (h':i < vs.length) -> W.ownsRow base 3 1 vs[i] ls[i].length (ls[i].map (Value.int .i64))
 apart:∀ i,(h:i < vs.length) -> ∀ g,vs[i].ownBlock = some g -> v.ownBlock ≠ some g /\ ∀ j,(h':j < vs.length) -> j ≠ i -> vs[j].ownBlock ≠ some g
def OwnLists (W:World) (base:Nat) (v:Value) (ls:List (List Int)):Prop:=∃ vs,OwnLs W base v vs ls
section
variable {W W':World} {base:Nat} {v:Value} {vs:List Value} {ls:List (List Int)}
theorem OwnLs.len (h:OwnLs W base v vs ls):vs.length = ls.length:=by simpa using h.own.1
theorem OwnLs.nil:OwnLs W base (.slice none 0 0) [] []:=⟨World.ownsRow_nil _ _ 58 1,fun i h=>by simp at h,fun i h=>by simp at h⟩
theorem OwnLs.aft (h:OwnLs W base v vs ls) (ha:Aft W W'):OwnLs W' base v vs ls :=
 ⟨own_aft h.own ha,fun i hi hi'=>own_aft (h.rows i hi hi') ha,h.apart⟩
theorem OwnLists.aft (h:OwnLists W base v ls) (ha:Aft W W'):OwnLists W' base v ls:=let ⟨vs,h⟩:=h;⟨vs,h.aft ha⟩
theorem OwnLs.push (h:OwnLs W base v vs ls) {W2 W3:World} (ha:Aft W W2) {r v':Value} {l:List Int} (hr:W2.ownsRow W.heap.size 3 1 r l.length (l.map (Value.int .i64))) (hbase:base <= W.heap.size)
  (hown:W3.ownsRow base 58 1 v' (ls.length + 1) (vs ++ [r])) (hg:W2.grownBy W3 v.ownBlock) (hat:v'.ownBlock = v.ownBlock \/ v'.ownBlock = some W2.heap.size):OwnLs W3 base v' (vs ++ [r]) (ls ++ [l]):=by
 have hlen:=h.len;have old:∀ i,(hi:i < vs.length) -> ∀ g,vs[i].ownBlock = some g -> g < W.heap.size:=fun i hi g hg=>((h.rows i (by omega) hi).lt g hg).2
 have vold:∀ g,v.ownBlock = some g -> g < W.heap.size:=fun g hg=>(h.own.lt g hg).2
 have rnew:∀ g,r.ownBlock = some g -> W.heap.size <= g /\ g < W2.heap.size:=fun g hg=>hr.lt g hg
 have hs:=ha.size;refine ⟨by simpa using hown,fun i hi hi'=>?_,fun i hi g hgi=>?_⟩
 ·by_cases e:i < vs.length
  ·rw [List.getElem_append_left e];have e':i < ls.length:=by omega
   simp only [List.getElem_append_left e'];refine (own_aft (h.rows i e' e) ha).kept hg ?_
   cases hb:vs[i].ownBlock with
   | none=>left;rfl
   | some g=>right;intro e2;exact (h.apart i e g hb).1 e2.symm
  ·have e2:i = vs.length:=by simp at hi';omega
   subst e2;have e3:vs.length = ls.length:=hlen;rw [List.getElem_append_right (Nat.le_refl _)];simp only [Nat.sub_self,List.getElem_cons_zero];have:(ls ++ [l])[vs.length]'hi = l:=by simp [e3]
   rw [this];refine World.ownsRow.mono (hr.kept hg ?_) hbase
   cases hb:r.ownBlock with
   | none=>left;rfl
   | some g=>right;intro e2;have:=vold g e2.symm;have:=(rnew g hb).1;omega
 ·by_cases e:i < vs.length
  ·rw [List.getElem_append_left e] at hgi;have hlt:=old i e g hgi;refine ⟨fun e2=>?_,fun j hj hne=>?_⟩
   ·rcases hat with h1 | h1
    ·rw [h1] at e2;exact (h.apart i e g hgi).1 e2
    ·rw [h1] at e2;cases e2;omega
   ·by_cases ej:j < vs.length
    ·rw [List.getElem_append_left ej];exact (h.apart i e g hgi).2 j ej hne
    ·have e2:j = vs.length:=by simp at hj;omega
     subst e2;rw [List.getElem_append_right (Nat.le_refl _)];simp only [Nat.sub_self,List.getElem_cons_zero];intro e2;have:=(rnew g e2).1;omega
  ·have e2:i = vs.length:=by simp at hi;omega
   subst e2;rw [List.getElem_append_right (Nat.le_refl _)] at hgi;simp only [Nat.sub_self,List.getElem_cons_zero] at hgi;have:=rnew g hgi;refine ⟨fun e2=>?_,fun j hj hne=>?_⟩
   ·rcases hat with h1 | h1
    ·rw [h1] at e2;have:=vold g e2;omega
    ·rw [h1] at e2;cases e2;omega
   ·have ej:j < vs.length:=by simp at hj;omega
    rw [List.getElem_append_left ej];intro e2;have:=old j ej g e2;omega
end
theorem wpList_app_list {w:World} {ops:Array Oper} {rest:List Oper} {o:Oper} {a:Act} {Q:Exit -> Act -> World -> Prop}
  (hgd:o.guard = none) (s x:Operand) (ho:o.op = .call { callee:=.builtin .append,args:=#[s,x],argTypes:=#[69,69] })
  {base:Nat} {v:Value} {vs:List Value} {ls:List (List Int)} {W:World} (h:OwnLs W base v vs ls) (hbase:base <= W.heap.size) (hs:a.eval s = v)
  {r:Value} {l:List Int} {c:Nat} {b:Nat} (hx:a.eval x = .slice (some ⟨b,0,none⟩) 1 c) (hb:w.cell? ⟨b,0,none⟩ = some r) (h1:r.oneCell' = true)
  (ha:Aft W w) (hr:w.ownsRow W.heap.size 3 1 r l.length (l.map (Value.int .i64))) (hl:ls.length <= 1000000)
  (hn:∀ v' vs' w',OwnLs w' base v' vs' (ls ++ [l]) -> w.grownBy w' v.ownBlock -> wpList Tryz.prog ops Q rest (a.put o.dst v') w'):wpList Tryz.prog ops Q (o :: rest) a w:=by
 obtain ⟨ht,⟨i,z,hi,hz,hsize,hby,hzs⟩,hsz⟩:=ty41;refine wpList_append_own_at (w:=w) hgd s x 69 ho base 58 i z 1 24 ht hi hz hsize hby hzs hsz v ls.length vs hs (own_aft h.own ha) ⟨b,0,none⟩ 1 c [r] hx rfl (fun j u hj=>?_) (fun u hu=>by rw [List.mem_singleton] at hu;subst hu;exact h1)
  (by unfold maxLen;omega) (by omega) (Nat.le_trans hbase ha.size) fun v' w' h2 h3 _ h5=>hn v' _ w' (h.push ha hr hbase h2 h3 h5) h3
 match j,hj with
 | 0,hj=>simp at hj;subst hj;rw [Addr.add_lit];simpa using hb
end Go.Proofs
end
section
/- Words for memory: append of one number to a list of the call's own. -/
namespace Go.Proofs
open Go.RowKit
theorem cell_new1 (w:World) (v:Value) (t:TypeId):(w.alloc (.cells #[v] t)).cell? ⟨w.heap.size,0,none⟩ = some v:=by simp
theorem wpList_push {w:World} {ops:Array Oper} {rest:List Oper} {o:Oper} {a:Act} {Q:Exit -> Act -> World -> Prop}
  (hgd:o.guard = none) (s x:Operand) (ho:o.op = .call { callee:=.builtin .append,args:=#[s,x],argTypes:=#[58,58] })
  {base:Nat} {v:Value} {l:List Int} (hown:w.ownsRow base 3 1 v l.length (l.map (Value.int .i64))) (hbase:base <= w.heap.size) (hs:a.eval s = v)
  {y:Int} {c:Nat} {b:Nat} (hx:a.eval x = .slice (some ⟨b,0,none⟩) 1 c) (hb:w.cell? ⟨b,0,none⟩ = some (.int .i64 y)) (hl:l.length <= 1000000)
  (hn:∀ v' w',w'.ownsRow base 3 1 v' (l ++ [y]).length ((l ++ [y]).map (Value.int .i64)) -> w.grownBy w' v.ownBlock -> wpList Tryz.prog ops Q rest (a.put o.dst v') w'):wpList Tryz.prog ops Q (o :: rest) a w:=by
 refine wpList_app_at ty24 hgd s x ho hbase hs hown hx (news:=[.int .i64 y]) rfl (by intro h;cases h) (fun ad e j u h=>?_) (one_int y) (by omega) (by decide) fun v' w' h1 h2=>hn v' w' (by simpa using h1) h2
 cases e
 match j,h with
 | 0,h=>simp at h;subst h;rw [Addr.add_lit];simpa using hb
end Go.Proofs
end
section
/- Words: what stands below a block,what is pushed to a list of records. -/
namespace Go.Proofs
open Go.RowKit
theorem cellA {W W':World} {g i:Nat} {v:Value} (h:W.cell? ⟨g,i,none⟩ = some v) (hg:g < W.heap.size) (ha:Aft W W'):W'.cell? ⟨g,i,none⟩ = some v :=
 (World.cell?_of_block (a:=⟨g,i,none⟩) (ha.below.block g hg)).trans h
theorem evne {a:Act} {dst:Option Tmp} {v:Value} {s:Nat} (h:dst ≠ some s):(a.put dst v).eval (.tmp s) = a.eval (.tmp s) :=
 Act.eval_put fun d hd e=>by cases e;exact h hd
theorem upd_ne' {done:Nat -> Bool} {i j:Nat} (h:j ≠ i):Go.upd done i j = done j:=by simp [Go.upd,h]
theorem upd_same' {done:Nat -> Bool} {i:Nat}:Go.upd done i i = true:=by simp [Go.upd]
structure Sm (b:Nat) (w W:World):Prop where
 size:w.heap.size <= W.heap.size
 same:∀ k,b <= k -> k < w.heap.size -> W.heap[k]? = w.heap[k]?
theorem Sm.of_grown {b:Nat} {w w':World} {row:Option Nat} (h:w.grownBy w' row) (hr:∀ k,row = some k -> k < b \/ w.heap.size <= k):Sm b w w' :=
 ⟨h.size,fun k h1 h2=>h.block k h2 (fun e=>by have:=hr k e.symm;omega)⟩
theorem Sm.of_aft {b:Nat} {w w':World} (h:Aft w w'):Sm b w w':=⟨h.size,fun k _ h2=>h.below.block k h2⟩
theorem own_sm {b base:Nat} {w W:World} {t:TypeId} {size:Nat} {v:Value} {n:Nat} {xs:List Value} (h:w.ownsRow base t size v n xs) (hs:Sm b w W) (hb:b <= base):W.ownsRow base t size v n xs:=by
 refine ⟨h.1,?_⟩;rcases h.2 with h2 | ⟨g,cap,cur,h1,hg,h3,h4⟩
 ·exact .inl h2
 ·exact .inr ⟨g,cap,cur,h1,hg,(hs.same g (Nat.le_trans hb hg) (Array.getElem?_eq_some_iff.1 h3).1).trans h3,h4⟩
theorem own_block {w:World} {base:Nat} {t:TypeId} {size:Nat} {v:Value} {n:Nat} {xs:List Value} (h:w.ownsRow base t size v n xs) {g:Nat} (hg:v.ownBlock = some g):∃ cs,w.heap[g]? = some (.cells cs t (0,0)):=by
 rcases h.2 with ⟨rfl,_⟩ | ⟨g',cap,cur,rfl,_,hh,_⟩
 ·cases hg
 ·cases hg;exact ⟨cur,hh⟩
theorem own_other {w w':World} {base:Nat} {t t':TypeId} {size:Nat} {v:Value} {n:Nat} {xs:List Value} {g:Nat} {cs:Array Value} {fz:Nat × Nat} (h:w.ownsRow base t size v n xs) (hg:w.grownBy w' (some g)) (hb:w.heap[g]? = some (.cells cs t' fz)) (hne:t ≠ t'):w'.ownsRow base t size v n xs :=
 h.kept hg (by
  cases e:v.ownBlock with
  | none=>exact .inl rfl
  | some k =>
   refine .inr fun e2=>?_
   obtain ⟨cs',hc⟩:=own_block h e;cases e2;rw [hb] at hc;cases hc;exact hne rfl)
theorem wpList_pushF {α:Type} {enc:α -> List Value} {t e:TypeId} {sz bytes:Nat} (hT:SliceTy Tryz.prog t e sz bytes) {w:World} {ops:Array Oper} {rest:List Oper} {o:Oper} {a:Act} {Q:Exit -> Act -> World -> Prop}
  (hgd:o.guard = none) (s x:Operand) (ho:o.op = .call { callee:=.builtin .append,args:=#[s,x],argTypes:=#[t,t] })
  {base:Nat} {v:Value} {l:List α} (hown:w.ownsRow base e sz v l.length (l.flatMap enc)) (hbase:base <= w.heap.size) (hs:a.eval s = v)
  (y:α) {c:Nat} {b:Nat} (hx:a.eval x = .slice (some ⟨b,0,none⟩) 1 c) (hy:(enc y).length = sz) (hb:∀ j u,(enc y)[j]? = some u -> w.cell? ⟨b,j,none⟩ = some u) (h1:∀ u ∈ enc y,u.oneCell' = true) (hl:(l.length + 1) * bytes <= 140737488355328) (hpos:0 < bytes)
  (hn:∀ v' w',w'.ownsRow base e sz v' (l ++ [y]).length ((l ++ [y]).flatMap enc) -> w.grownBy w' v.ownBlock -> wpList Tryz.prog ops Q rest (a.put o.dst v') w'):wpList Tryz.prog ops Q (o :: rest) a w:=by
 refine wpList_app_at hT hgd s x ho hbase hs hown hx (news:=enc y) (by rw [hy];simp) (by intro h;cases h) (fun ad e j u h=>?_) h1 hl hpos fun v' w' h1 h2=>hn v' w' (by simpa [List.flatMap_append] using h1) h2
 cases e;rw [Addr.add_lit];simpa using hb j u h
theorem ty103:SliceTy Tryz.prog 25 34 2 16:=.mk' (z:=.agg #[.int .i64 0,.bool false]) Tryz.underlying25 (by kernel_rfl) rfl (by decide)
theorem ty49:SliceTy Tryz.prog 68 67 2 16:=.mk' (z:=.agg #[.int .i64 0,.int .i64 0]) Tryz.underlying68 (by kernel_rfl) rfl (by decide)
theorem ty23:SliceTy Tryz.prog 22 72 4 32:=.mk' (z:=.agg #[.int .i64 0,.int .i64 0,.int .i64 0,.int .i64 0]) Tryz.underlying22 (by kernel_rfl) rfl (by decide)
theorem ty26:SliceTy Tryz.prog 60 74 4 32:=.mk' (z:=.agg #[.int .i64 0,.int .i64 0,.int .i64 0,.int .i64 0]) Tryz.underlying60 (by kernel_rfl) rfl (by decide)
end Go.Proofs
end
section
/- Plain: ways that are shortened leg by leg from one sheet on,and the legs by which they came: a round among those legs is below nothing;passes over all sheets;where n passes still shorten,there is a round. -/
namespace Sheet
structure Row (E:List Edge) (a:Nat) (d:Nat -> Option Int) (via:Nat -> Option (Nat × Int)):Prop where
 start:via a = none -> d a = some 0
 neg:∀ b w,via a = some (b,w) -> ∃ x,d a = some x /\ x < 0
 own:∀ c,via c = none -> c ≠ a -> d c = none
 leg:∀ c b w,via c = some (b,w) -> (b,c,w) ∈ E
 walk:∀ c x,d c = some x -> ∃ k,Wk E a c k x
 above:∀ c b w,via c = some (b,w) -> ∃ x y,d c = some x /\ d b = some y /\ y + w <= x
 below:∀ (m:Nat) (f:Nat -> Nat) (g:Nat -> Int),0 < m -> f m = f 0 -> (∀ i,i < m -> via (f i) = some (f (i + 1),g i)) -> ∃ t,t < 0 /\ Wk E (f 0) (f 0) m t /\ t = (List.range m).foldl (fun t i=>t + g i) 0
def sumG (g:Nat -> Int):Nat -> Int
 | 0=>0
 | m + 1=>sumG g m + g m
theorem sumG_eq (g:Nat -> Int) (m:Nat):(List.range m).foldl (fun t i=>t + g i) 0 = sumG g m:=by
 induction m with
 | zero=>rfl
 | succ m ih=>rw [List.range_succ,List.foldl_append,ih];rfl
theorem sumG_le {g D:Nat -> Int}:∀ {m:Nat},(∀ i,i < m -> g i <= D i - D (i + 1)) -> sumG g m <= D 0 - D m
 | 0,_=>by simp [sumG]
 | m + 1,h=>by
  have h1:=sumG_le (m:=m) fun i hi=>h i (by omega)
  have h2:=h m (by omega);show sumG g m + g m <= _;omega
theorem sumG_lt {g D:Nat -> Int}:∀ {m:Nat},(∀ i,i < m -> g i <= D i - D (i + 1)) -> (∃ i,i < m /\ g i < D i - D (i + 1)) -> sumG g m < D 0 - D m
 | 0,_,⟨i,hi,_⟩=>absurd hi (Nat.not_lt_zero _)
 | m + 1,h,⟨i,hi,hlt⟩=>by
  have h2:=h m (by omega);show sumG g m + g m < _;by_cases e:i = m
  ·subst e;have h1:=sumG_le (m:=i) fun j hj=>h j (by omega)
   omega
  ·have h1:=sumG_lt (m:=m) (fun j hj=>h j (by omega)) ⟨i,by omega,hlt⟩;omega
theorem chain_walk {E:List Edge} {via:Nat -> Option (Nat × Int)} (hl:∀ c b w,via c = some (b,w) -> (b,c,w) ∈ E) {f:Nat -> Nat} {g:Nat -> Int}:∀ {m:Nat},(∀ i,i < m -> via (f i) = some (f (i + 1),g i)) -> Wk E (f m) (f 0) m (sumG g m)
 | 0,_=>Wk.nil _
 | m + 1,h=>by
  have h1:=chain_walk hl (m:=m) fun i hi=>h i (by omega)
  have h2:=Wk.one (hl _ _ _ (h m (by omega)));exact (h2.append h1).of_eq (by omega) (by show g m + sumG g m = sumG g m + g m;omega)
def upd {α:Type} (f:Nat -> α) (c:Nat) (x:α):Nat -> α:=fun i=>if i = c then x else f i
theorem row_start (E:List Edge) (a:Nat):Row E a (fun c=>if c = a then some 0 else none) (fun _=>none):=by
 refine ⟨fun _=>by simp,(fun b w h=>by cases h),fun c _ hc=>by simp [hc],(fun c b w h=>by cases h),fun c x h=>?_,(fun c b w h=>by cases h),fun m f g hm _ h=>?_⟩
 ·by_cases e:c = a
  ·subst e;simp at h;subst h;exact ⟨0,.nil c⟩
  ·simp [e] at h
 ·have:=h 0 hm;cases this
theorem Row.shorten {E:List Edge} {a:Nat} {d:Nat -> Option Int} {via:Nat -> Option (Nat × Int)} (h:Row E a d via) {b c:Nat} {w y:Int} (he:(b,c,w) ∈ E) (hb:d b = some y) (hbc:b ≠ c) (hlt:∀ x,d c = some x -> y + w < x) :
  Row E a (upd d c (some (y + w))) (upd via c (some (b,w))):=by
 have hleg:∀ c' b' w',upd via c (some (b,w)) c' = some (b',w') -> (b',c',w') ∈ E:=fun c' b' w' hv=>by
  unfold upd at hv;split at hv
  ·rename_i e;subst e;cases hv;exact he
  ·exact h.leg _ _ _ hv
 refine ⟨fun hv=>?_,fun b' w' hv=>?_,fun c' hv hc=>?_,hleg,fun c' x hx=>?_,fun c' b' w' hv=>?_,fun m f g hm hf hv=>?_⟩
 ·unfold upd at hv ⊢;split at hv
  ·cases hv
  ·rename_i e;rw [if_neg e];exact h.start hv
 ·by_cases e:a = c
  ·subst e
   cases hva:via a with
   | none =>
    have:=hlt 0 (h.start hva);exact ⟨y + w,by simp [upd],this⟩
   | some p =>
    obtain ⟨x,h1,h2⟩:=h.neg p.1 p.2 hva;have:=hlt x h1;exact ⟨y + w,by simp [upd],by omega⟩
  ·have hv':via a = some (b',w'):=by unfold upd at hv;rwa [if_neg e] at hv
   obtain ⟨x,h1,h2⟩:=h.neg b' w' hv';exact ⟨x,by unfold upd;rw [if_neg e];exact h1,h2⟩
 ·unfold upd at hv ⊢;split at hv
  ·cases hv
  ·rename_i e;rw [if_neg e];exact h.own _ hv hc
 ·unfold upd at hx;split at hx
  ·rename_i e;subst e;cases hx
   obtain ⟨k,hk⟩:=h.walk _ _ hb;exact ⟨k + 1,hk.snoc he⟩
  ·exact h.walk _ _ hx
 ·unfold upd at hv;split at hv
  ·rename_i e;subst e;cases hv
   exact ⟨y + w,y,by simp [upd],by simp [upd,hbc,hb],Int.le_refl _⟩
  ·rename_i e
   obtain ⟨x,z,h1,h2,h3⟩:=h.above _ _ _ hv;by_cases e2:b' = c
   ·subst e2;have:=hlt z h2;exact ⟨x,y + w,by simp [upd,e,h1],by simp [upd],by omega⟩
   ·exact ⟨x,z,by simp [upd,e,h1],by simp [upd,e2,h2],h3⟩
 ·have hw:=chain_walk hleg hv;rw [hf] at hw;refine ⟨_,?_,hw,(sumG_eq g m).symm⟩;by_cases hc:∃ i,i < m /\ f i = c
  ·obtain ⟨i0,hi0,ei0⟩:=hc
   have hold:∀ i,i < m -> f i ≠ c -> via (f i) = some (f (i + 1),g i):=fun i hi hne=>by
    have:=hv i hi;unfold upd at this
    rwa [if_neg hne] at this
   have hnew:∀ i,i < m -> f i = c -> f (i + 1) = b /\ g i = w:=fun i hi e=>by
    have:=hv i hi;unfold upd at this;rw [if_pos e] at this;cases this;exact ⟨rfl,rfl⟩
   have hmet:∃ xc,d c = some xc:=by
    have hp:∃ j,j < m /\ f (j + 1) = c:=by
     by_cases e:i0 = 0
     ·exact ⟨m - 1,by omega,by rw [show m - 1 + 1 = m by omega,hf,<- e];exact ei0⟩
     ·exact ⟨i0 - 1,by omega,by rw [show i0 - 1 + 1 = i0 by omega];exact ei0⟩
    obtain ⟨j,hj,ej⟩:=hp;by_cases e:f j = c
    ·have:=(hnew j hj e).1;exact absurd (this.symm.trans ej) hbc
    ·obtain ⟨x,z,_,h2,_⟩:=h.above _ _ _ (hold j hj e);rw [ej] at h2;exact ⟨z,h2⟩
   obtain ⟨xc,hxc⟩:=hmet
   have hsome:∀ i,i <= m -> ∃ x,d (f i) = some x:=fun i hi=>by
    by_cases e:i < m
    ·by_cases e2:f i = c
     ·exact ⟨xc,by rw [e2];exact hxc⟩
     ·obtain ⟨x,z,h1,_,_⟩:=h.above _ _ _ (hold i e e2);exact ⟨x,h1⟩
    ·have:i = m:=by omega
     subst this;rw [hf];by_cases e2:f 0 = c
     ·exact ⟨xc,by rw [e2];exact hxc⟩
     ·obtain ⟨x,z,h1,_,_⟩:=h.above _ _ _ (hold 0 hm e2);exact ⟨x,h1⟩
   have hD:∀ i,i < m -> g i <= (d (f i)).getD 0 - (d (f (i + 1))).getD 0:=fun i hi=>by
    by_cases e2:f i = c
    ·obtain ⟨h1,h2⟩:=hnew i hi e2;have:=hlt xc hxc;rw [e2,h1,h2,hxc,hb]
     simp
     omega
    ·obtain ⟨x,z,h1,h2,h3⟩:=h.above _ _ _ (hold i hi e2);rw [h1,h2]
     simp
     omega
   have hlt2:sumG g m < (d (f 0)).getD 0 - (d (f m)).getD 0:=sumG_lt (D:=fun i=>(d (f i)).getD 0) hD ⟨i0,hi0,by
    obtain ⟨h1,h2⟩:=hnew i0 hi0 ei0;have:=hlt xc hxc;show g i0 < (d (f i0)).getD 0 - (d (f (i0 + 1))).getD 0;rw [ei0,h1,h2,hxc,hb]
    simp
    omega⟩
   rw [hf] at hlt2;omega
  ·obtain ⟨t,h1,h2,h3⟩:=h.below m f g hm hf fun i hi=>by
    have:=hv i hi;unfold upd at this
    rwa [if_neg fun e=>hc ⟨i,hi,e⟩] at this
   rw [sumG_eq] at h3;rw [<- h3];exact h1
def Calm (E:List Edge) (d:Nat -> Option Int) (b:Nat):Prop:=∀ c w y,(b,c,w) ∈ E -> d b = some y -> ∃ x,d c = some x /\ x <= y + w
theorem calm_least {E:List Edge} {a:Nat} {d:Nat -> Option Int} (h0:∃ x,d a = some x /\ x <= 0) (hc:∀ b,Calm E d b) {c k:Nat} {s:Int} (hw:Wk E a c k s):∃ x,d c = some x /\ x <= s:=by
 induction hw with
 | nil=>exact h0
 | snoc h e ih =>
  obtain ⟨x,h1,h2⟩:=ih;obtain ⟨z,h3,h4⟩:=hc _ _ _ _ e h1;exact ⟨z,h3,by omega⟩
theorem calm_round {E:List Edge} {d:Nat -> Option Int} (hc:∀ b,Calm E d b) {b k:Nat} {s:Int} (hw:Wk E b b k s) {y:Int} (hb:d b = some y):0 <= s:=by
 have main:∀ {c k:Nat} {s:Int},Wk E b c k s -> ∃ x,d c = some x /\ x <= y + s:=fun h=>by
  induction h with
  | nil=>exact ⟨y,hb,by omega⟩
  | snoc h e ih =>
   obtain ⟨x,h1,h2⟩:=ih;obtain ⟨z,h3,h4⟩:=hc _ _ _ _ e h1;exact ⟨z,h3,by omega⟩
 obtain ⟨x,h1,h2⟩:=main hw;rw [hb] at h1;cases h1;omega
structure Mid (E:List Edge) (a:Nat) (d0:Nat -> Option Int) (via0:Nat -> Option (Nat × Int)) (d:Nat -> Option Int) (via:Nat -> Option (Nat × Int)) (P:Nat -> Prop):Prop where
 row:Row E a d via
 mono:∀ c x,d0 c = some x -> ∃ y,d c = some y /\ y <= x
 keep:∀ c,d c = d0 c -> via c = via0 c
 calm:∀ b,P b -> d b = d0 b -> Calm E d b
 src:∀ c b w,d c ≠ d0 c -> via c = some (b,w) -> d b ≠ d0 b \/ ¬ Calm E d0 b
theorem Mid.start {E:List Edge} {a:Nat} {d:Nat -> Option Int} {via:Nat -> Option (Nat × Int)} (h:Row E a d via):Mid E a d via d via fun _=>False :=
 ⟨h,fun _ x hx=>⟨x,hx,Int.le_refl _⟩,fun _ _=>rfl,fun _ h=>h.elim,fun _ _ _ h=>absurd rfl h⟩
theorem Mid.shorten {E:List Edge} {a:Nat} {d0:Nat -> Option Int} {via0:Nat -> Option (Nat × Int)} {d:Nat -> Option Int} {via:Nat -> Option (Nat × Int)} {P:Nat -> Prop} (h:Mid E a d0 via0 d via P) {b c:Nat} {w y:Int} (he:(b,c,w) ∈ E) (hb:d b = some y) (hbc:b ≠ c) (hlt:∀ x,d c = some x -> y + w < x) :
  Mid E a d0 via0 (upd d c (some (y + w))) (upd via c (some (b,w))) P /\ upd d c (some (y + w)) c ≠ d0 c:=by
 have hcne:upd d c (some (y + w)) c ≠ d0 c:=fun e=>by
  have e:some (y + w) = d0 c:=by simpa [upd] using e
  obtain ⟨z,h1,h2⟩:=h.mono c _ e.symm;have:=hlt z h1;omega
 have hdn:∀ c' x,d c' = some x -> ∃ z,upd d c (some (y + w)) c' = some z /\ z <= x:=fun c' x hx=>by
  by_cases e:c' = c
  ·subst e;have:=hlt x hx;exact ⟨y + w,by simp [upd],by omega⟩
  ·exact ⟨x,by simp [upd,e,hx],Int.le_refl _⟩
 have hoth:∀ c',c' ≠ c -> upd d c (some (y + w)) c' = d c':=fun c' e=>by simp [upd,e]
 refine ⟨⟨h.row.shorten he hb hbc hlt,fun c' x hx=>?_,fun c' e=>?_,fun b' hP e=>?_,fun c' b' w' hne hv=>?_⟩,hcne⟩
 ·obtain ⟨z,h1,h2⟩:=h.mono c' x hx;obtain ⟨z',h3,h4⟩:=hdn c' z h1;exact ⟨z',h3,by omega⟩
 ·by_cases e2:c' = c
  ·subst e2;exact absurd e hcne
  ·rw [hoth c' e2] at e;have:=h.keep c' e;simpa [upd,e2] using this
 ·have e2:b' ≠ c:=fun e2=>by subst e2;exact hcne e
  rw [hoth b' e2] at e;intro c' w' y' he' hy';rw [hoth b' e2] at hy';obtain ⟨x,h1,h2⟩:=h.calm b' hP e c' w' y' he' hy';obtain ⟨z,h3,h4⟩:=hdn c' x h1;exact ⟨z,h3,by omega⟩
 ·by_cases e2:c' = c
  ·subst e2;have hv:b = b' /\ w = w':=by simpa [upd] using hv
   obtain ⟨rfl,rfl⟩:=hv;by_cases e3:d b = d0 b
   ·refine .inr fun hc=>?_
    obtain ⟨x,h1,h2⟩:=hc c' w y he (by rw [<- e3];exact hb);obtain ⟨z,h3,h4⟩:=h.mono c' x h1;have:=hlt z h3;omega
   ·exact .inl (by rw [hoth b hbc];exact e3)
  ·rw [hoth c' e2] at hne;have hv:via c' = some (b',w'):=by simpa [upd,e2] using hv
   rcases h.src c' b' w' hne hv with h1 | h1
   ·by_cases e4:b' = c
    ·subst e4;exact .inl hcne
    ·exact .inl (by rw [hoth b' e4];exact h1)
   ·exact .inr h1
theorem Mid.tried {E:List Edge} {a:Nat} {d0:Nat -> Option Int} {via0:Nat -> Option (Nat × Int)} {d:Nat -> Option Int} {via:Nat -> Option (Nat × Int)} {P:Nat -> Prop} (h:Mid E a d0 via0 d via P) {b:Nat} (hc:Calm E d b):Mid E a d0 via0 d via fun x=>P x \/ x = b :=
 ⟨h.row,h.mono,h.keep,fun b' hP e=>by rcases hP with hP | rfl;exact h.calm b' hP e;exact hc,h.src⟩
structure Lev (E:List Edge) (a:Nat) (d:Nat -> Option Int) (via:Nat -> Option (Nat × Int)) (L:Nat -> Nat) (k:Nat):Prop where
 le:∀ c,L c <= k
 zero:∀ c,via c = none -> L c = 0
 up:∀ c b w,via c = some (b,w) -> L c <= L b + 1
 calm:∀ b,L b < k -> Calm E d b
theorem chain_short {via:Nat -> Option (Nat × Int)} {L:Nat -> Nat} (hup:∀ c b w,via c = some (b,w) -> L c <= L b + 1) {f:Nat -> Nat} {g:Nat -> Int}:∀ {m:Nat},(∀ i,i < m -> via (f i) = some (f (i + 1),g i)) -> L (f 0) <= L (f m) + m
 | 0,_=>Nat.le_refl _
 | m + 1,h=>by
  have h1:=chain_short hup (m:=m) fun i hi=>h i (by omega)
  have h2:=hup _ _ _ (h m (by omega));omega
theorem Lev.start (E:List Edge) (a:Nat):Lev E a (fun c=>if c = a then some 0 else none) (fun _=>none) (fun _=>0) 0 :=
 ⟨fun _=>Nat.le_refl _,fun _ _=>rfl,(fun _ _ _ h=>by cases h),fun _ h=>absurd h (Nat.not_lt_zero _)⟩
theorem Lev.pass {E:List Edge} {a k:Nat} {d0:Nat -> Option Int} {via0:Nat -> Option (Nat × Int)} {d:Nat -> Option Int} {via:Nat -> Option (Nat × Int)} {L0:Nat -> Nat} {P:Nat -> Prop} (h0:Row E a d0 via0) (hL:Lev E a d0 via0 L0 k) (h:Mid E a d0 via0 d via P) (hP:∀ b,d b ≠ none -> P b) :
  Lev E a d via (fun c=>if d c = d0 c then L0 c else k + 1) (k + 1):=by
 have hge:∀ b,L0 b <= (if d b = d0 b then L0 b else k + 1):=fun b=>by
  have:=hL.le b;split <;> omega
 refine ⟨fun c=>?_,fun c hv=>?_,fun c b w hv=>?_,fun b hb=>?_⟩
 ·have:=hL.le c;show (if d c = d0 c then L0 c else k + 1) <= k + 1;split <;> omega
 ·show (if d c = d0 c then L0 c else k + 1) = 0
  have e:d c = d0 c:=by
   by_cases ec:c = a
   ·subst ec;rw [h.row.start hv]
    cases hv0:via0 c with
    | none=>exact (h0.start hv0).symm
    | some p =>
     obtain ⟨x,h1,h2⟩:=h0.neg p.1 p.2 hv0;obtain ⟨z,h3,h4⟩:=h.mono c x h1;rw [h.row.start hv] at h3;cases h3;omega
   ·rw [h.row.own c hv ec]
    cases hd:d0 c with
    | none=>rfl
    | some x =>
     obtain ⟨z,h3,h4⟩:=h.mono c x hd;rw [h.row.own c hv ec] at h3;cases h3
  rw [if_pos e];exact hL.zero c (by rw [<- h.keep c e];exact hv)
 ·show (if d c = d0 c then L0 c else k + 1) <= (if d b = d0 b then L0 b else k + 1) + 1;by_cases e:d c = d0 c
  ·rw [if_pos e];have h1:=hL.up c b w (by rw [<- h.keep c e];exact hv);have h2:=hge b;omega
  ·rw [if_neg e];rcases h.src c b w e hv with h1 | h1
   ·rw [if_neg h1];omega
   ·have h2:k <= L0 b:=Nat.le_of_not_lt fun hlt=>h1 (hL.calm b hlt)
    have h3:=hge b;omega
 ·have hb:(if d b = d0 b then L0 b else k + 1) < k + 1:=hb;by_cases e:d b = d0 b
  ·by_cases hn:d b = none
   ·intro c w y _ hy;rw [hn] at hy;cases hy
   ·exact h.calm b (hP b hn) e
  ·rw [if_neg e] at hb;omega
theorem no_chain {E:List Edge} {a n:Nat} {d:Nat -> Option Int} {via:Nat -> Option (Nat × Int)} {L:Nat -> Nat} (hL:Lev E a d via L n) {f:Nat -> Nat} {g:Nat -> Int} {m:Nat} (hv:∀ i,i < m -> via (f i) = some (f (i + 1),g i)) (hn:∀ i,i <= m -> f i < n) (hd:∀ i j,i < j -> j <= m -> f i ≠ f j) (h0:L (f 0) = n) (hend:via (f m) = none):False:=by
 have h1:=chain_short hL.up hv;rw [h0,hL.zero _ hend] at h1;obtain ⟨i,j,h2,h3,h4⟩:=twice n f fun i hi=>hn i (by omega)
 exact hd i j h2 (by omega) h4
end Sheet
end
section
/- Plain: how far sheets lie apart: shortening through each sheet in turn,and shortening from one sheet on,tell the same. -/
namespace Sheet
def Dist (E:List Edge) (a b:Nat) (x:Option Int):Prop:=(∀ m,x = some m -> ∃ k,Wk E a b k m) /\ ∀ k s,Wk E a b k s -> ∃ m,x = some m /\ m <= s
theorem Dist.same {E:List Edge} {a b:Nat} {x y:Option Int} (hx:Dist E a b x) (hy:Dist E a b y):x = y:=by
 cases x with
 | none =>
  cases y with
  | none=>rfl
  | some m =>
   obtain ⟨k,hk⟩:=hy.1 m rfl;obtain ⟨m',e,_⟩:=hx.2 k m hk;cases e
 | some m =>
  obtain ⟨k,hk⟩:=hx.1 m rfl;obtain ⟨m',e,h1⟩:=hy.2 k m hk;subst e;obtain ⟨k',hk'⟩:=hy.1 m' rfl;obtain ⟨m'',e',h2⟩:=hx.2 k' m' hk';cases e';rw [Int.le_antisymm h1 h2]
theorem Row.dist {E:List Edge} {a:Nat} {d:Nat -> Option Int} {via:Nat -> Option (Nat × Int)} (h:Row E a d via) (hc:∀ b,Calm E d b) (b:Nat):Dist E a b (d b):=by
 have h0:∃ x,d a = some x /\ x <= 0:=by
  cases hv:via a with
  | none=>exact ⟨0,h.start hv,Int.le_refl _⟩
  | some p=>obtain ⟨x,h1,h2⟩:=h.neg p.1 p.2 hv;exact ⟨x,h1,by omega⟩
 exact ⟨fun m hm=>h.walk b m hm,fun k s hw=>calm_least h0 hc hw⟩
inductive Vk (E:List Edge) (k:Nat):Nat -> Nat -> Int -> Prop
 | nil (a:Nat):Vk E k a a 0
 | leg {a b:Nat} {w:Int} (e:(a,b,w) ∈ E):Vk E k a b w
 | cat {a v b:Nat} {s t:Int} (hv:v < k) (h1:Vk E k a v s) (h2:Vk E k v b t):Vk E k a b (s + t)
theorem Vk.walk {E:List Edge} {k a b:Nat} {s:Int} (h:Vk E k a b s):∃ l,Wk E a b l s:=by
 induction h with
 | nil a=>exact ⟨0,.nil a⟩
 | leg e=>exact ⟨1,.one e⟩
 | cat hv h1 h2 ih1 ih2 =>
  obtain ⟨l1,w1⟩:=ih1;obtain ⟨l2,w2⟩:=ih2;exact ⟨l1 + l2,w1.append w2⟩
theorem Wk.vk {E:List Edge} {n a b k:Nat} {s:Int} (hE:In E n) (h:Wk E a b k s):Vk E n a b s:=by
 induction h with
 | nil=>exact .nil a
 | snoc h e ih=>exact .cat (hE _ _ _ e).1 ih (.leg e)
def NoNeg (E:List Edge):Prop:=∀ a k s,Wk E a a k s -> 0 <= s
theorem Vk.step {E:List Edge} {k:Nat} (hn:NoNeg E) {a b:Nat} {s:Int} (h:Vk E (k + 1) a b s):(∃ s',s' <= s /\ Vk E k a b s') \/ ∃ s1 s2,Vk E k a k s1 /\ Vk E k k b s2 /\ s1 + s2 <= s:=by
 have pos:∀ {c:Nat} {t:Int},Vk E k c c t -> 0 <= t:=fun h=>by obtain ⟨l,hl⟩:=h.walk;exact hn _ _ _ hl
 induction h with
 | nil a=>exact .inl ⟨0,Int.le_refl _,.nil a⟩
 | leg e=>exact .inl ⟨_,Int.le_refl _,.leg e⟩
 | @cat a v b s t hv h1 h2 ih1 ih2 =>
  by_cases hvk:v < k
  ·rcases ih1 with ⟨s',e1,w1⟩ | ⟨s1,s2,w1,w2,e1⟩ <;> rcases ih2 with ⟨t',e2,w3⟩ | ⟨t1,t2,w3,w4,e2⟩
   ·exact .inl ⟨s' + t',by omega,.cat hvk w1 w3⟩
   ·exact .inr ⟨s' + t1,t2,.cat hvk w1 w3,w4,by omega⟩
   ·exact .inr ⟨s1,s2 + t',w1,.cat hvk w2 w3,by omega⟩
   ·have:=pos (Vk.cat hvk w2 w3);exact .inr ⟨s1,t2,w1,w4,by omega⟩
  ·have ev:v = k:=by omega
   subst ev;rcases ih1 with ⟨s',e1,w1⟩ | ⟨s1,s2,w1,w2,e1⟩ <;> rcases ih2 with ⟨t',e2,w3⟩ | ⟨t1,t2,w3,w4,e2⟩
   ·exact .inr ⟨s',t',w1,w3,by omega⟩
   ·have:=pos w3;exact .inr ⟨s',t2,w1,w4,by omega⟩
   ·have:=pos w2;exact .inr ⟨s1,t',w1,w3,by omega⟩
   ·have:=pos w2;have:=pos w3;exact .inr ⟨s1,t2,w1,w4,by omega⟩
structure Fl (E:List Edge) (n k:Nat) (T:Nat -> Nat -> Option Int):Prop where
 walk:∀ a b m,a < n -> b < n -> T a b = some m -> ∃ l,Wk E a b l m
 le:∀ a b s,a < n -> b < n -> Vk E k a b s -> ∃ m,T a b = some m /\ m <= s
theorem Fl.stage {E:List Edge} {n k:Nat} {T T':Nat -> Nat -> Option Int} (h:Fl E n k T) (hn:NoNeg E) (hk:k < n)
  (hw:∀ a b m,a < n -> b < n -> T' a b = some m -> ∃ l,Wk E a b l m) (hle:∀ a b m,a < n -> b < n -> T a b = some m -> ∃ m',T' a b = some m' /\ m' <= m)
  (hthr:∀ a b x y,a < n -> b < n -> T a k = some x -> T k b = some y -> ∃ m',T' a b = some m' /\ m' <= x + y):Fl E n (k + 1) T':=by
 refine ⟨hw,fun a b s ha hb hv=>?_⟩;rcases hv.step hn with ⟨s',e1,w1⟩ | ⟨s1,s2,w1,w2,e1⟩
 ·obtain ⟨m,h1,h2⟩:=h.le a b s' ha hb w1;obtain ⟨m',h3,h4⟩:=hle a b m ha hb h1;exact ⟨m',h3,by omega⟩
 ·obtain ⟨x,h1,h2⟩:=h.le a k s1 ha hk w1;obtain ⟨y,h3,h4⟩:=h.le k b s2 hk hb w2;obtain ⟨m',h5,h6⟩:=hthr a b x y ha hb h1 h3;exact ⟨m',h5,by omega⟩
theorem Fl.dist {E:List Edge} {n:Nat} {T:Nat -> Nat -> Option Int} (hE:In E n) (h:Fl E n n T) {a b:Nat} (ha:a < n) (hb:b < n):Dist E a b (T a b) :=
 ⟨fun m hm=>h.walk a b m ha hb hm,fun _ s hw=>h.le a b s ha hb (hw.vk hE)⟩
end Sheet
end
section
/- Plain: legs with a play: each weight times the play's parts,and the play more;legs that go both ways;when a round does not allow a play;the least play as the program finds it,round after round. -/
namespace Sheet
variable {E:List Edge} {a b k:Nat} {s t D N:Int}
def sc (D N:Int) (E:List Edge):List Edge:=E.map fun e=>(e.1,e.2.1,e.2.2 * D + N)
theorem sc_mem {a b:Nat} {w:Int} (h:(a,b,w) ∈ E):(a,b,w * D + N) ∈ sc D N E:=List.mem_map.2 ⟨_,h,rfl⟩
theorem mem_sc {a b:Nat} {w:Int} (h:(a,b,w) ∈ sc D N E):∃ w',(a,b,w') ∈ E /\ w = w' * D + N:=by
 obtain ⟨⟨x,y,z⟩,h1,h2⟩:=List.mem_map.1 h;cases h2;exact ⟨z,h1,rfl⟩
theorem Wk.sc (h:Wk E a b k s):Wk (Sheet.sc D N E) a b k (s * D + k * N):=by
 induction h with
 | nil=>exact (Wk.nil a).of_eq rfl (by simp)
 | snoc h e ih =>
  refine (ih.snoc (sc_mem e)).of_eq rfl ?_;rw [Int.add_mul,Int.natCast_add,Int.add_mul]
  simp
  omega
theorem Wk.unsc (h:Wk (Sheet.sc D N E) a b k t):∃ s,Wk E a b k s /\ t = s * D + k * N:=by
 induction h with
 | nil=>exact ⟨0,.nil a,by simp⟩
 | snoc h e ih =>
  obtain ⟨s,h1,rfl⟩:=ih;obtain ⟨w',h2,rfl⟩:=mem_sc e;refine ⟨s + w',h1.snoc h2,?_⟩;rw [Int.add_mul,Int.natCast_add,Int.add_mul]
  simp
  omega
def Sym (E:List Edge):Prop:=∀ a b w,(a,b,w) ∈ E -> (b,a,-w) ∈ E
theorem Wk.rev (hS:Sym E) (h:Wk E a b k s):Wk E b a k (-s):=by
 induction h with
 | nil=>exact (Wk.nil a).of_eq rfl (by simp)
 | snoc h e ih=>exact ((Wk.one (hS _ _ _ e)).append ih).of_eq (by omega) (by omega)
theorem Wk.none (h:Wk E a b k s) (hk:k = 0):s = 0 /\ a = b:=by
 cases h with
 | nil=>exact ⟨rfl,rfl⟩
 | snoc=>omega
theorem noNeg_iff (hS:Sym E):NoNeg (sc D N E) ↔ AtMost E N D:=by
 constructor
 ·intro h a k s hw _;have:=h a k _ ((hw.rev hS).sc (D:=D) (N:=N));have e1:(-s) * D = -(D * s):=by rw [Int.neg_mul,Int.mul_comm]
  have e2:(k:Int) * N = N * k:=Int.mul_comm _ _;omega
 ·intro h a k t hw;obtain ⟨s,h1,rfl⟩:=hw.unsc;by_cases hk:k = 0
  ·obtain ⟨rfl,-⟩:=h1.none hk;subst hk
   simp
  ·have:=h a k (-s) (h1.rev hS) (by omega);have e1:D * (-s) = -(s * D):=by rw [Int.mul_neg,Int.mul_comm]
   have e2:(k:Int) * N = N * k:=Int.mul_comm _ _;omega
theorem AtMost.more {p q p' q':Int} (h:AtMost E p q) (hq:0 < q) (hq':0 <= q') (hle:p * q' <= p' * q):AtMost E p' q':=by
 intro a k s hw hk;have h1:=h a k s hw hk;have a1:q * (q' * s) = q' * (q * s):=Int.mul_left_comm _ _ _;have a2:q' * (q * s) <= q' * (p * k):=Int.mul_le_mul_of_nonneg_left h1 hq';have a3:q' * (p * k) = p * q' * k:=by rw [<- Int.mul_assoc,Int.mul_comm q' p]
 have a4:p * q' * (k:Int) <= p' * q * k:=Int.mul_le_mul_of_nonneg_right hle (by omega);have a5:p' * q * (k:Int) = q * (p' * k):=by rw [Int.mul_comm p' q,Int.mul_assoc]
 exact Int.le_of_mul_le_mul_left (by omega:q * (q' * s) <= q * (p' * k)) hq
def Proved (E:List Edge) (n:Nat) (N D:Int):Prop:=0 < D /\ 0 <= N /\ ((N = 0 /\ D = 1) \/ ∃ c j s,Wk E c c j s /\ 0 < j /\ j <= n /\ 0 < s /\ (N,D) = low s j)
theorem Proved.start (E:List Edge) (n:Nat):Proved E n 0 1:=⟨by decide,by decide,.inl ⟨rfl,rfl⟩⟩
theorem Proved.step (hS:Sym E) {n:Nat} (hD:0 < D) (hN:0 <= N) {c j:Nat} {s:Int} (hw:Wk E c c j s) (hj:0 < j) (hjn:j <= n) (hneg:s * D + j * N < 0) :
  s < 0 /\ Proved E n (low (-s) j).1 (low (-s) j).2 /\ N * (low (-s) j).2 < (low (-s) j).1 * D:=by
 have hjN:0 <= (j:Int) * N:=Int.mul_nonneg (by omega) hN
 have hs:s < 0:=by
  refine Int.lt_of_not_ge fun h=>?_
  have:=Int.mul_nonneg h (Int.le_of_lt hD);omega
 obtain ⟨g,g0,e1,e2,e3,-⟩:=low_facts (-s) j (by omega);generalize hx:low (-s) j = x at *;obtain ⟨x1,x2⟩:=x;simp only at *
 have hx1:0 < x1:=by
  refine Int.lt_of_not_ge fun h=>?_
  have:=Int.mul_nonneg (Int.neg_nonneg_of_nonpos h) (Int.le_of_lt g0);rw [Int.neg_mul] at this;omega
 refine ⟨hs,⟨e3,Int.le_of_lt hx1,.inr ⟨c,j,-s,hw.rev hS,hj,hjn,by omega,hx.symm⟩⟩,?_⟩;have h1:(j:Int) * N < (-s) * D:=by rw [Int.neg_mul];omega
 rw [e1,e2] at h1
 have h2:N * x2 * g < x1 * D * g:=by
  have a1:x2 * g * N = N * x2 * g:=by rw [Int.mul_comm,<- Int.mul_assoc]
  have a2:x1 * g * D = x1 * D * g:=by rw [Int.mul_assoc,Int.mul_comm g D,<- Int.mul_assoc]
  omega
 exact Int.lt_of_mul_lt_mul_right h2 (Int.le_of_lt g0)
theorem Proved.least {n:Nat} (h:Proved E n N D) (hm:AtMost E N D):Least E N D:=by
 obtain ⟨h1,h2,h3⟩:=h;refine ⟨h1,h2,hm,?_⟩;rcases h3 with ⟨rfl,-⟩ | ⟨c,j,s,hw,hj,-,-,e⟩
 ·exact .inl rfl
 ·obtain ⟨g,g0,e1,e2,-,-⟩:=low_facts s j (by omega);rw [<- e] at e1 e2;simp only at e1 e2;refine .inr ⟨c,j,s,hw,hj,?_⟩;rw [e1,e2,<- Int.mul_assoc,<- Int.mul_assoc,Int.mul_comm D N]
def ahead (N D:Int):Int:=27720 * N / D
theorem Proved.part {n:Nat} (hn:n <= 12) (h:Proved E n N D):D ∣ 27720 * N /\ D ∣ 27720 /\ D <= 12:=by
 obtain ⟨h1,h2,h3⟩:=h;rcases h3 with ⟨rfl,rfl⟩ | ⟨c,j,s,hw,hj,hjn,hs,e⟩
 ·exact ⟨⟨0,by simp⟩,⟨27720,by simp⟩,by decide⟩
 ·obtain ⟨g,g0,e1,e2,-,-⟩:=low_facts s j (by omega);rw [<- e] at e1 e2;simp only at e1 e2;have hd:D ∣ (j:Int):=⟨g,e2⟩
  have hj2:(j:Int) ∣ 27720:=by
   have:j = 1 \/ j = 2 \/ j = 3 \/ j = 4 \/ j = 5 \/ j = 6 \/ j = 7 \/ j = 8 \/ j = 9 \/ j = 10 \/ j = 11 \/ j = 12:=by omega
   rcases this with rfl | rfl | rfl | rfl | rfl | rfl | rfl | rfl | rfl | rfl | rfl | rfl <;> decide
  have hd2:D ∣ 27720:=Int.dvd_trans hd hj2;refine ⟨Int.dvd_mul_of_dvd_left hd2,hd2,?_⟩;have:=Int.le_of_dvd (by omega) hd;omega
theorem ahead_lt {N' D':Int} (hD:0 < D) (hD':0 < D') (h:D ∣ 27720 * N) (h':D' ∣ 27720 * N') (hlt:N * D' < N' * D):ahead N D < ahead N' D':=by
 unfold ahead;obtain ⟨x,hx⟩:=h;obtain ⟨y,hy⟩:=h';rw [hx,hy,Int.mul_ediv_cancel_left _ (by omega),Int.mul_ediv_cancel_left _ (by omega)]
 have h1:D * x * D' < D' * y * D:=by
  rw [<- hx,<- hy];have:27720 * (N * D') < 27720 * (N' * D):=by omega
  rw [Int.mul_assoc,Int.mul_assoc];exact this
 have a1:D * x * D' = x * (D * D'):=by rw [Int.mul_comm D x,Int.mul_assoc]
 have a2:D' * y * D = y * (D * D'):=by rw [Int.mul_comm D' y,Int.mul_assoc,Int.mul_comm D' D]
 rw [a1,a2] at h1;exact Int.lt_of_mul_lt_mul_right h1 (Int.le_of_lt (Int.mul_pos hD hD'))
end Sheet
end
section
/- Plain: joints and legs as the program has them,one way (to the east,or to the north);a row of numbers with 'far',and the legs by which they came. -/
namespace Sheet
abbrev Jo:=Nat × Nat × Int
def legs (J:List Jo):List Edge:=J.flatMap fun j=>[(j.1,j.2.1,j.2.2),(j.2.1,j.1,-j.2.2)]
def jo (J:List Jo) (i:Nat):Jo:=J.getD i (0,0,0)
def from_ (J:List Jo) (g:Nat × Bool):Nat:=if g.2 then (jo J g.1).2.1 else (jo J g.1).1
def into (J:List Jo) (g:Nat × Bool):Nat:=if g.2 then (jo J g.1).1 else (jo J g.1).2.1
def num (J:List Jo) (g:Nat × Bool):Int:=if g.2 then -(jo J g.1).2.2 else (jo J g.1).2.2
theorem jo_mem {J:List Jo} {i:Nat} (h:i < J.length):jo J i ∈ J:=by
 unfold jo;rw [List.getD_eq_getElem?_getD,List.getElem?_eq_getElem h];exact List.getElem_mem h
theorem leg_mem {J:List Jo} {g:Nat × Bool} (h:g.1 < J.length):(from_ J g,into J g,num J g) ∈ legs J:=by
 refine List.mem_flatMap.2 ⟨jo J g.1,jo_mem h,?_⟩;unfold from_ into num;cases g.2 <;> simp
theorem mem_leg {J:List Jo} {a b:Nat} {w:Int} (h:(a,b,w) ∈ legs J):∃ g:Nat × Bool,g.1 < J.length /\ from_ J g = a /\ into J g = b /\ num J g = w:=by
 obtain ⟨j,hj,he⟩:=List.mem_flatMap.1 h;obtain ⟨i,hi,rfl⟩:=List.mem_iff_getElem.1 hj;have e:jo J i = J[i]:=by unfold jo;rw [List.getD_eq_getElem?_getD,List.getElem?_eq_getElem hi];rfl
 simp only [List.mem_cons,List.not_mem_nil,or_false] at he;rcases he with he | he
 ·cases he;exact ⟨(i,false),hi,by simp [from_,e],by simp [into,e],by simp [num,e]⟩
 ·cases he;exact ⟨(i,true),hi,by simp [from_,e],by simp [into,e],by simp [num,e]⟩
theorem legs_sym (J:List Jo):Sym (legs J):=by
 intro a b w h;obtain ⟨j,hj,he⟩:=List.mem_flatMap.1 h;refine List.mem_flatMap.2 ⟨j,hj,?_⟩;simp only [List.mem_cons,List.not_mem_nil,or_false] at he ⊢;rcases he with he | he
 ·cases he;right;rfl
 ·cases he;left;simp
def Ok (n:Nat) (J:List Jo):Prop:=∀ j ∈ J,j.1 < n /\ j.2.1 < n /\ j.1 ≠ j.2.1
theorem Ok.in {n:Nat} {J:List Jo} (h:Ok n J):In (legs J) n:=by
 intro a b w he;obtain ⟨j,hj,he⟩:=List.mem_flatMap.1 he;have:=h j hj;simp only [List.mem_cons,List.not_mem_nil,or_false] at he;rcases he with he | he <;> cases he <;> omega
theorem Ok.in_sc {n:Nat} {J:List Jo} {D N:Int} (h:Ok n J):In (sc D N (legs J)) n:=by
 intro a b w he;obtain ⟨w',h1,-⟩:=mem_sc he;exact h.in a b w' h1
theorem Ok.ne {n:Nat} {J:List Jo} (h:Ok n J) {g:Nat × Bool} (hg:g.1 < J.length):from_ J g ≠ into J g:=by
 have:=h _ (jo_mem hg);unfold from_ into;cases g.2 <;> simp <;> omega
def far:Int:=36028797018963968
def opt (x:Int):Option Int:=if x = far then none else some x
theorem opt_some {x y:Int}:opt x = some y ↔ x = y /\ x ≠ far:=by
 unfold opt;by_cases h:x = far
 ·simp [h]
 ·simp [h]
theorem opt_none {x:Int}:opt x = none ↔ x = far:=by
 unfold opt;by_cases h:x = far <;> simp [h]
def touched (a:Nat) (row:Nat -> Int) (c:Nat):Bool:=if c = a then decide (row c ≠ 0) else decide (row c ≠ far)
def viaOf (J:List Jo) (D N:Int) (a:Nat) (row:Nat -> Int) (by_:Nat -> Nat × Bool) (c:Nat):Option (Nat × Int):=if touched a row c then some (from_ J (by_ c),num J (by_ c) * D + N) else none
structure RowI (J:List Jo) (D N:Int) (a:Nat) (row:Nat -> Int) (by_:Nat -> Nat × Bool):Prop where
 core:Row (sc D N (legs J)) a (fun c=>opt (row c)) (viaOf J D N a row by_)
 leg:∀ c,touched a row c = true -> (by_ c).1 < J.length /\ into J (by_ c) = c
 home:row a ≠ far
theorem RowI.start (J:List Jo) (D N:Int) (a:Nat) (by_:Nat -> Nat × Bool):RowI J D N a (fun c=>if c = a then 0 else far) by_:=by
 have ht:∀ c,touched a (fun c=>if c = a then 0 else far) c = false:=fun c=>by
  unfold touched;by_cases e:c = a <;> simp [e]
 refine ⟨?_,(fun c h=>by rw [ht] at h;cases h),by simp [far]⟩
 have e1:(fun c=>opt (if c = a then 0 else far)) = fun c=>if c = a then some 0 else none:=by
  funext c
  by_cases e:c = a
  ·simp [e,opt,far]
  ·simp [e,opt]
 have e2:viaOf J D N a (fun c=>if c = a then 0 else far) by_ = fun _=>none:=by
  funext c
  unfold viaOf;rw [ht];rfl
 rw [e1,e2];exact row_start _ _
theorem RowI.shorten {n:Nat} {J:List Jo} (hJ:Ok n J) {D N:Int} {a:Nat} {row:Nat -> Int} {by_:Nat -> Nat × Bool} (h:RowI J D N a row by_) {g:Nat × Bool} (hg:g.1 < J.length) (hb:row (from_ J g) ≠ far)
  (hlt:row (from_ J g) + (num J g * D + N) < row (into J g)) (hfar:row (from_ J g) + (num J g * D + N) < far) :
  RowI J D N a (upd row (into J g) (row (from_ J g) + (num J g * D + N))) (upd by_ (into J g) g) /\
   (fun c=>opt (upd row (into J g) (row (from_ J g) + (num J g * D + N)) c)) = upd (fun c=>opt (row c)) (into J g) (some (row (from_ J g) + (num J g * D + N))) /\
   viaOf J D N a (upd row (into J g) (row (from_ J g) + (num J g * D + N))) (upd by_ (into J g) g) = upd (viaOf J D N a row by_) (into J g) (some (from_ J g,num J g * D + N)):=by
 have hne:=hJ.ne hg;generalize ex:row (from_ J g) + (num J g * D + N) = x at *;have hxf:x ≠ far:=by omega
 have ha0:∀ y,opt (row a) = some y -> y <= 0:=fun y hy=>by
  cases hv:viaOf J D N a row by_ a with
  | none=>have:=h.core.start hv;have this:opt (row a) = some 0:=this;rw [hy] at this;cases this;exact Int.le_refl _
  | some p=>obtain ⟨z,h1,h2⟩:=h.core.neg p.1 p.2 hv;have h1:opt (row a) = some z:=h1;rw [hy] at h1;cases h1;omega
 have htc:touched a (upd row (into J g) x) (into J g) = true:=by
  unfold touched;by_cases e:into J g = a
  ·rw [if_pos e];have h1:=ha0 (row a) (opt_some.2 ⟨rfl,h.home⟩);rw [e] at hlt;simp [upd];omega
  ·rw [if_neg e];simp [upd,hxf]
 have hto:∀ c,c ≠ into J g -> touched a (upd row (into J g) x) c = touched a row c:=fun c e=>by
  unfold touched;simp [upd,e]
 have e1:(fun c=>opt (upd row (into J g) x c)) = upd (fun c=>opt (row c)) (into J g) (some x):=by
  funext c
  by_cases e:c = into J g
  ·simp [upd,e,opt,hxf]
  ·simp [upd,e]
 have e2:viaOf J D N a (upd row (into J g) x) (upd by_ (into J g) g) = upd (viaOf J D N a row by_) (into J g) (some (from_ J g,num J g * D + N)):=by
  funext c
  by_cases e:c = into J g
  ·subst e;unfold viaOf;rw [htc];simp [upd]
  ·unfold viaOf;rw [hto c e];simp [upd,e]
 refine ⟨⟨?_,fun c hc=>?_,?_⟩,e1,e2⟩
 ·rw [e1,e2,<- ex]
  exact h.core.shorten (sc_mem (leg_mem hg)) (opt_some.2 ⟨rfl,hb⟩) hne fun y hy=>by
   have:=(opt_some.1 hy).1;omega
 ·by_cases e:c = into J g
  ·subst e;simp [upd,hg]
  ·rw [hto c e] at hc;simp [upd,e];exact h.leg c hc
 ·by_cases e:a = into J g
  ·rw [e];simp [upd,hxf]
  ·simp [upd,e];exact h.home
end Sheet
end
section
/- Plain: one pass of the program over all sheets,leg by leg;how long the ways can be;what n passes leave. -/
namespace Sheet
def wt (J:List Jo) (D N:Int) (g:Nat × Bool):Int:=num J g * D + N
structure Ps (n:Nat) (J:List Jo) (D N:Int) (a:Nat) (row0:Nat -> Int) (by0:Nat -> Nat × Bool) (row:Nat -> Int) (by_:Nat -> Nat × Bool) (b:Nat) (tr:Nat × Bool -> Prop):Prop where
 core:RowI J D N a row by_
 mid:Mid (sc D N (legs J)) a (fun c=>opt (row0 c)) (viaOf J D N a row0 by0) (fun c=>opt (row c)) (viaOf J D N a row by_) (fun x=>x < b)
 tried:∀ g,tr g -> g.1 < J.length -> from_ J g = b -> row (into J g) <= row b + wt J D N g
variable {n:Nat} {J:List Jo} {D N:Int} {a b:Nat} {row0 row:Nat -> Int} {by0 by_:Nat -> Nat × Bool} {tr:Nat × Bool -> Prop}
theorem Ps.start (h:RowI J D N a row by_):Ps n J D N a row by_ row by_ 0 fun _=>False:=by
 refine ⟨h,?_,(fun _ h=>h.elim)⟩;have:=Mid.start h.core;exact ⟨this.row,this.mono,this.keep,(fun b h=>absurd h (Nat.not_lt_zero _)),this.src⟩
theorem Ps.leave (h:Ps n J D N a row0 by0 row by_ b tr) {g:Nat × Bool} (hle:row (into J g) <= row b + wt J D N g):Ps n J D N a row0 by0 row by_ b fun x=>tr x \/ x = g :=
 ⟨h.core,h.mid,fun x hx hl hf=>by rcases hx with hx | rfl;exact h.tried x hx hl hf;exact hle⟩
theorem Ps.take (hJ:Ok n J) (h:Ps n J D N a row0 by0 row by_ b tr) {g:Nat × Bool} (hg:g.1 < J.length) (hf:from_ J g = b) (hb:row b ≠ far) (hlt:row b + wt J D N g < row (into J g)) (hfar:row b + wt J D N g < far) :
  Ps n J D N a row0 by0 (upd row (into J g) (row b + wt J D N g)) (upd by_ (into J g) g) b (fun x=>tr x \/ x = g) /\ opt (upd row (into J g) (row b + wt J D N g) (into J g)) ≠ opt (row0 (into J g)):=by
 subst hf;have hne:=hJ.ne hg;obtain ⟨h1,h2,h3⟩:=h.core.shorten hJ hg hb hlt hfar
 obtain ⟨m1,m2⟩:=h.mid.shorten (sc_mem (D:=D) (N:=N) (leg_mem hg)) (opt_some.2 ⟨rfl,hb⟩) hne fun y hy=>by
  have:=(opt_some.1 hy).1;have e:row (from_ J g) + wt J D N g = row (from_ J g) + (num J g * D + N):=rfl;omega
 refine ⟨⟨h1,?_,fun x hx hl hfx=>?_⟩,?_⟩
 ·have e2:=h2;have e3:=h3;show Mid _ _ _ _ (fun c=>opt (upd row (into J g) (row (from_ J g) + (num J g * D + N)) c)) (viaOf J D N a (upd row (into J g) (row (from_ J g) + (num J g * D + N))) (upd by_ (into J g) g)) _;rw [e2,e3];exact m1
 ·have hb':upd row (into J g) (row (from_ J g) + wt J D N g) (from_ J g) = row (from_ J g):=by simp [upd,hne]
  rw [hb'];by_cases e:into J x = into J g
  ·rw [e];rcases hx with hx | rfl
   ·have:=h.tried x hx hl hfx;rw [e] at this;have e4:upd row (into J g) (row (from_ J g) + wt J D N g) (into J g) = row (from_ J g) + wt J D N g:=by simp [upd]
    rw [e4];omega
   ·simp [upd]
  ·have e4:upd row (into J g) (row (from_ J g) + wt J D N g) (into J x) = row (into J x):=by simp [upd,e]
   rw [e4];rcases hx with hx | rfl
   ·exact h.tried x hx hl hfx
   ·exact absurd rfl e
 ·have:=congrFun h2 (into J g);have e5:opt (upd row (into J g) (row (from_ J g) + wt J D N g) (into J g)) = upd (fun c=>opt (row c)) (into J g) (some (row (from_ J g) + (num J g * D + N))) (into J g):=this;rw [e5];exact m2
theorem Ps.next (h:Ps n J D N a row0 by0 row by_ b tr) (hall:row b ≠ far -> (∀ g,g.1 < J.length -> from_ J g = b -> tr g) /\ ∀ g,g.1 < J.length -> from_ J g = b -> row b + wt J D N g < far):Ps n J D N a row0 by0 row by_ (b + 1) fun _=>False:=by
 have hc:Calm (sc D N (legs J)) (fun c=>opt (row c)) b:=by
  intro c w y he hy;obtain ⟨rfl,hne⟩:=opt_some.1 hy;obtain ⟨w',h1,rfl⟩:=mem_sc he;obtain ⟨g,g1,g2,g3,g4⟩:=mem_leg h1;obtain ⟨a1,a2⟩:=hall hne;have h2:=h.tried g (a1 g g1 g2) g1 g2;have h3:=a2 g g1 g2;have e:wt J D N g = w' * D + N:=by unfold wt;rw [g4]
  rw [g3] at h2;rw [e] at h2 h3;exact ⟨row c,opt_some.2 ⟨rfl,by omega⟩,h2⟩
 have hm:=h.mid.tried hc;exact ⟨h.core,⟨hm.row,hm.mono,hm.keep,fun x hx=>hm.calm x (by omega),hm.src⟩,(fun _ h=>h.elim)⟩
theorem RowI.met (hJ:Ok n J) (ha:a < n) (h:RowI J D N a row by_) {c:Nat} (hc:row c ≠ far):c < n:=by
 obtain ⟨k,hw⟩:=h.core.walk c (row c) (opt_some.2 ⟨rfl,hc⟩)
 have aux:∀ {c k:Nat} {s:Int},Wk (sc D N (legs J)) a c k s -> c < n:=fun hw=>by
  cases hw with
  | nil=>exact ha
  | snoc _ e=>exact (hJ.in_sc _ _ _ e).2
 exact aux hw
theorem Ps.calm (hJ:Ok n J) (ha:a < n) (h:Ps n J D N a row0 by0 row by_ n tr) (hs:∀ c,row c = row0 c):∀ b,Calm (sc D N (legs J)) (fun c=>opt (row c)) b:=by
 intro b;by_cases hb:b < n
 ·exact h.mid.calm b hb (by rw [hs b])
 ·intro c w y _ hy;obtain ⟨_,hne⟩:=opt_some.1 hy;exact absurd (h.core.met hJ ha hne) hb
theorem Ps.lev (hJ:Ok n J) (ha:a < n) (h0:RowI J D N a row0 by0) (h:Ps n J D N a row0 by0 row by_ n tr) {L:Nat -> Nat} {k:Nat} (hL:Lev (sc D N (legs J)) a (fun c=>opt (row0 c)) (viaOf J D N a row0 by0) L k) :
  ∃ L',Lev (sc D N (legs J)) a (fun c=>opt (row c)) (viaOf J D N a row by_) L' (k + 1) /\ ∀ c,opt (row c) ≠ opt (row0 c) -> L' c = k + 1:=by
 refine ⟨_,Lev.pass h0.core hL h.mid fun b hb=>?_,fun c hc=>if_neg hc⟩;refine h.core.met hJ ha fun e=>hb ?_
 exact opt_none.2 e
theorem lev_start (J:List Jo) (D N:Int) (a:Nat) (by_:Nat -> Nat × Bool):Lev (sc D N (legs J)) a (fun c=>opt (if c = a then 0 else far)) (viaOf J D N a (fun c=>if c = a then 0 else far) by_) (fun _=>0) 0:=by
 have e1:(fun c=>opt (if c = a then 0 else far)) = fun c=>if c = a then some 0 else none:=by
  funext c
  by_cases e:c = a
  ·simp [e,opt,far]
  ·simp [e,opt]
 have e2:viaOf J D N a (fun c=>if c = a then 0 else far) by_ = fun _=>none:=by
  funext c
  unfold viaOf touched;by_cases e:c = a <;> simp [e]
 rw [e1,e2];exact Lev.start _ _
def Lens (J:List Jo) (D N:Int) (a:Nat) (row:Nat -> Int) (B:Nat):Prop:=∀ c,row c ≠ far -> ∃ l,l <= B /\ Wk (sc D N (legs J)) a c l (row c)
theorem Lens.start:Lens J D N a (fun c=>if c = a then 0 else far) 0:=by
 intro c hc;by_cases e:c = a
 ·subst e;exact ⟨0,Nat.le_refl _,by simpa using Wk.nil c⟩
 ·simp [e] at hc
theorem Lens.more {B B':Nat} (h:Lens J D N a row B) (hB:B <= B'):Lens J D N a row B':=fun c hc=>let ⟨l,h1,h2⟩:=h c hc;⟨l,by omega,h2⟩
theorem Lens.take {B:Nat} (h:Lens J D N a row (B + 1)) {g:Nat × Bool} (hg:g.1 < J.length) (hb:∃ l,l <= B /\ Wk (sc D N (legs J)) a (from_ J g) l (row (from_ J g))):Lens J D N a (upd row (into J g) (row (from_ J g) + wt J D N g)) (B + 1):=by
 intro c hc;by_cases e:c = into J g
 ·subst e;obtain ⟨l,h1,h2⟩:=hb;refine ⟨l + 1,by omega,?_⟩;have:=h2.snoc (sc_mem (D:=D) (N:=N) (leg_mem hg));simpa [upd,wt] using this
 ·have e2:upd row (into J g) (row (from_ J g) + wt J D N g) c = row c:=by simp [upd,e]
  rw [e2] at hc ⊢;exact h c hc
theorem Lens.small {B:Nat} {M:Int} (h:Lens J D N a row B) (hM:∀ g:Nat × Bool,g.1 < J.length -> -M <= wt J D N g /\ wt J D N g <= M) (hM0:0 <= M) {c:Nat} (hc:row c ≠ far):-(M * B) <= row c /\ row c <= M * B:=by
 obtain ⟨l,h1,h2⟩:=h c hc
 have hE:∀ a b w,(a,b,w) ∈ sc D N (legs J) -> -M <= w /\ w <= M:=fun a b w he=>by
  obtain ⟨w',h3,rfl⟩:=mem_sc he;obtain ⟨g,g1,g2,g3,g4⟩:=mem_leg h3;have:=hM g g1;unfold wt at this;rw [g4] at this;exact this
 have b1:=h2.bound (p:=0) (q:=1) (M:=M) fun a b w he=>by have:=hE a b w he;omega
 have b2:=h2.bound (p:=0) (q:=-1) (M:=M) fun a b w he=>by have:=hE a b w he;omega
 have b3:M * (l:Int) <= M * B:=Int.mul_le_mul_of_nonneg_left (by omega) hM0;omega
end Sheet
end
section
/- Plain: legs that follow each other;a round that is found by going back along the legs by which sheets came. -/
namespace Sheet
def IsWalk (J:List Jo):Nat -> List (Nat × Bool) -> Nat -> Prop
 | a,[],b=>a = b
 | a,g :: r,b=>g.1 < J.length /\ from_ J g = a /\ IsWalk J (into J g) r b
def sumN (J:List Jo):List (Nat × Bool) -> Int
 | []=>0
 | g :: r=>num J g + sumN J r
theorem sumN_append (J:List Jo):∀ l r:List (Nat × Bool),sumN J (l ++ r) = sumN J l + sumN J r
 | [],r=>by simp [sumN]
 | g :: l,r=>by simp only [List.cons_append,sumN,sumN_append J l r];omega
theorem IsWalk.wk {J:List Jo}:∀ {a b:Nat} {l:List (Nat × Bool)},IsWalk J a l b -> Wk (legs J) a b l.length (sumN J l)
 | a,b,[],h=>by cases h;exact .nil a
 | a,b,g :: r,⟨h1,h2,h3⟩=>by
  have:=leg_mem h1;rw [h2] at this;exact ((Wk.one this).append h3.wk).of_eq (by simp;omega) rfl
theorem back_walk {J:List Jo} {f:Nat -> Nat} {g:Nat -> Nat × Bool}:∀ (m:Nat),(∀ j,j < m -> (g j).1 < J.length /\ into J (g j) = f j /\ from_ J (g j) = f (j + 1)) -> IsWalk J (f m) ((List.range m).map g).reverse (f 0)
 | 0,_=>rfl
 | m + 1,h=>by
  have h1:=back_walk m fun j hj=>h j (by omega)
  obtain ⟨a1,a2,a3⟩:=h m (by omega);rw [List.range_succ,List.map_append,List.reverse_append];refine ⟨a1,a3,?_⟩;show IsWalk J (into J (g m)) ((List.range m).map g).reverse (f 0);rw [a2];exact h1
theorem via_leg {J:List Jo} {D N:Int} {a:Nat} {row:Nat -> Int} {by_:Nat -> Nat × Bool} {c:Nat} (h:touched a row c = true):viaOf J D N a row by_ c = some (from_ J (by_ c),wt J D N (by_ c)):=by
 unfold viaOf;rw [if_pos h];rfl
theorem RowI.back {J:List Jo} {D N:Int} {a:Nat} {row:Nat -> Int} {by_:Nat -> Nat × Bool} (h:RowI J D N a row by_) {c:Nat} (hc:touched a row c = true):row (from_ J (by_ c)) ≠ far:=by
 obtain ⟨x,y,_,h2,_⟩:=h.core.above _ _ _ (via_leg hc);have h2:opt (row (from_ J (by_ c))) = some y:=h2;exact fun e=>(opt_some.1 h2).2 e
theorem back_round {J:List Jo} {D N:Int} {a:Nat} {row:Nat -> Int} {by_:Nat -> Nat × Bool} (h:RowI J D N a row by_) {f:Nat -> Nat} {m:Nat} (hm:0 < m) (hf:f m = f 0) (ht:∀ j,j < m -> touched a row (f j) = true) (hs:∀ j,j < m -> from_ J (by_ (f j)) = f (j + 1)) :
  IsWalk J (f 0) ((List.range m).map fun j=>by_ (f j)).reverse (f 0) /\ sumN J ((List.range m).map fun j=>by_ (f j)).reverse * D + (m:Int) * N < 0:=by
 have hw:=back_walk (J:=J) (f:=f) (g:=fun j=>by_ (f j)) m fun j hj=>⟨(h.leg _ (ht j hj)).1,(h.leg _ (ht j hj)).2,hs j hj⟩
 rw [hf] at hw;refine ⟨hw,?_⟩;obtain ⟨t,h1,-,h3⟩:=h.core.below m f (fun j=>wt J D N (by_ (f j))) hm hf fun j hj=>by rw [via_leg (ht j hj),hs j hj]
 rw [sumG_eq] at h3
 have e:∀ k,sumG (fun j=>wt J D N (by_ (f j))) k = sumN J ((List.range k).map fun j=>by_ (f j)).reverse * D + (k:Int) * N:=by
  intro k
  induction k with
  | zero=>simp [sumG,sumN]
  | succ k ih =>
   rw [List.range_succ,List.map_append,List.reverse_append];show sumG (fun j=>wt J D N (by_ (f j))) k + wt J D N (by_ (f k)) = (num J (by_ (f k)) + sumN J ((List.range k).map fun j=>by_ (f j)).reverse) * D + ((k + 1:Nat):Int) * N;rw [ih,Int.add_mul,Int.natCast_add,Int.add_mul];unfold wt
   simp
   omega
 rw [<- e m,<- h3];exact h1
theorem back_ends {n:Nat} {J:List Jo} {D N:Int} {a:Nat} {row:Nat -> Int} {by_:Nat -> Nat × Bool} {L:Nat -> Nat} (hJ:Ok n J) (ha:a < n) (h:RowI J D N a row by_) (hL:Lev (sc D N (legs J)) a (fun c=>opt (row c)) (viaOf J D N a row by_) L n) {f:Nat -> Nat} {m:Nat}
  (ht:∀ j,j < m -> touched a row (f j) = true) (hs:∀ j,j < m -> from_ J (by_ (f j)) = f (j + 1)) (hd:∀ i j,i < j -> j <= m -> f i ≠ f j) (h0:L (f 0) = n) (hm:row (f 0) ≠ far) (hend:touched a row (f m) = false):False:=by
 refine no_chain hL (f:=f) (g:=fun j=>wt J D N (by_ (f j))) (m:=m) (fun i hi=>by rw [via_leg (ht i hi),hs i hi]) (fun i hi=>?_) hd h0 (by unfold viaOf;rw [hend];rfl)
 cases i with
 | zero=>exact h.met hJ ha hm
 | succ i =>
  have:=h.back (ht i (by omega));rw [hs i (by omega)] at this;exact h.met hJ ha this
end Sheet
end
