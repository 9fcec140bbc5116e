/- Own texts, merged: Rng Brg Rgv Rgw Rgx Rgt Rgu Wc Sa. -/
import Derived.Test.YthegmhnaiabcpaaGreatF02
import Derived.RangeFuncNested
import Derived.RangeFuncBound
import Derived.RangeFuncCalls
import Derived.RangeFuncLeaves
import Derived.Test.YthegmhnaiabcpaaGreatChecked
import Derived.Shelf.RegionOpen
import Derived.StillTailTactics
set_option linter.unusedSimpArgs false
set_option linter.unusedVariables false
set_option linter.unnecessarySimpa false
section
/- Words: a range over an iterator that keeps state in one block of its own. -/
namespace Go.Proofs
open Go.RowKit
structure Kept3 (B:Nat) (W W':World):Prop where
 size:W.heap.size <= W'.heap.size
 same:∀ j,B <= j -> j <= B + 2 -> W'.heap[j]? = W.heap[j]?
theorem Kept3.of_aft {B:Nat} {W W':World} (h:Aft W W') (hB:B + 3 <= W.heap.size):Kept3 B W W':=⟨h.size,fun j _ h2=>h.below.block j (by omega)⟩
theorem Kept3.setCell {B:Nat} {W W':World} (h:Kept3 B W W') {p:Addr} (hp:p.block < B \/ B + 3 <= p.block) (v:Value):Kept3 B W (W'.setCell p v) :=
 ⟨by have:=h.size;simpa [World.setCell] using this,fun j h1 h2=>(Below.heap_setCell W' p v j (by omega)).trans (h.same j h1 h2)⟩
def Three {β:Type} (B:Nat) (I:β -> World -> Prop):Prop:=∀ s W W' r,I s W -> W.grownBy W' (some r) -> B <= r -> r <= B + 2 -> I s W'
def post3 (B:Nat) (I:Nat -> World -> Prop) (Ix:Code -> World -> Prop) (k:Nat) (W:World):Exit -> Act -> World -> Prop
 | .normal,_,W'=>Kept3 B W W' /\ I k W'
 | .ret,_,W'=>Kept3 B W W' /\ Ix .ret W'
 | .exit id,_,W'=>Kept3 B W W' /\ Ix (.exit id) W'
 | .goto t,_,W'=>Kept3 B W W' /\ Ix (.goto t) W'
 | .panic _,_,_=>False
 | .outgrown,_,_=>False
def IterOk (n:Nat) (gf:Nat) (lb:Array Value) (B N:Nat) (Gv:Nat -> World -> World -> Value -> Prop) (Rep:World -> Prop):Prop :=
 ∀ (l:Nat) (J:Nat -> World -> Prop) (Jx:World -> Prop) (W:World),W.heap.size = B + 2 -> (∀ k W W',J k W -> W.grownBy W' (some (B + 2)) -> J k W') -> (∀ k W,J k W -> Rep W) ->
  (∀ k v W0 W1,k < N -> J k W0 -> Aft W0 W1 -> B + 3 <= W0.heap.size -> Gv k W0 W1 v -> YieldAt Fence.wide (n - 1) Tryz.prog l #[v] W1 fun e W' =>
   (e = .returned (.bool true) /\ J (k + 1) W' /\ W'.heap[B + 2]? = W1.heap[B + 2]? /\ W1.heap.size <= W'.heap.size) \/ (e = .returned (.bool false) /\ Jx W')) ->
  J 0 W ->
  CallsIn Fence.wide n Tryz.prog gf (#[.func (.yield l) #[] #[]] ++ lb) W fun e W'=>(∃ v,e = .returned v) /\ (J N W' \/ Jx W')
end Go.Proofs
end
section
/- Words: operations,lists of them and regions inside a round,by what holds of them outside. -/
namespace Go
section
variable {P:Program} {ops:Array Oper} {Q:Exit -> Act -> World -> Prop} {l n:Nat} {md:Region.Mode}
theorem Oper.in_round {o:Oper} {a:Act} {w:World} {K:Act -> World -> Prop} (hd:∀ c,o.op ≠ .defer c) (h:o.wp P a w K Q):o.wpIn (Fence.wide.inRound l) n P a w K Q:=by
 unfold Oper.wpIn;refine ⟨fun _ _=>trivial,?_⟩;show o.uponIn _ n P a K Q ((Oper.semAt (some l) a.eval o).run P w);rw [Oper.semAt_some l _ o hd];unfold Oper.wp at h;generalize (execOp a.eval o).run P w = r at *
 cases r with
 | ok x w' =>
  cases x <;> simp only [Oper.upon,Oper.uponIn] at h ⊢
  case value u=>exact h
  case skip=>exact h
  case defer d=>exact h
  case enter f args=>exact ⟨(fun h=>by cases h),CallsIn.inRound l (callsIn_wide.2 h)⟩
  case row r args =>
   refine ⟨(fun h=>by cases h),fun c cs _=>?_⟩;obtain ⟨v,w2,h1,h2⟩:=h c cs;exact ⟨v,w2,h1,stepsIn_wide.2 h2⟩
  all_goals exact h.elim
 | halt x w'=>cases x <;> simp only [Oper.upon,Oper.uponIn] at h ⊢ <;> first | exact h | exact h.elim
def noDefers (l:List Oper):Bool:=l.all fun o=>match o.op with | .defer _=>false | _=>true
theorem noDefers_at {l:List Oper} (h:noDefers l = true) {o:Oper} (ho:o ∈ l):∀ c,o.op ≠ .defer c:=by
 intro c e;have:=List.all_eq_true.1 h o ho;rw [e] at this;cases this
theorem wpOp_in_round {i:Nat} {a:Act} {w:World} {K:Act -> World -> Prop} (hd:noDefers ops.toList = true) (hQ:¬ LetsOut Q) (h:wpOp P ops Q i K a w):wpOpIn (Fence.wide.inRound l) n P ops Q i K a w:=by
 unfold wpOp at h;unfold wpOpIn
 cases ho:ops[i]? with
 | none=>simp only [ho] at h ⊢;exact h
 | some o =>
  simp only [ho] at h ⊢
  have hm:o ∈ ops.toList:=by
   obtain ⟨hi,e⟩:=Array.getElem?_eq_some_iff.1 ho;rw [<- e];exact Array.getElem_mem_toList hi
  split
  ·rename_i hw
   rw [if_pos hw] at h;exact Oper.in_round (noDefers_at hd hm) (h.resolve_right fun x=>hQ x.2)
  ·rename_i hw
   rw [if_neg hw] at h;exact ⟨fun _ _=>trivial,h⟩
theorem wpAny_in_round (hd:noDefers ops.toList = true) (hQ:¬ LetsOut Q):∀ (fuel:Nat) (listed:Array Bool) (a:Act) (w:World),wpAny P md ops Q fuel listed a w -> wpAnyIn (Fence.wide.inRound l) n P md ops Q fuel listed a w
 | 0,_,_,_,h=>h
 | fuel + 1,_,_,_,h=>⟨h.1,fun i hi=>wpOpIn_mono (fun a w=>wpAny_in_round hd hQ fuel _ a w) (wpOp_in_round hd hQ (h.2 i hi))⟩
theorem wpList_in_round (hQ:¬ LetsOut Q):∀ (xs:List Oper) (a:Act) (w:World),noDefers xs = true -> wpList P ops Q xs a w -> wpListIn (Fence.wide.inRound l) n P ops Q xs a w
 | [],_,_,_,h=>h
 | o :: rest,a,w,hd,h=>by
  have hd':noDefers rest = true:=by
   unfold noDefers at hd ⊢;rw [List.all_cons,Bool.and_eq_true] at hd;exact hd.2
  unfold wpList at h;unfold wpListIn;split
  ·rename_i hw
   rw [if_pos hw] at h;exact Oper.wpIn_mono (fun a w=>wpList_in_round hQ rest a w hd') (Oper.in_round (noDefers_at hd (by simp)) (h.resolve_right fun x=>hQ x.2))
  ·rename_i hw
   rw [if_neg hw] at h;exact ⟨fun _ _=>trivial,wpList_in_round hQ rest _ _ hd' h⟩
end
end Go
end
section
/- A region that draws its order,whose operations yield known values in whatever order they come up. -/
namespace Go
def putAll (a:Act):List (Oper × Value) -> Act
 | []=>a
 | (o,v) :: r=>putAll (a.put o.dst v) r
theorem put_size (a:Act) (d:Option Tmp) (v:Value):(a.put d v).tmps.size = a.tmps.size:=by unfold Act.put;split <;> simp
theorem put_defers (a:Act) (d:Option Tmp) (v:Value):(a.put d v).defers = a.defers:=by unfold Act.put;split <;> rfl
theorem putAll_size:∀ (l:List (Oper × Value)) (a:Act),(putAll a l).tmps.size = a.tmps.size
 | [],_=>rfl
 | (o,v) :: r,a=>(putAll_size r _).trans (put_size a o.dst v)
theorem putAll_defers:∀ (l:List (Oper × Value)) (a:Act),(putAll a l).defers = a.defers
 | [],_=>rfl
 | (o,v) :: r,a=>(putAll_defers r _).trans (put_defers a o.dst v)
theorem putAll_old {s:Nat}:∀ (l:List (Oper × Value)) (a:Act),(∀ x ∈ l,x.1.dst ≠ some s) -> (putAll a l).eval (.tmp s) = a.eval (.tmp s)
 | [],_,_=>rfl
 | (o,v) :: r,a,h=>by
  unfold putAll;rw [putAll_old r _ fun x hx=>h x (by simp [hx])];exact Act.eval_put fun d hd e=>by cases e;exact h (o,v) (by simp) hd
theorem putAll_at {s:Nat}:∀ (l:List (Oper × Value)) (a:Act) (i:Nat) (o:Oper) (v:Value),(l.filterMap (·.1.dst)).Nodup -> l[i]? = some (o,v) -> o.dst = some s -> s < a.tmps.size -> (putAll a l).eval (.tmp s) = v
 | [],_,i,_,_,_,h,_,_=>by simp at h
 | (o',v') :: r,a,0,o,v,hn,h,hs,hlt=>by
  simp at h;obtain ⟨rfl,rfl⟩:=h;unfold putAll;rw [List.filterMap_cons] at hn;simp only [hs] at hn;rw [putAll_old r _ fun x hx e=>(List.nodup_cons.1 hn).1 (List.mem_filterMap.2 ⟨x,hx,e⟩),hs];exact Act.eval_put_same _ _ _ hlt
 | (o',v') :: r,a,i + 1,o,v,hn,h,hs,hlt=>by
  unfold putAll;refine putAll_at r _ i o v ?_ (by simpa using h) hs (by rw [put_size];exact hlt);rw [List.filterMap_cons] at hn
  cases hd:o'.dst with
  | none=>simpa [hd] using hn
  | some d=>simp only [hd] at hn;exact (List.nodup_cons.1 hn).2
theorem act_ext {a b:Act} (h1:a.tmps.size = b.tmps.size) (h2:a.defers = b.defers) (h3:∀ s:Nat,a.eval (.tmp s) = b.eval (.tmp s)):a = b:=by
 obtain ⟨t,d⟩:=a;obtain ⟨t',d'⟩:=b;cases h2;rw [Act.mk.injEq];refine ⟨Array.ext h1 fun i hi hi'=>?_,rfl⟩;have:=h3 i;simp only [Act.eval,Array.getD_eq_getD_getElem?] at this;rw [Array.getElem?_eq_getElem hi,Array.getElem?_eq_getElem hi'] at this;exact this
section
variable {P:Program} {Q:Exit -> Act -> World -> Prop} {a0:Act}
theorem held_putAll {xs:List Oper} {vals:List Value} {Wd:(Nat -> Bool) -> World -> Prop} {done:Nat -> Bool} {a:Act} {w:World} (hl:xs.length = vals.length) (hn:(xs.filterMap (·.dst)).Nodup) (hin:∀ o ∈ xs,∀ s,o.dst = some s -> s < a0.tmps.size)
  (hd:∀ i,i < xs.length -> done i = true) (h:Held xs.toArray (fun i v _=>vals[i]? = some v) Wd a0 done a w):a = putAll a0 (xs.zip vals):=by
 have hz:(xs.zip vals).map (·.1) = xs:=by rw [List.map_fst_zip];omega
 have hfm:(xs.zip vals).filterMap (·.1.dst) = xs.filterMap (·.dst):=by
  conv=>rhs;rw [<- hz]
  rw [List.filterMap_map];rfl
 refine act_ext (h.size.trans (putAll_size _ _).symm) (h.defers.trans (putAll_defers _ _).symm) fun s=>?_
 by_cases hs:s ∈ xs.filterMap (·.dst)
 ·obtain ⟨o,ho,he⟩:=List.mem_filterMap.1 hs;obtain ⟨i,hi,e⟩:=List.getElem_of_mem ho;have ho':xs.toArray[i]? = some o:=by rw [<- e];simp [hi]
  have h1:=h.fact i o s ho' he (hd i hi)
  have h2:(xs.zip vals)[i]? = some (o,a.eval (.tmp s)):=by
   rw [List.getElem?_zip_eq_some];exact ⟨by rw [<- e];simp [hi],h1⟩
  exact (putAll_at _ _ i o _ (by rw [hfm];exact hn) h2 he (hin o ho s he)).symm
 ·rw [h.same (by simpa using hs)];refine (putAll_old _ _ fun x hx e=>hs ?_).symm;rw [<- hfm];exact List.mem_filterMap.2 ⟨x,hx,e⟩
structure Knows (xs:List Oper) (vals:List Value) (a0:Act) (i:Nat) (a:Act):Prop where
 at_:∀ (j:Nat) (o:Oper) (s:Nat) (v:Value),xs[i]? = some o -> j ∈ Region.preds o -> ∀ oj,xs[j]? = some oj -> oj.dst = some s -> vals[j]? = some v -> a.eval (.tmp s) = v
 same:∀ s:Nat,s ∉ xs.filterMap (·.dst) -> a.eval (.tmp s) = a0.eval (.tmp s)
def OnlyN (Q:Exit -> Act -> World -> Prop):Exit -> Act -> World -> Prop
 | .normal,a,w=>Q .normal a w
 | _,_,_=>False
theorem OnlyN.imp {Q:Exit -> Act -> World -> Prop}:∀ (e:Exit) (a:Act) (w:World),OnlyN Q e a w -> Q e a w:=fun e a w h=>by cases e <;> first | exact h | exact h.elim
theorem OnlyN.notOut {Q:Exit -> Act -> World -> Prop}:¬ LetsOut (OnlyN Q):=fun h=>by
 obtain ⟨a,w,h⟩:=h;exact h
theorem wpIn_region_of_list {id l k:Nat} {xs:List Oper} {a:Act} {w:World} (hd:noDefers xs = true) (h:wpList P xs.toArray (OnlyN Q) xs a w):(Code.region id xs.toArray false).wpIn (Fence.wide.inRound l) k P Q a w :=
 wpIn_mono (wpIn_region_lit (wpList_in_round OnlyN.notOut _ _ _ hd h)) OnlyN.imp
end
section
variable {P:Program} {w:World} {o:Oper} {a:Act} {K:Act -> World -> Prop} {Q:Exit -> Act -> World -> Prop}
theorem ev' {a:Act} {s:Nat} {v:Value} (h:a.eval (.tmp s) = v):a.tmps[s]?.getD undef = v:=by rw [<- h];simp [Act.eval]
theorem op_val {v:Value} (h1:(execOp a.eval o).run P w = .ok (.value v) w) (h:K (a.put o.dst v) w):Oper.wp P o a w K Q:=by
 unfold Oper.wp;rw [h1];exact h
end
end Go
end
section
/- A region that draws its order,whose operations may bear guards and yield known values. -/
namespace Go
def wantedV (vals:List Value) (o:Oper):Bool :=
 match o.guard with
 | none=>true
 | some (j,b)=>match vals[j]? with
  | some (.bool x)=>x == b
  | _=>false
def guardsB (xs:List Oper):Bool:=xs.all fun o=>match o.guard with
 | none=>true
 | some (j,_)=>(Region.preds o).contains j && ((xs[j]?).bind (·.dst)).isSome
section
variable {P:Program} {Q:Exit -> Act -> World -> Prop} {a0:Act}
theorem wanted_eq {xs:List Oper} {vals:List Value} {Wd:(Nat -> Bool) -> Act -> World -> Prop} {done:Nat -> Bool} {a:Act} {w:World} {o:Oper} (hin:∀ o ∈ xs,∀ s,o.dst = some s -> s < a0.tmps.size)
  (h:HeldG xs.toArray (fun _ i v _=>vals[i]? = some v) Wd a0 done a w) (ho:o ∈ xs) (hp:∀ j ∈ Region.preds o,done j = true) (hG:guardsB xs = true):Region.wanted o (yielded xs.toArray a.tmps) = wantedV vals o:=by
 have hg:=List.all_eq_true.1 hG o ho;unfold Region.wanted wantedV
 cases hgd:o.guard with
 | none=>rfl
 | some p =>
  obtain ⟨j,b⟩:=p;rw [hgd] at hg;simp only [Bool.and_eq_true] at hg;obtain ⟨h1,h2⟩:=hg;obtain ⟨s,hs⟩:=Option.isSome_iff_exists.1 h2;obtain ⟨oj,hoj,hdj⟩:=Option.bind_eq_some_iff.1 hs;have hv:=h.fact j oj s (by simpa using hoj) hdj (hp j (by simpa using h1));have hlt:s < a.tmps.size:=by rw [h.size];exact hin oj (List.mem_of_getElem? hoj) s hdj
  have hy:yielded xs.toArray a.tmps j = match a.eval (.tmp s) with | .bool b=>some b | _=>none:=by
   unfold yielded
   have:((xs.toArray[j]?).bind (·.dst)).bind (a.tmps[·]?) = some (a.eval (.tmp s)):=by
    rw [List.getElem?_toArray,hs,Option.bind_some];simp only [Act.eval,Array.getD_eq_getD_getElem?];rw [Array.getElem?_eq_getElem hlt];rfl
   rw [this];cases a.eval (.tmp s) <;> rfl
  have hv':vals[j]? = some (a.eval (.tmp s)):=hv;simp only [hy,hv'];cases a.eval (.tmp s) <;> simp
theorem wp_region_valsG {id:Nat} {xs:List Oper} {w:World} (hm:P.follows .mixedOrders = true) (n:Nat) (hn:a0.tmps.size = n) (hB:factsGB xs n = true) (hG:guardsB xs = true) (vals:List Value) (hl:xs.length = vals.length) (Wd:World -> Prop) (h0:Wd w.drew)
  (step:∀ (i:Nat) (o:Oper) (v:Value),xs[i]? = some o -> vals[i]? = some v -> wantedV vals o = true /\ (∀ (a:Act) (w:World),Knows xs vals a0 i a -> Wd w -> ∀ K:Act -> World -> Prop,(∀ w',Wd w' -> K (a.put o.dst v) w') -> Oper.wp P o a w K Q) \/ wantedV vals o = false /\ v = undef)
  (fin:∀ w,Wd w -> Q .normal (putAll a0 (xs.zip vals)) w):(Code.region id xs.toArray true).wp P Q a0 w:=by
 have hB':=hB;unfold factsGB at hB';rw [Bool.and_eq_true,Bool.and_eq_true] at hB';obtain ⟨⟨h2,h3⟩,h4⟩:=hB'
 have hin:∀ o ∈ xs,∀ s,o.dst = some s -> s < a0.tmps.size:=fun o ho s hs=>by
  have:=List.all_eq_true.1 h3 o ho;rw [hs] at this;rw [hn];simpa using this
 refine wp_region_factsG hm n hn hB (fun _ i v _=>vals[i]? = some v) (fun _ _ w=>Wd w) h0 (fun i o ho done a w hH hd hp K hK=>?_) (fun done a w hd hH=>?_)
 ·have hi:=(List.getElem?_eq_some_iff.1 ho).1;have hv:vals[i]? = some vals[i]:=List.getElem?_eq_getElem (by omega)
  have hk:Knows xs vals a0 i a:=⟨fun j o' s v hx hj oj hoj hs hvj=>by
   rw [ho] at hx;cases hx;have:=hH.fact j oj s (by simpa using hoj) hs (hp j hj);rw [hvj] at this;exact (Option.some.inj this).symm,fun s hs=>hH.same (by simpa using hs)⟩
  rw [wanted_eq hin hH (List.mem_of_getElem? ho) hp hG];rcases step i o _ ho hv with ⟨hw,hs⟩ | ⟨hw,hs⟩
  ·rw [if_pos hw];exact hs a w hk hH.wd K fun w' hw'=>hK _ w' hv hw' fun _ _ _ _ _ _ h=>h
  ·rw [if_neg (by rw [hw];decide)];rw [hs] at hv;exact hK _ w hv hH.wd fun _ _ _ _ _ _ h=>h
 ·have hH':Held xs.toArray (fun i v _=>vals[i]? = some v) (fun _ w=>Wd w) a0 done a w:=⟨hH.wd,hH.size,hH.defers,hH.closed,hH.old,hH.fact⟩;rw [held_putAll hl (of_decide_eq_true h2) hin hd hH'];exact fin w hH.wd
end
end Go
end
section
/- A region that draws its order,whose operations may bear guards and yield known values,and whose last one,which yields nothing,waits for all others. -/
namespace Go
theorem zip_take_left {α β:Type}:∀ (xs:List α) (ys:List β) (m:Nat),ys.length <= m -> (xs.take m).zip ys = xs.zip ys
 | [],_,m,_=>by simp
 | _ :: _,[],m,_=>by simp
 | x :: xs,y :: ys,0,h=>by simp at h
 | x :: xs,y :: ys,m + 1,h=>by
  rw [List.take_succ_cons,List.zip_cons_cons,List.zip_cons_cons,zip_take_left xs ys m (by simpa using h)]
section
variable {P:Program} {Q:Exit -> Act -> World -> Prop} {a0:Act}
end
end Go
end
section
/- A region that draws its order among its first operations,whose values are known,and ends in a chain,in the order of the text. -/
namespace Go
theorem wpAny_more {P:Program} {md:Region.Mode} {ops:Array Oper} {Q:Exit -> Act -> World -> Prop}:∀ (k:Nat) (listed:Array Bool) (a:Act) (w:World),wpAny P md ops Q k listed a w -> wpAny P md ops Q (k + 1) listed a w
 | 0,_,_,_,h=>⟨fun _=>h.2,fun i hi=>by rw [h.1] at hi;cases hi⟩
 | k + 1,_,_,_,h=>⟨h.1,fun i hi=>wpOp_mono (fun a w=>wpAny_more k _ a w) (h.2 i hi)⟩
theorem wpAny_up {P:Program} {md:Region.Mode} {ops:Array Oper} {Q:Exit -> Act -> World -> Prop} {k k':Nat} (hk:k <= k') {listed:Array Bool} {a:Act} {w:World} (h:wpAny P md ops Q k listed a w):wpAny P md ops Q k' listed a w:=by
 obtain ⟨d,rfl⟩:=Nat.exists_eq_add_of_le hk
 induction d with
 | zero=>exact h
 | succ d ih=>exact wpAny_more _ _ _ _ (ih (by omega))
def tailB (xs:List Oper) (m:Nat):Bool :=
 decide (m < xs.length) && ((List.range m).all fun j=>(List.range (m + 1)).any fun k=>decide (j < k) && (match xs[k]? with | some o=>(Region.preds o).contains j | none=>false)) &&
 ((List.range xs.length).all fun i=>decide (i <= m) || (match xs[i]? with | some o=>(Region.preds o).any fun k=>decide (m <= k) && decide (k < i) | none=>true)) &&
 Region.seqB .any xs.toArray (xs.length - m) m ((List.range xs.length).map fun j=>decide (j < m)).toArray
section
variable {P:Program} {Q:Exit -> Act -> World -> Prop} {a0:Act}
theorem all_before {xs:List Oper} {m:Nat} {Fact:(Nat -> Bool) -> Nat -> Value -> World -> Prop} {Wd:(Nat -> Bool) -> Act -> World -> Prop} {done:Nat -> Bool} {a:Act} {w:World} (h:HeldG xs.toArray Fact Wd a0 done a w)
  (hT:((List.range m).all fun j=>(List.range (m + 1)).any fun k=>decide (j < k) && (match xs[k]? with | some o=>(Region.preds o).contains j | none=>false)) = true)
  {om:Oper} (hom:xs[m]? = some om) (hp:∀ j ∈ Region.preds om,done j = true):∀ j,j < m -> done j = true:=by
 have key:∀ d j,j + d = m -> 0 < d -> done j = true:=by
  intro d
  induction d using Nat.strongRecOn with
  | _ d ih =>
   intro j hj hd;have h1:=List.all_eq_true.1 hT j (List.mem_range.2 (by omega));obtain ⟨k,hk,h2⟩:=List.any_eq_true.1 h1;rw [List.mem_range] at hk;rw [Bool.and_eq_true,decide_eq_true_eq] at h2;obtain ⟨hjk,h3⟩:=h2
   cases ho:xs[k]? with
   | none=>rw [ho] at h3;cases h3
   | some o =>
    rw [ho] at h3;have hm:j ∈ Region.preds o:=by simpa using h3
    by_cases e:k = m
    ·subst e;rw [hom] at ho;cases ho;exact hp j hm
    ·exact h.closed k o (by simpa using ho) (ih (m - k) (by omega) k (by omega) (by omega)) j hm
 exact fun j hj=>key (m - j) j (by omega) (by omega)
theorem listed_eq {n m:Nat} {listed:Array Bool} (hs:listed.size = n) (h1:∀ j,j < m -> dn listed j = true) (h2:∀ j,m <= j -> dn listed j = false):listed = ((List.range n).map fun j=>decide (j < m)).toArray:=by
 apply Array.ext
 ·simp [hs]
 ·intro i hi hi';have:dn listed i = listed[i]:=by unfold dn;simp [Array.getD_eq_getD_getElem?,Array.getElem?_eq_getElem hi]
  rw [<- this];simp only [List.getElem_toArray,List.getElem_map,List.getElem_range];by_cases e:i < m
  ·rw [h1 i e,decide_eq_true e]
  ·rw [h2 i (by omega),decide_eq_false e]
theorem any_valsT {xs:List Oper} (m n:Nat) (hn:a0.tmps.size = n) (hB:factsGB xs n = true) (hG:guardsB xs = true) (hT:tailB xs m = true) (vals:List Value) (hl:vals.length = m) (Wd:(Nat -> Bool) -> World -> Prop)
  (step:∀ (i:Nat) (o:Oper) (v:Value),xs[i]? = some o -> vals[i]? = some v -> wantedV vals o = true /\ (∀ (done:Nat -> Bool) (a:Act) (w:World),done i = false -> (∀ j ∈ Region.preds o,done j = true) -> Knows xs vals a0 i a -> Wd done w -> ∀ K:Act -> World -> Prop,(∀ w',Wd (Go.upd done i) w' -> K (a.put o.dst v) w') -> Oper.wp P o a w K Q) \/ wantedV vals o = false /\ v = undef /\ (∀ done w,Wd done w -> Wd (Go.upd done i) w))
  (fin:∀ done w,(∀ j,j < m -> done j = true) -> Wd done w -> wpList P xs.toArray Q (xs.drop m) (putAll a0 (xs.zip vals)) w) :
  ∀ (fuel:Nat) (listed:Array Bool) (a:Act) (w:World),listed.size = xs.toArray.size -> HeldG xs.toArray (fun _ i v _=>vals[i]? = some v) (fun done _ w=>Wd done w) a0 (dn listed) a w -> (∀ j,m <= j -> dn listed j = false) -> (unl xs.toArray (dn listed)).length <= fuel -> wpAny P .any xs.toArray Q fuel listed a w:=by
 have hT':=hT;unfold tailB at hT';rw [Bool.and_eq_true,Bool.and_eq_true,Bool.and_eq_true,decide_eq_true_eq] at hT';obtain ⟨⟨⟨hmx,t1⟩,t2⟩,t3⟩:=hT';have hB':=hB;unfold factsGB at hB';rw [Bool.and_eq_true,Bool.and_eq_true] at hB';obtain ⟨⟨h2,h3⟩,h4⟩:=hB'
 have hin:∀ o ∈ xs,∀ s,o.dst = some s -> s < a0.tmps.size:=fun o ho s hs=>by
  have:=List.all_eq_true.1 h3 o ho;rw [hs] at this;rw [hn];simpa using this
 have hdst:∀ (i j:Nat) (oi oj:Oper) (s:Nat),xs.toArray[i]? = some oi -> xs.toArray[j]? = some oj -> oi.dst = some s -> oj.dst = some s -> i = j:=fun i j oi oj s hi hj=>nodup_dst (of_decide_eq_true h2) i j oi oj s (by simpa using hi) (by simpa using hj)
 have hin':∀ (i:Nat) (o:Oper) (s:Nat),xs.toArray[i]? = some o -> o.dst = some s -> s < a0.tmps.size:=fun i o s ho=>hin o (List.mem_of_getElem? (by simpa using ho)) s
 have hzl:(xs.take m).zip vals = xs.zip vals:=zip_take_left xs vals m (by omega)
 have tail:∀ (listed:Array Bool) (a:Act) (w:World),listed.size = xs.toArray.size -> HeldG xs.toArray (fun _ i v _=>vals[i]? = some v) (fun done _ w=>Wd done w) a0 (dn listed) a w -> (∀ j,m <= j -> dn listed j = false) -> (∀ j,j < m -> dn listed j = true) -> wpAny P .any xs.toArray Q (xs.length - m) listed a w:=by
  intro listed a w hs hH hlo hall
  have ea:a = putAll a0 (xs.zip vals):=by
   rw [<- hzl]
   have hfm:∀ s,s ∈ (xs.take m).filterMap (·.dst) -> s ∈ xs.filterMap (·.dst):=fun s h=>by
    obtain ⟨o,ho,he⟩:=List.mem_filterMap.1 h;exact List.mem_filterMap.2 ⟨o,List.mem_of_mem_take ho,he⟩
   refine held_putAll (xs:=xs.take m) (vals:=vals) (Wd:=fun _ _=>True) (done:=dn listed) (w:=w) (by rw [List.length_take];omega) ?_ (fun o ho=>hin o (List.mem_of_mem_take ho)) (fun i hi=>hall i (by rw [List.length_take] at hi;omega)) ?_
   ·exact (of_decide_eq_true h2).sublist ((List.take_sublist m xs).filterMap _)
   ·refine ⟨trivial,hH.size,hH.defers,fun i o ho hd j hj=>?_,fun s hs'=>?_,fun i o s ho hs' hd=>?_⟩
    ·have ho':(xs.take m)[i]? = some o:=by simpa using ho
     rw [List.getElem?_take] at ho';split at ho'
     ·exact hH.closed i o (by simpa using ho') hd j hj
     ·cases ho'
    ·refine hH.old s fun k ok hk he=>?_
     by_cases hkm:k < m
     ·exact hs' k ok (by rw [List.getElem?_toArray,List.getElem?_take,if_pos hkm];simpa using hk) he
     ·exact hlo k (by omega)
    ·have ho':(xs.take m)[i]? = some o:=by simpa using ho
     rw [List.getElem?_take] at ho';split at ho'
     ·exact hH.fact i o s (by simpa using ho') hs' hd
     ·cases ho'
  have hseq:Region.seqB .any xs.toArray (xs.drop m).length m listed = true:=by
   rw [List.length_drop,listed_eq (by simpa using hs) hall hlo];exact t3
  have:=wpAny_of_seq (P:=P) (md:=.any) (ops:=xs.toArray) (Q':=Q) (xs.drop m) m listed a w (fun j=>by simp [List.getElem?_drop]) hseq (by rw [ea];exact fin _ _ hall hH.wd)
  rwa [List.length_drop] at this
 intro fuel
 induction fuel with
 | zero =>
  intro listed a w hs hH hlo hf;exfalso;have:m ∈ unl xs.toArray (dn listed):=List.mem_filter.2 ⟨List.mem_range.2 (by simpa using hmx),by simp [hlo m (Nat.le_refl _)]⟩;have hz:unl xs.toArray (dn listed) = []:=List.eq_nil_of_length_eq_zero (by omega);rw [hz] at this;cases this
 | succ fuel ih =>
  intro listed a w hs hH hlo hf;by_cases hall:∀ j,j < m -> dn listed j = true
  ·have hge:xs.length - m <= fuel + 1:=by
    have:(unl xs.toArray (dn listed)).length = xs.length - m:=by
     unfold unl
     have e:(List.range xs.toArray.size).filter (fun i=>!dn listed i) = (List.range xs.length).filter (fun i=>decide (m <= i)):=by
      rw [List.size_toArray];apply List.filter_congr;intro i _;by_cases e:i < m
      ·rw [hall i e];simp;omega
      ·rw [hlo i (by omega)];simp;omega
     rw [e]
     have hc:∀ (q:Nat),((List.range q).filter (fun i=>decide (m <= i))).length = q - m:=by
      intro q
      induction q with
      | zero=>simp
      | succ q ihq =>
       rw [List.range_succ,List.filter_append,List.length_append,ihq];by_cases e:m <= q
       ·simp [e];omega
       ·simp [e];omega
     exact hc _
    omega
   exact wpAny_up hge (tail listed a w hs hH hlo hall)
  ·refine ⟨fun hr=>?_,fun i hi=>?_⟩
   ·exact absurd (fun j hj=>all_done hs (fun i o ho j hj=>by
     have ho':xs[i]? = some o:=by simpa using ho
     have:=List.all_eq_true.1 h4 i (List.mem_range.2 (List.getElem?_eq_some_iff.1 ho').1);rw [ho'] at this;have:=List.all_eq_true.1 this j hj;simpa using this) hr j (by simp;omega)) hall
   ·obtain ⟨o,ho,hd1,hp⟩:=mem_ready' rfl hs hi;have ho':xs[i]? = some o:=by simpa using ho
    have hio:=(Array.getElem?_eq_some_iff.1 ho).1
    have him:i < m:=by
     refine Nat.lt_of_not_le fun hmi=>?_
     by_cases e:i = m
     ·subst e;exact hall (all_before hH t1 ho' hp)
     ·have h5:=List.all_eq_true.1 t2 i (List.mem_range.2 (by simpa using hio));rw [Bool.or_eq_true,decide_eq_true_eq,ho'] at h5;rcases h5 with h5 | h5
      ·omega
      ·obtain ⟨k,hk,hkk⟩:=List.any_eq_true.1 h5;rw [Bool.and_eq_true,decide_eq_true_eq,decide_eq_true_eq] at hkk;have:=hp k hk;rw [hlo k hkk.1] at this;cases this
    have hv:vals[i]? = some vals[i]:=List.getElem?_eq_getElem (by omega)
    have hk:Knows xs vals a0 i a:=⟨fun j o' s v hx hj oj hoj hs hvj=>by
     rw [ho'] at hx;cases hx;have:=hH.fact j oj s (by simpa using hoj) hs (hp j hj);rw [hvj] at this;exact (Option.some.inj this).symm,fun s hs=>hH.same (by simpa using hs)⟩
    unfold wpOp;simp only [ho]
    have next:∀ (w':World),Wd (upd (dn listed) i) w' -> wpAny P .any xs.toArray Q fuel (listed.setIfInBounds i true) (a.put o.dst vals[i]) w':=fun w' hw'=>by
     refine ih _ _ _ (by simpa using hs) ?_ (fun j hj=>?_) ?_
     ·rw [dn_set (by omega)];exact hH.put ho hd1 hp hdst hin' hv hw' fun _ _ _ _ _ _ h=>h
     ·rw [dn_set (by omega)];unfold Go.upd;rw [if_neg (by omega)];exact hlo j hj
     ·rw [dn_set (by omega)];have:=unl_lt (ops:=xs.toArray) hio hd1;omega
    rw [wanted_eq hin hH (List.mem_of_getElem? ho') hp hG];rcases step i o _ ho' hv with ⟨hw,hst⟩ | ⟨hw,hst,hst2⟩
    ·rw [if_pos hw];exact .inl (hst _ a w hd1 hp hk hH.wd _ next)
    ·rw [if_neg (by rw [hw];decide)];have:=next w (hst2 _ _ hH.wd)
     rw [hst] at this;exact this
theorem wp_region_valsT {id:Nat} {xs:List Oper} {w:World} (hm:P.follows .mixedOrders = true) (m n:Nat) (hn:a0.tmps.size = n) (hB:factsGB xs n = true) (hG:guardsB xs = true) (hT:tailB xs m = true) (vals:List Value) (hl:vals.length = m) (Wd:(Nat -> Bool) -> World -> Prop) (h0:Wd (fun _=>false) w.drew)
  (step:∀ (i:Nat) (o:Oper) (v:Value),xs[i]? = some o -> vals[i]? = some v -> wantedV vals o = true /\ (∀ (done:Nat -> Bool) (a:Act) (w:World),done i = false -> (∀ j ∈ Region.preds o,done j = true) -> Knows xs vals a0 i a -> Wd done w -> ∀ K:Act -> World -> Prop,(∀ w',Wd (Go.upd done i) w' -> K (a.put o.dst v) w') -> Oper.wp P o a w K Q) \/ wantedV vals o = false /\ v = undef /\ (∀ done w,Wd done w -> Wd (Go.upd done i) w))
  (fin:∀ done w,(∀ j,j < m -> done j = true) -> Wd done w -> wpList P xs.toArray Q (xs.drop m) (putAll a0 (xs.zip vals)) w):(Code.region id xs.toArray true).wp P Q a0 w:=by
 refine wp_region_any hm ?_
 have e0:dn (Array.replicate xs.toArray.size false) = fun _=>false:=by
  funext i
  unfold dn;rw [Array.getD_eq_getD_getElem?,Array.getElem?_replicate];split <;> rfl
 refine any_valsT m n hn hB hG hT vals hl Wd step fin _ _ _ _ (by simp) ?_ (fun j _=>by rw [e0]) ?_
 ·rw [e0];exact ⟨h0,rfl,rfl,(fun i o _ h=>by cases h),(fun s _=>rfl),(fun i o s _ _ h=>by cases h)⟩
 ·have:(unl xs.toArray (dn (Array.replicate xs.toArray.size false))).length <= (List.range xs.toArray.size).length:=List.length_filter_le _ _;simpa using this
theorem wpIn_region_valsT {id l k:Nat} {xs:List Oper} {w:World} (hm:P.follows .mixedOrders = true) (hd:noDefers xs = true) (m n:Nat) (hn:a0.tmps.size = n) (hB:factsGB xs n = true) (hG:guardsB xs = true) (hT:tailB xs m = true) (vals:List Value) (hl:vals.length = m) (Wd:(Nat -> Bool) -> World -> Prop) (h0:Wd (fun _=>false) w.drew)
  (step:∀ (i:Nat) (o:Oper) (v:Value),xs[i]? = some o -> vals[i]? = some v -> wantedV vals o = true /\ (∀ (done:Nat -> Bool) (a:Act) (w:World),done i = false -> (∀ j ∈ Region.preds o,done j = true) -> Knows xs vals a0 i a -> Wd done w -> ∀ K:Act -> World -> Prop,(∀ w',Wd (Go.upd done i) w' -> K (a.put o.dst v) w') -> Oper.wp P o a w K (OnlyN Q)) \/ wantedV vals o = false /\ v = undef /\ (∀ done w,Wd done w -> Wd (Go.upd done i) w))
  (fin:∀ done w,(∀ j,j < m -> done j = true) -> Wd done w -> wpList P xs.toArray (OnlyN Q) (xs.drop m) (putAll a0 (xs.zip vals)) w):(Code.region id xs.toArray true).wpIn (Fence.wide.inRound l) k P Q a0 w:=by
 refine wpIn_mono (wpIn_region_any hm (wpAny_in_round (by simpa using hd) OnlyN.notOut _ _ _ _ ?_)) OnlyN.imp
 have e0:dn (Array.replicate xs.toArray.size false) = fun _=>false:=by
  funext i
  unfold dn;rw [Array.getD_eq_getD_getElem?,Array.getElem?_replicate];split <;> rfl
 refine any_valsT m n hn hB hG hT vals hl Wd step fin _ _ _ _ (by simp) ?_ (fun j _=>by rw [e0]) ?_
 ·rw [e0];exact ⟨h0,rfl,rfl,(fun i o _ h=>by cases h),(fun s _=>rfl),(fun i o s _ _ h=>by cases h)⟩
 ·have:(unl xs.toArray (dn (Array.replicate xs.toArray.size false))).length <= (List.range xs.toArray.size).length:=List.length_filter_le _ _;simpa using this
theorem op_valW {P:Program} {Q:Exit -> Act -> World -> Prop} {o:Oper} {a:Act} {w w':World} {K:Act -> World -> Prop} {v:Value} (h1:(execOp a.eval o).run P w = .ok (.value v) w') (h:K (a.put o.dst v) w'):Oper.wp P o a w K Q:=by
 unfold Oper.wp;rw [h1];exact h
theorem op_skipW {P:Program} {Q:Exit -> Act -> World -> Prop} {o:Oper} {a:Act} {w w':World} {K:Act -> World -> Prop} (h1:(execOp a.eval o).run P w = .ok .skip w') (h:K (a.put o.dst undef) w'):Oper.wp P o a w K Q:=by
 unfold Oper.wp;rw [h1];exact h
end
end Go
namespace Go.Proofs
open Go
theorem op_callN {o:Oper} {a:Act} {w:World} {K:Act -> World -> Prop} {Q:Exit -> Act -> World -> Prop} {f:Nat} {fn:Func} (hf:Tryz.prog.funcs[f]? = some fn) (hn:(fn.name == "runtime.NumGoroutine") = false) (hb:fn.body.isNone = false)
  (xs:Array Operand) {tys:Array TypeId} (ho:o.op = .call { callee:=.value (.func f),args:=xs,argTypes:=tys }) {vs:Array Value} (hx:xs.map a.eval = vs) {R:Ending -> World -> Prop} (hc:Calls Tryz.prog f vs w R)
  (h:∀ e w',R e w' -> ∃ v,e = .returned v /\ K (a.put o.dst v) w'):Oper.wp Tryz.prog o a w K Q:=by
 unfold Oper.wp
 have hrun:(execOp a.eval o).run Tryz.prog w = .ok (.enter f vs) w:=by
  unfold execOp;simp only [ho,resolve,invoke,Sem.run_bind,hx];simp [go_sem];exact run_enters hf hn hb _ _
 rw [hrun,Oper.upon_enter];refine hc.mono ?_;intro e w' hr;obtain ⟨v,rfl,hk⟩:=h e w' hr;exact hk
end Go.Proofs
end
section
/- A region that draws its order among its first operations,whose values are known or left open,and ends in a chain,in the order of the text. -/
namespace Go
def wantedO (vals:List (Option Value)) (o:Oper):Bool :=
 match o.guard with
 | none=>true
 | some (j,b)=>match vals[j]? with
  | some (some (.bool x))=>x == b
  | _=>false
def guardsO (xs:List Oper) (vals:List (Option Value)):Bool:=xs.all fun o=>match o.guard with
 | none=>true
 | some (j,_)=>(Region.preds o).contains j && ((xs[j]?).bind (·.dst)).isSome && (decide (vals.length <= j) || ((vals[j]?).join).isSome)
def FactO (vals:List (Option Value)):(Nat -> Bool) -> Nat -> Value -> World -> Prop:=fun _ i v _=>∀ u,vals[i]? = some (some u) -> v = u
def fill:List (Option Value) -> List Value -> List Value
 | [],_=>[]
 | some v :: r,us=>v :: fill r us
 | none :: r,u :: us=>u :: fill r us
 | none :: r,[]=>undef :: fill r []
theorem fill_of:∀ (vals:List (Option Value)) (vs:List Value),vs.length = vals.length -> (∀ (i:Nat) (u:Value),vals[i]? = some (some u) -> vs[i]? = some u) -> ∃ us:List Value,us.length = (vals.filter (·.isNone)).length /\ vs = fill vals us
 | [],[],_,_=>⟨[],rfl,rfl⟩
 | some v :: r,x :: vs,hl,h=>by
  obtain ⟨us,h1,h2⟩:=fill_of r vs (by simpa using hl) (fun i u hu=>by simpa using h (i + 1) u (by simpa using hu));have:=h 0 v rfl;simp at this;exact ⟨us,by simpa using h1,by rw [h2,this];rfl⟩
 | none :: r,x :: vs,hl,h=>by
  obtain ⟨us,h1,h2⟩:=fill_of r vs (by simpa using hl) (fun i u hu=>by simpa using h (i + 1) u (by simpa using hu));exact ⟨x :: us,by simpa using h1,by rw [h2];rfl⟩
 | _ :: _,[],hl,_=>by simp at hl
 | [],_ :: _,hl,_=>by simp at hl
structure KnowsO (xs:List Oper) (vals:List (Option Value)) (a0:Act) (i:Nat) (a:Act):Prop where
 at_:∀ (j:Nat) (o:Oper) (s:Nat) (v:Value),xs[i]? = some o -> j ∈ Region.preds o -> ∀ oj,xs[j]? = some oj -> oj.dst = some s -> vals[j]? = some (some v) -> a.eval (.tmp s) = v
 same:∀ s:Nat,s ∉ xs.filterMap (·.dst) -> a.eval (.tmp s) = a0.eval (.tmp s)
section
variable {P:Program} {Q:Exit -> Act -> World -> Prop} {a0:Act}
theorem wanted_eqO {xs:List Oper} {vals:List (Option Value)} {Wd:(Nat -> Bool) -> Act -> World -> Prop} {done:Nat -> Bool} {a:Act} {w:World} {o:Oper} (hin:∀ o ∈ xs,∀ s,o.dst = some s -> s < a0.tmps.size)
  (h:HeldG xs.toArray (FactO vals) Wd a0 done a w) (ho:o ∈ xs) (hp:∀ j ∈ Region.preds o,done j = true) (hlo:∀ j,vals.length <= j -> done j = false) (hG:guardsO xs vals = true):Region.wanted o (yielded xs.toArray a.tmps) = wantedO vals o:=by
 have hg:=List.all_eq_true.1 hG o ho;unfold Region.wanted wantedO
 cases hgd:o.guard with
 | none=>rfl
 | some p =>
  obtain ⟨j,b⟩:=p;rw [hgd] at hg;simp only [Bool.and_eq_true,Bool.or_eq_true,decide_eq_true_eq] at hg;obtain ⟨⟨h1,h2⟩,h3⟩:=hg;have hdj':=hp j (by simpa using h1);rcases h3 with h3 | h3
  ·rw [hlo j h3] at hdj';cases hdj'
  obtain ⟨s,hs⟩:=Option.isSome_iff_exists.1 h2;obtain ⟨oj,hoj,hdj⟩:=Option.bind_eq_some_iff.1 hs;obtain ⟨u,hu⟩:=Option.isSome_iff_exists.1 h3
  have hu':vals[j]? = some (some u):=by
   cases e:vals[j]? with
   | none=>rw [e] at hu;cases hu
   | some x=>rw [e] at hu;cases x with
    | none=>cases hu
    | some y=>simp at hu;rw [hu]
  have hv:a.eval (.tmp s) = u:=h.fact j oj s (by simpa using hoj) hdj hdj' u hu';have hlt:s < a.tmps.size:=by rw [h.size];exact hin oj (List.mem_of_getElem? hoj) s hdj
  have hy:yielded xs.toArray a.tmps j = match a.eval (.tmp s) with | .bool b=>some b | _=>none:=by
   unfold yielded
   have:((xs.toArray[j]?).bind (·.dst)).bind (a.tmps[·]?) = some (a.eval (.tmp s)):=by
    rw [List.getElem?_toArray,hs,Option.bind_some];simp only [Act.eval,Array.getD_eq_getD_getElem?];rw [Array.getElem?_eq_getElem hlt];rfl
   rw [this];cases a.eval (.tmp s) <;> rfl
  simp only [hy,hu',hv];cases u <;> simp
theorem any_valsU {xs:List Oper} (m n:Nat) (hn:a0.tmps.size = n) (hB:factsGB xs n = true) (hT:tailB xs m = true) (vals:List (Option Value)) (hG:guardsO xs vals = true) (hl:vals.length = m) (Wd:(Nat -> Bool) -> Act -> World -> Prop)
  (step:∀ (i:Nat) (o:Oper) (v:Option Value),xs[i]? = some o -> vals[i]? = some v -> wantedO vals o = true /\ (∀ (done:Nat -> Bool) (a:Act) (w:World),a.tmps.size = n -> done i = false -> (∀ j ∈ Region.preds o,done j = true) -> KnowsO xs vals a0 i a -> Wd done a w -> ∀ K:Act -> World -> Prop,(∀ y w',(∀ u,v = some u -> y = u) -> Wd (Go.upd done i) (a.put o.dst y) w' -> K (a.put o.dst y) w') -> Oper.wp P o a w K Q) \/ wantedO vals o = false /\ v = some undef /\ (∀ done a w,Wd done a w -> Wd (Go.upd done i) (a.put o.dst undef) w))
  (fin:∀ done us w,us.length = (vals.filter (·.isNone)).length -> (∀ j,j < m -> done j = true) -> Wd done (putAll a0 (xs.zip (fill vals us))) w -> wpList P xs.toArray Q (xs.drop m) (putAll a0 (xs.zip (fill vals us))) w) :
  ∀ (fuel:Nat) (listed:Array Bool) (a:Act) (w:World),listed.size = xs.toArray.size -> HeldG xs.toArray (FactO vals) Wd a0 (dn listed) a w -> (∀ j,m <= j -> dn listed j = false) -> (unl xs.toArray (dn listed)).length <= fuel -> wpAny P .any xs.toArray Q fuel listed a w:=by
 have hT':=hT;unfold tailB at hT';rw [Bool.and_eq_true,Bool.and_eq_true,Bool.and_eq_true,decide_eq_true_eq] at hT';obtain ⟨⟨⟨hmx,t1⟩,t2⟩,t3⟩:=hT';have hB':=hB;unfold factsGB at hB';rw [Bool.and_eq_true,Bool.and_eq_true] at hB';obtain ⟨⟨h2',h3⟩,h4⟩:=hB'
 have hin:∀ o ∈ xs,∀ s,o.dst = some s -> s < a0.tmps.size:=fun o ho s hs=>by
  have:=List.all_eq_true.1 h3 o ho;rw [hs] at this;rw [hn];simpa using this
 have hdst:∀ (i j:Nat) (oi oj:Oper) (s:Nat),xs.toArray[i]? = some oi -> xs.toArray[j]? = some oj -> oi.dst = some s -> oj.dst = some s -> i = j:=fun i j oi oj s hi hj=>nodup_dst (of_decide_eq_true h2') i j oi oj s (by simpa using hi) (by simpa using hj)
 have hin':∀ (i:Nat) (o:Oper) (s:Nat),xs.toArray[i]? = some o -> o.dst = some s -> s < a0.tmps.size:=fun i o s ho=>hin o (List.mem_of_getElem? (by simpa using ho)) s
 have tail:∀ (listed:Array Bool) (a:Act) (w:World),listed.size = xs.toArray.size -> HeldG xs.toArray (FactO vals) Wd a0 (dn listed) a w -> (∀ j,m <= j -> dn listed j = false) -> (∀ j,j < m -> dn listed j = true) -> wpAny P .any xs.toArray Q (xs.length - m) listed a w:=by
  intro listed a w hs hH hlo hall
  obtain ⟨us,hus,ea⟩:∃ us,us.length = (vals.filter (·.isNone)).length /\ a = putAll a0 (xs.zip (fill vals us)):=by
   let vs:List Value:=(List.range m).map fun i=>match xs[i]? with | some o=>(match o.dst with | some s=>a.eval (.tmp s) | none=>((vals[i]?).join).getD undef) | none=>undef
   have hvl:vs.length = m:=by simp [vs]
   have hvg:∀ i,i < m -> vs[i]? = some (match xs[i]? with | some o=>(match o.dst with | some s=>a.eval (.tmp s) | none=>((vals[i]?).join).getD undef) | none=>undef):=fun i hi=>by simp [vs,hi]
   obtain ⟨us,h1,h2⟩:=fill_of vals vs (by omega) (fun i u hu=>by
    have him:i < m:=by rw [<- hl];exact (List.getElem?_eq_some_iff.1 hu).1
    rw [hvg i him];have hx:xs[i]? = some xs[i]:=List.getElem?_eq_getElem (by omega);rw [hx]
    cases hd:xs[i].dst with
    | none=>simp [hd,hu]
    | some s=>simp only [hd];rw [hH.fact i xs[i] s (by simpa using hx) hd (hall i him) u hu])
   refine ⟨us,h1,?_⟩;rw [<- h2];have hzl:(xs.take m).zip vs = xs.zip vs:=zip_take_left xs vs m (by omega);rw [<- hzl]
   have hfm:∀ s,s ∈ (xs.take m).filterMap (·.dst) -> s ∈ xs.filterMap (·.dst):=fun s h=>by
    obtain ⟨o,ho,he⟩:=List.mem_filterMap.1 h;exact List.mem_filterMap.2 ⟨o,List.mem_of_mem_take ho,he⟩
   refine held_putAll (xs:=xs.take m) (vals:=vs) (Wd:=fun _ _=>True) (done:=dn listed) (w:=w) (by rw [List.length_take];omega) ?_ (fun o ho=>hin o (List.mem_of_mem_take ho)) (fun i hi=>hall i (by rw [List.length_take] at hi;omega)) ?_
   ·exact (of_decide_eq_true h2').sublist ((List.take_sublist m xs).filterMap _)
   ·refine ⟨trivial,hH.size,hH.defers,fun i o ho hd j hj=>?_,fun s hs'=>?_,fun i o s ho hs' hd=>?_⟩
    ·have ho':(xs.take m)[i]? = some o:=by simpa using ho
     rw [List.getElem?_take] at ho';split at ho'
     ·exact hH.closed i o (by simpa using ho') hd j hj
     ·cases ho'
    ·refine hH.old s fun k ok hk he=>?_
     by_cases hkm:k < m
     ·exact hs' k ok (by rw [List.getElem?_toArray,List.getElem?_take,if_pos hkm];simpa using hk) he
     ·exact hlo k (by omega)
    ·have ho':(xs.take m)[i]? = some o:=by simpa using ho
     rw [List.getElem?_take] at ho';split at ho'
     ·rename_i him
      show vs[i]? = some _;rw [hvg i him,ho'];simp only [hs']
     ·cases ho'
  have hseq:Region.seqB .any xs.toArray (xs.drop m).length m listed = true:=by
   rw [List.length_drop,listed_eq (by simpa using hs) hall hlo];exact t3
  have:=wpAny_of_seq (P:=P) (md:=.any) (ops:=xs.toArray) (Q':=Q) (xs.drop m) m listed a w (fun j=>by simp [List.getElem?_drop]) hseq (by rw [ea];exact fin _ _ _ hus hall (by rw [<- ea];exact hH.wd))
  rwa [List.length_drop] at this
 intro fuel
 induction fuel with
 | zero =>
  intro listed a w hs hH hlo hf;exfalso;have:m ∈ unl xs.toArray (dn listed):=List.mem_filter.2 ⟨List.mem_range.2 (by simpa using hmx),by simp [hlo m (Nat.le_refl _)]⟩;have hz:unl xs.toArray (dn listed) = []:=List.eq_nil_of_length_eq_zero (by omega);rw [hz] at this;cases this
 | succ fuel ih =>
  intro listed a w hs hH hlo hf;by_cases hall:∀ j,j < m -> dn listed j = true
  ·have hge:xs.length - m <= fuel + 1:=by
    have:(unl xs.toArray (dn listed)).length = xs.length - m:=by
     unfold unl
     have e:(List.range xs.toArray.size).filter (fun i=>!dn listed i) = (List.range xs.length).filter (fun i=>decide (m <= i)):=by
      rw [List.size_toArray];apply List.filter_congr;intro i _;by_cases e:i < m
      ·rw [hall i e];simp;omega
      ·rw [hlo i (by omega)];simp;omega
     rw [e]
     have hc:∀ (q:Nat),((List.range q).filter (fun i=>decide (m <= i))).length = q - m:=by
      intro q
      induction q with
      | zero=>simp
      | succ q ihq =>
       rw [List.range_succ,List.filter_append,List.length_append,ihq];by_cases e:m <= q
       ·simp [e];omega
       ·simp [e];omega
     exact hc _
    omega
   exact wpAny_up hge (tail listed a w hs hH hlo hall)
  ·refine ⟨fun hr=>?_,fun i hi=>?_⟩
   ·exact absurd (fun j hj=>all_done hs (fun i o ho j hj=>by
     have ho':xs[i]? = some o:=by simpa using ho
     have:=List.all_eq_true.1 h4 i (List.mem_range.2 (List.getElem?_eq_some_iff.1 ho').1);rw [ho'] at this;have:=List.all_eq_true.1 this j hj;simpa using this) hr j (by simp;omega)) hall
   ·obtain ⟨o,ho,hd1,hp⟩:=mem_ready' rfl hs hi;have ho':xs[i]? = some o:=by simpa using ho
    have hio:=(Array.getElem?_eq_some_iff.1 ho).1
    have him:i < m:=by
     refine Nat.lt_of_not_le fun hmi=>?_
     by_cases e:i = m
     ·subst e;exact hall (all_before hH t1 ho' hp)
     ·have h5:=List.all_eq_true.1 t2 i (List.mem_range.2 (by simpa using hio));rw [Bool.or_eq_true,decide_eq_true_eq,ho'] at h5;rcases h5 with h5 | h5
      ·omega
      ·obtain ⟨k,hk,hkk⟩:=List.any_eq_true.1 h5;rw [Bool.and_eq_true,decide_eq_true_eq,decide_eq_true_eq] at hkk;have:=hp k hk;rw [hlo k hkk.1] at this;cases this
    have hv:vals[i]? = some vals[i]:=List.getElem?_eq_getElem (by omega)
    have hk:KnowsO xs vals a0 i a:=⟨fun j o' s v hx hj oj hoj hs hvj=>by
     rw [ho'] at hx;cases hx;exact hH.fact j oj s (by simpa using hoj) hs (hp j hj) v hvj,fun s hs=>hH.same (by simpa using hs)⟩
    unfold wpOp;simp only [ho]
    have next:∀ (y:Value) (w':World),(∀ u,vals[i] = some u -> y = u) -> Wd (upd (dn listed) i) (a.put o.dst y) w' -> wpAny P .any xs.toArray Q fuel (listed.setIfInBounds i true) (a.put o.dst y) w':=fun y w' hy hw'=>by
     refine ih _ _ _ (by simpa using hs) ?_ (fun j hj=>?_) ?_
     ·rw [dn_set (by omega)];exact hH.put ho hd1 hp hdst hin' (fun u hu=>hy u (by rw [hv] at hu;exact Option.some.inj hu)) hw' fun _ _ _ _ _ _ h=>h
     ·rw [dn_set (by omega)];unfold Go.upd;rw [if_neg (by omega)];exact hlo j hj
     ·rw [dn_set (by omega)];have:=unl_lt (ops:=xs.toArray) hio hd1;omega
    rw [wanted_eqO hin hH (List.mem_of_getElem? ho') hp (fun j hj=>hlo j (by omega)) hG];rcases step i o _ ho' hv with ⟨hw,hst⟩ | ⟨hw,hst,hst2⟩
    ·rw [if_pos hw];exact .inl (hst _ a w (by rw [hH.size];exact hn) hd1 hp hk hH.wd _ next)
    ·rw [if_neg (by rw [hw];decide)];exact next undef w (fun u hu=>by rw [hst] at hu;exact Option.some.inj hu) (hst2 _ _ _ hH.wd)
theorem wp_region_valsU {id:Nat} {xs:List Oper} {w:World} (hm:P.follows .mixedOrders = true) (m n:Nat) (hn:a0.tmps.size = n) (hB:factsGB xs n = true) (hT:tailB xs m = true) (vals:List (Option Value)) (hG:guardsO xs vals = true) (hl:vals.length = m) (Wd:(Nat -> Bool) -> Act -> World -> Prop) (h0:Wd (fun _=>false) a0 w.drew)
  (step:∀ (i:Nat) (o:Oper) (v:Option Value),xs[i]? = some o -> vals[i]? = some v -> wantedO vals o = true /\ (∀ (done:Nat -> Bool) (a:Act) (w:World),a.tmps.size = n -> done i = false -> (∀ j ∈ Region.preds o,done j = true) -> KnowsO xs vals a0 i a -> Wd done a w -> ∀ K:Act -> World -> Prop,(∀ y w',(∀ u,v = some u -> y = u) -> Wd (Go.upd done i) (a.put o.dst y) w' -> K (a.put o.dst y) w') -> Oper.wp P o a w K Q) \/ wantedO vals o = false /\ v = some undef /\ (∀ done a w,Wd done a w -> Wd (Go.upd done i) (a.put o.dst undef) w))
  (fin:∀ done us w,us.length = (vals.filter (·.isNone)).length -> (∀ j,j < m -> done j = true) -> Wd done (putAll a0 (xs.zip (fill vals us))) w -> wpList P xs.toArray Q (xs.drop m) (putAll a0 (xs.zip (fill vals us))) w):(Code.region id xs.toArray true).wp P Q a0 w:=by
 refine wp_region_any hm ?_
 have e0:dn (Array.replicate xs.toArray.size false) = fun _=>false:=by
  funext i
  unfold dn;rw [Array.getD_eq_getD_getElem?,Array.getElem?_replicate];split <;> rfl
 refine any_valsU m n hn hB hT vals hG hl Wd step fin _ _ _ _ (by simp) ?_ (fun j _=>by rw [e0]) ?_
 ·rw [e0];exact ⟨h0,rfl,rfl,(fun i o _ h=>by cases h),(fun s _=>rfl),(fun i o s _ _ h=>by cases h)⟩
 ·have:(unl xs.toArray (dn (Array.replicate xs.toArray.size false))).length <= (List.range xs.toArray.size).length:=List.length_filter_le _ _;simpa using this
end
end Go
end
section
/- A set at work: its 434 cells,told by how far sheets lie apart and by which legs. -/
namespace Go.Proofs
open Go.RowKit
def apL (ap:Nat -> Int):List Value:=(List.range 144).map fun i=>Value.int .i64 (ap i)
def legC (g:Nat × Bool) (j:Nat):Value:=if j % 2 = 0 then .int .i64 (g.1:Nat) else .bool g.2
def byL (bf:Nat -> Nat × Bool):List Value:=(List.range 288).map fun j=>legC (bf (j / 2)) j
theorem apL_len (ap:Nat -> Int):(apL ap).length = 144:=by unfold apL;rw [List.length_map,List.length_range]
theorem byL_len (bf:Nat -> Nat × Bool):(byL bf).length = 288:=by unfold byL;rw [List.length_map,List.length_range]
theorem apL_get (ap:Nat -> Int) {i:Nat} (h:i < 144):(apL ap)[i]? = some (.int .i64 (ap i)):=by unfold apL;rw [List.getElem?_map,List.getElem?_range h];rfl
theorem byL_get (bf:Nat -> Nat × Bool) {i:Nat} (h:i < 288):(byL bf)[i]? = some (legC (bf (i / 2)) i):=by unfold byL;rw [List.getElem?_map,List.getElem?_range h];rfl
def updF {α:Type} (f:Nat -> α) (c:Nat) (x:α):Nat -> α:=fun i=>if i = c then x else f i
theorem apL_set (ap:Nat -> Int) {n:Nat} (h:n < 144) (x:Int):(apL ap).set n (.int .i64 x) = apL (updF ap n x):=by
 apply List.ext_getElem?;intro i;rw [List.getElem?_set];by_cases hi:i < 144
 ·rw [apL_get _ hi,apL_get _ hi,apL_len];unfold updF;by_cases e:n = i
  ·subst e;simp [h]
  ·rw [if_neg e,if_neg (by omega)]
 ·rw [if_neg (by omega),List.getElem?_eq_none (by rw [apL_len];omega),List.getElem?_eq_none (by rw [apL_len];omega)]
theorem byL_set (bf:Nat -> Nat × Bool) {n:Nat} (h:n < 144) (g:Nat × Bool):((byL bf).set (2 * n) (.int .i64 (g.1:Nat))).set (2 * n + 1) (.bool g.2) = byL (updF bf n g):=by
 apply List.ext_getElem?;intro i;rw [List.getElem?_set,List.getElem?_set,List.length_set];by_cases hi:i < 288
 ·rw [byL_get _ hi,byL_get _ hi,byL_len];unfold updF legC;by_cases e1:2 * n + 1 = i
  ·subst e1;rw [if_pos rfl,if_pos (by omega),if_pos (show (2 * n + 1) / 2 = n by omega),if_neg (by omega)]
  ·rw [if_neg e1];by_cases e2:2 * n = i
   ·subst e2;rw [if_pos rfl,if_pos (by omega),if_pos (show 2 * n / 2 = n by omega),if_pos (by omega)]
   ·rw [if_neg e2,if_neg (show ¬ i / 2 = n by omega)]
 ·rw [if_neg (by omega),if_neg (by omega),List.getElem?_eq_none (by rw [byL_len];omega),List.getElem?_eq_none (by rw [byL_len];omega)]
def workL (n:Int) (sl:Value) (ap:Nat -> Int) (bf:Nat -> Nat × Bool):List Value:=[.int .i64 n,sl] ++ (apL ap ++ byL bf)
def workC (n:Int) (sl:Value) (ap:Nat -> Int) (bf:Nat -> Nat × Bool):Array Value:=(workL n sl ap bf).toArray
section
variable (n:Int) (sl:Value) (ap:Nat -> Int) (bf:Nat -> Nat × Bool)
theorem workC_0:(workC n sl ap bf)[0]? = some (.int .i64 n):=rfl
theorem workC_1:(workC n sl ap bf)[1]? = some sl:=rfl
theorem workC_ap {i:Nat} (h:i < 144):(workC n sl ap bf)[2 + i]? = some (.int .i64 (ap i)):=by
 unfold workC workL;rw [List.getElem?_toArray,List.getElem?_append_right (by simp <;> omega),List.getElem?_append_left (by rw [apL_len];simp <;> omega)];rw [show 2 + i - [Value.int .i64 n,sl].length = i by simp];exact apL_get ap h
theorem workC_by {i:Nat} (h:i < 288):(workC n sl ap bf)[146 + i]? = some (legC (bf (i / 2)) i):=by
 unfold workC workL;rw [List.getElem?_toArray,List.getElem?_append_right (by simp <;> omega),List.getElem?_append_right (by rw [apL_len];simp <;> omega)];rw [show 146 + i - [Value.int .i64 n,sl].length - (apL ap).length = i by rw [apL_len];simp <;> omega];exact byL_get bf h
theorem workC_leg {i:Nat} (h:i < 144):(workC n sl ap bf)[146 + 2 * i]? = some (.int .i64 ((bf i).1:Nat)) /\ (workC n sl ap bf)[146 + 2 * i + 1]? = some (.bool (bf i).2):=by
 have h1:=workC_by n sl ap bf (i:=2 * i) (by omega);have h2:=workC_by n sl ap bf (i:=2 * i + 1) (by omega);rw [show 2 * i / 2 = i by omega] at h1;rw [show (2 * i + 1) / 2 = i by omega] at h2;unfold legC at h1 h2;rw [if_pos (by omega)] at h1;rw [if_neg (by omega)] at h2;exact ⟨h1,h2⟩
theorem workC_setAp {i:Nat} (h:i < 144) (x:Int):(workC n sl ap bf).setIfInBounds (2 + i) (.int .i64 x) = workC n sl (updF ap i x) bf:=by
 unfold workC workL;rw [List.setIfInBounds_toArray,List.set_append_right _ _ (by simp <;> omega),List.set_append_left _ _ (by rw [apL_len];simp <;> omega)];rw [show 2 + i - [Value.int .i64 n,sl].length = i by simp,apL_set ap h]
theorem workC_setBy {i:Nat} (h:i < 144) (g:Nat × Bool):((workC n sl ap bf).setIfInBounds (146 + 2 * i) (.int .i64 (g.1:Nat))).setIfInBounds (146 + 2 * i + 1) (.bool g.2) = workC n sl ap (updF bf i g):=by
 unfold workC workL;rw [List.setIfInBounds_toArray,List.setIfInBounds_toArray,List.set_append_right _ _ (by simp <;> omega),List.set_append_right _ _ (by simp <;> omega),
  List.set_append_right _ _ (by rw [apL_len];simp <;> omega),List.set_append_right _ _ (by rw [apL_len];simp <;> omega)]
 rw [show 146 + 2 * i - [Value.int .i64 n,sl].length - (apL ap).length = 2 * i by rw [apL_len];simp <;> omega,show 146 + 2 * i + 1 - [Value.int .i64 n,sl].length - (apL ap).length = 2 * i + 1 by rw [apL_len];simp <;> omega,byL_set bf h]
end
end Go.Proofs
end
section
/- Walks: Check,opened. -/
namespace Go.Proofs
open Go.RowKit
attribute [local go_sem] Oper.semAt_some
structure SetL where
 n:Int
 J:List Q4
def okJ (n:Int) (j:Q4):Bool:=fromB j.a 0 (n - 1) && fromB j.b 0 (n - 1) && (j.a != j.b)
def numJ (j:Q4):Bool:=fromB j.x (-1000000) 1000000 && fromB j.y (-1000000) 1000000
def setE (S:SetL):Int :=
 if !fromB S.n 1 12 || decide (40 < S.J.length) then 3 else if !S.J.all (okJ S.n) then 2 else if !S.J.all numJ then 4 else 0
theorem setE_count {S:SetL} (h:fromB S.n 1 12 = false \/ 40 < S.J.length):setE S = 3:=by
 unfold setE;rw [if_pos];rcases h with h | h <;> simp [h]
theorem setE_arg {S:SetL} (h:fromB S.n 1 12 = true) (h1:¬ 40 < S.J.length) (h2:S.J.all (okJ S.n) = false):setE S = 2:=by
 unfold setE;rw [if_neg (by simp [h];omega),if_pos (by rw [h2];rfl)]
theorem setE_value {S:SetL} (h:fromB S.n 1 12 = true) (h1:¬ 40 < S.J.length) (h2:S.J.all (okJ S.n) = true) (h3:S.J.all numJ = false):setE S = 4:=by
 unfold setE;rw [if_neg (by simp [h];omega),if_neg (by rw [h2];simp),if_pos (by rw [h3];rfl)]
theorem setE_fine {S:SetL} (h:fromB S.n 1 12 = true) (h1:¬ 40 < S.J.length) (h2:S.J.all (okJ S.n) = true) (h3:S.J.all numJ = true):setE S = 0:=by
 unfold setE;rw [if_neg (by simp [h];omega),if_neg (by rw [h2];simp),if_neg (by rw [h3];simp)]
theorem sheet98 (n m:Int) (sl:Value) (b:Nat) (w:World) (hn:1 <= n /\ n <= 12) (hb:Blk w b 24 #[.int .i64 n,sl]) :
  Calls Tryz.prog 72 #[.int .i64 m,.pointer (some ⟨b,0,none⟩)] w fun e w'=>e = .returned (.bool (fromB m 0 (n - 1))) /\ w = w':=by
 have k0:w.cell? ⟨b,0,none⟩ = some (.int .i64 n):=hb.cell 0;have hlt:=hb.lt;clear hb;go_enter Tryz.func72,Tryz.ntmps72;go_wp2_with (go_at_call 33;refine (in_any _ _ _ _).mono ?_;rintro e w' ⟨rfl,rfl⟩)
 go_ret;exact ⟨rfl,rfl⟩
set_option maxHeartbeats 1000000 in
theorem check2_any (n:Int) (j:Q4) (sl:Value) (b f:Nat) (w:World) (hn:1 <= n /\ n <= 12) (hb:Blk w b 24 #[.int .i64 n,sl]) (hf:Blk w f 150 #[.func (.func 72) #[] #[.pointer (some ⟨b,0,none⟩)]]) :
  Calls Tryz.prog 74 #[.agg #[.int .i64 j.a,.int .i64 j.b,.int .i64 j.x,.int .i64 j.y],.pointer (some ⟨f,0,none⟩)] w fun e w'=>e = .returned (.bool (okJ n j)) /\ Aft w w':=by
 have k0:w.cell? ⟨f,0,none⟩ = some (.func (.func 72) #[] #[.pointer (some ⟨b,0,none⟩)]):=hf.cell 0;have hlt:=hf.lt;have hlt':=hb.lt;have HS:Hid (∀ m,Calls Tryz.prog 72 #[.int .i64 m,.pointer (some ⟨b,0,none⟩)] (w.alloc (.cells #[.int .i64 j.a,.int .i64 j.b,.int .i64 j.x,.int .i64 j.y] 72)) fun e w'=>e = .returned (.bool (fromB m 0 (n - 1))) /\ (w.alloc (.cells #[.int .i64 j.a,.int .i64 j.b,.int .i64 j.x,.int .i64 j.y] 72)) = w') :=
  Lib.hid fun m=>sheet98 n m sl b _ hn (hb.alloc _)
 clear hb hf;obtain ⟨a,b',x,y⟩:=j;dsimp only at HS;unfold okJ;dsimp only;go_enter Tryz.func74,Tryz.ntmps74;cases h1:fromB a 0 (n - 1)
 ·have H1:=Lib.hid h1;clear h1;go_wp2_with (go_at_call 72;refine (HS.out _).mono ?_;rintro e w' ⟨rfl,rfl⟩;rw [H1.out])
  go_ret;exact ⟨rfl,Aft.alloc _ _⟩
 ·have H1:=Lib.hid h1;clear h1;cases h2:fromB b' 0 (n - 1)
  ·have H2:=Lib.hid h2;clear h2;go_wp2_with (first | (go_at_call_of 72 (Value.int IntKind.i64 a);refine (HS.out a).mono ?_;rintro e w' ⟨rfl,rfl⟩;rw [H1.out]) | (go_at_call_of 72 (Value.int IntKind.i64 b');refine (HS.out b').mono ?_;rintro e w' ⟨rfl,rfl⟩;rw [H2.out]))
   go_ret;exact ⟨rfl,Aft.alloc _ _⟩
  ·have H2:=Lib.hid h2;clear h2;go_wp2_with (first | (go_at_call_of 72 (Value.int IntKind.i64 a);refine (HS.out a).mono ?_;rintro e w' ⟨rfl,rfl⟩;rw [H1.out]) | (go_at_call_of 72 (Value.int IntKind.i64 b');refine (HS.out b').mono ?_;rintro e w' ⟨rfl,rfl⟩;rw [H2.out]))
   go_ret;exact ⟨rfl,Aft.alloc _ _⟩
set_option maxHeartbeats 1000000 in
theorem check3_any (j:Q4) (w:World) :
  Calls Tryz.prog 75 #[.agg #[.int .i64 j.a,.int .i64 j.b,.int .i64 j.x,.int .i64 j.y]] w fun e w'=>e = .returned (.bool (numJ j)) /\ Aft w w':=by
 obtain ⟨a,b,x,y⟩:=j;unfold numJ;dsimp only;go_enter Tryz.func75,Tryz.ntmps75;cases h1:fromB x (-1000000) 1000000
 ·have H1:=Lib.hid h1;clear h1;go_wp2_with (go_at_call 33;refine (in_any _ _ _ _).mono ?_;rintro e w' ⟨rfl,rfl⟩;rw [H1.out])
  go_ret;exact ⟨rfl,Aft.alloc _ _⟩
 ·have H1:=Lib.hid h1;clear h1;go_wp2_with (first | (go_at_call_of 33 (Value.int IntKind.i64 x);refine (in_any _ _ _ _).mono ?_;rintro e w' ⟨rfl,rfl⟩;rw [H1.out]) | (go_at_call_of 33 (Value.int IntKind.i64 y);refine (in_any _ _ _ _).mono ?_;rintro e w' ⟨rfl,rfl⟩))
  go_ret;exact ⟨rfl,Aft.alloc _ _⟩
theorem runs_100 (args:Array Value) (w:World):(callFunc 74 args).run Tryz.prog w = .ok (.enter 74 args) w:=by simp [go_sem]
theorem runs_101 (args:Array Value) (w:World):(callFunc 75 args).run Tryz.prog w = .ok (.enter 75 args) w:=by simp [go_sem]
theorem every_check2 (n:Int) (J:List Q4) (A:Option Addr) (c:Nat) (sl:Value) (b f:Nat) (w:World) (hA:Quads w A J) (hn:1 <= n /\ n <= 12) (hb:Blk w b 24 #[.int .i64 n,sl]) (hf:Blk w f 150 #[.func (.func 72) #[] #[.pointer (some ⟨b,0,none⟩)]]) :
  Calls Tryz.prog 73 #[.slice A J.length c,.func (.func 74) #[] #[.pointer (some ⟨f,0,none⟩)]] w fun e w'=>e = .returned (.bool (J.all (okJ n))) /\ Aft w w' :=
 everyJoint (FlatR enc4) FlatR.mono 74 [.pointer (some ⟨f,0,none⟩)] (okJ n) A J c w hA runs_100 fun x _ W ha v0 v1 v2 v3 hv u=>by
  unfold FlatR enc4 at hv;cases hv;exact check2_any n x sl b f _ hn ((hb.aft ha).lat u) ((hf.aft ha).lat u)
theorem every_check3 (J:List Q4) (A:Option Addr) (c:Nat) (w:World) (hA:Quads w A J) :
  Calls Tryz.prog 73 #[.slice A J.length c,.func (.func 75) #[] #[]] w fun e w'=>e = .returned (.bool (J.all numJ)) /\ Aft w w' :=
 everyJoint (FlatR enc4) FlatR.mono 75 [] numJ A J c w hA runs_101 fun x _ W ha v0 v1 v2 v3 hv u=>by
  unfold FlatR enc4 at hv;cases hv;exact check3_any x _
set_option maxRecDepth 100000 in
set_option maxHeartbeats 2000000 in
theorem check_any (S:SetL) (A:Option Addr) (c:Nat) (w:World) (hA:Quads w A S.J) :
  Calls Tryz.prog 24 #[.agg #[.int .i64 S.n,.slice A S.J.length c]] w fun e w'=>e = .returned (.int .i64 (setE S)) /\ Aft w w':=by
 obtain ⟨n,J⟩:=S;dsimp only at hA ⊢;have hlen:=hA.len;have h0:Aft w (w.alloc (.cells #[.int .i64 n,.slice A J.length c] 24)):=Aft.alloc _ _;have h01:=h0.then_alloc (.cells #[.func (.func 72) #[] #[.pointer (some ⟨w.heap.size,0,none⟩)]] 150);have HB:=Lib.hid ((Blk.new w 24 #[.int .i64 n,.slice A J.length c]).alloc (.cells #[.func (.func 72) #[] #[.pointer (some ⟨w.heap.size,0,none⟩)]] 150));have hf:=Blk.new (w.alloc (.cells #[.int .i64 n,.slice A J.length c] 24)) 150 #[.func (.func 72) #[] #[.pointer (some ⟨w.heap.size,0,none⟩)]];rw [World.size_alloc] at hf;have HF:=Lib.hid hf;have HA:=Lib.hid hA;have H01:=Lib.hid h01;clear hA hf h0 h01;go_enter Tryz.func24,Tryz.ntmps24;cases h1:fromB n 1 12
 ·have H1:=Lib.hid h1;have HE:=Lib.hid (setE_count (S:=⟨n,J⟩) (.inl h1));clear h1;go_wp2_with (go_at_call 33;refine (in_any _ _ _ _).mono ?_;rintro e w' ⟨rfl,rfl⟩;rw [H1.out])
  go_ret;exact ⟨ret_int HE.out.symm,H01.out⟩
 ·have hn:=fromB_iff.1 h1;have H1:=Lib.hid h1;clear h1;by_cases h2:40 < J.length
  ·have t2:decide ((40:Int) < J.length) = true:=by simp;omega
   have HE:=Lib.hid (setE_count (S:=⟨n,J⟩) (.inr h2));clear h2;go_wp2_with (go_at_call 33;refine (in_any _ _ _ _).mono ?_;rintro e w' ⟨rfl,rfl⟩;rw [H1.out])
   go_ret;exact ⟨ret_int HE.out.symm,H01.out⟩
  ·have t2:decide ((40:Int) < J.length) = false:=by simp;omega
   have H2:=Lib.hid (fun W (ha:Aft _ W)=>every_check2 n J A c _ _ _ W (HA.out.aft (H01.out.trans ha)) hn (HB.out.aft ha) (HF.out.aft ha));have H3:=Lib.hid (fun W (ha:Aft w W)=>every_check3 J A c W (HA.out.aft ha));clear hn;cases h3:J.all (okJ n)
   ·rw [h3] at H2;have HE:=Lib.hid (setE_arg (S:=⟨n,J⟩) H1.out h2 h3);clear h3 h2 H3;go_wp2_with (first | (go_at_call 33;refine (in_any _ _ _ _).mono ?_;rintro e w' ⟨rfl,rfl⟩;rw [H1.out]) | (go_at_call 73;refine (H2.out _ (Aft.refl _)).mono ?_;rintro e w' ⟨rfl,u,rfl⟩))
    go_ret;exact ⟨ret_int HE.out.symm,H01.out.then_lat _⟩
   ·rw [h3] at H2;cases h4:J.all numJ
    ·rw [h4] at H3;have HE:=Lib.hid (setE_value (S:=⟨n,J⟩) H1.out h2 h3 h4);clear h4 h3 h2;go_wp2_with (first | (go_at_call 33;refine (in_any _ _ _ _).mono ?_;rintro e w' ⟨rfl,rfl⟩;rw [H1.out]) | (go_at_call 73;(with_reducible refine (H2.out _ (Aft.refl _)).mono ?_);rintro e w' ⟨rfl,u,rfl⟩) | (go_at_call 73;refine (H3.out _ (H01.out.then_lat _)).mono ?_;rintro e w' ⟨rfl,u2,rfl⟩))
     go_ret;exact ⟨ret_int HE.out.symm,(H01.out.then_lat _).then_lat _⟩
    ·rw [h4] at H3;have HE:=Lib.hid (setE_fine (S:=⟨n,J⟩) H1.out h2 h3 h4);clear h4 h3 h2;go_wp2_with (first | (go_at_call 33;refine (in_any _ _ _ _).mono ?_;rintro e w' ⟨rfl,rfl⟩;rw [H1.out]) | (go_at_call 73;(with_reducible refine (H2.out _ (Aft.refl _)).mono ?_);rintro e w' ⟨rfl,u,rfl⟩) | (go_at_call 73;refine (H3.out _ (H01.out.then_lat _)).mono ?_;rintro e w' ⟨rfl,u2,rfl⟩))
     go_ret;exact ⟨ret_int HE.out.symm,(H01.out.then_lat _).then_lat _⟩
end Go.Proofs
end
