/- Own texts, merged: Rgt Rgu CtA CtSt WkD CtB0 CtB1. -/
import Derived.Test.YtbchfakfdikkjaaGreatS02
import Derived.Handy
import Derived.Maps.OwnSet
import Derived.DeepKeys4
set_option linter.unusedSimpArgs false
set_option linter.unusedVariables false
set_option linter.unnecessarySimpa false
section
/- A region that draws its order among its first operations,whose values are known,and ends in a chain,in the order of the text. -/
namespace Go
theorem wpAny_more {P:Program} {md:Region.Mode} {ops:Array Oper} {Q:Exit -> Act -> World -> Prop}:∀ (k:Nat) (listed:Array Bool) (a:Act) (w:World),wpAny P md ops Q k listed a w -> wpAny P md ops Q (k + 1) listed a w
 | 0,_,_,_,h=>⟨fun _=>h.2,fun i hi=>by rw [h.1] at hi;cases hi⟩
 | k + 1,_,_,_,h=>⟨h.1,fun i hi=>wpOp_mono (fun a w=>wpAny_more k _ a w) (h.2 i hi)⟩
theorem wpAny_up {P:Program} {md:Region.Mode} {ops:Array Oper} {Q:Exit -> Act -> World -> Prop} {k k':Nat} (hk:k <= k') {listed:Array Bool} {a:Act} {w:World} (h:wpAny P md ops Q k listed a w):wpAny P md ops Q k' listed a w:=by
 obtain ⟨d,rfl⟩:=Nat.exists_eq_add_of_le hk
 induction d with
 | zero=>exact h
 | succ d ih=>exact wpAny_more _ _ _ _ (ih (by omega))
def tailB (xs:List Oper) (m:Nat):Bool :=
 decide (m < xs.length) && ((List.range m).all fun j=>(List.range (m + 1)).any fun k=>decide (j < k) && (match xs[k]? with | some o=>(Region.preds o).contains j | none=>false)) &&
 ((List.range xs.length).all fun i=>decide (i <= m) || (match xs[i]? with | some o=>(Region.preds o).any fun k=>decide (m <= k) && decide (k < i) | none=>true)) &&
 Region.seqB .any xs.toArray (xs.length - m) m ((List.range xs.length).map fun j=>decide (j < m)).toArray
section
variable {P:Program} {Q:Exit -> Act -> World -> Prop} {a0:Act}
theorem all_before {xs:List Oper} {m:Nat} {Fact:(Nat -> Bool) -> Nat -> Value -> World -> Prop} {Wd:(Nat -> Bool) -> Act -> World -> Prop} {done:Nat -> Bool} {a:Act} {w:World} (h:HeldG xs.toArray Fact Wd a0 done a w)
  (hT:((List.range m).all fun j=>(List.range (m + 1)).any fun k=>decide (j < k) && (match xs[k]? with | some o=>(Region.preds o).contains j | none=>false)) = true)
  {om:Oper} (hom:xs[m]? = some om) (hp:∀ j ∈ Region.preds om,done j = true):∀ j,j < m -> done j = true:=by
 have key:∀ d j,j + d = m -> 0 < d -> done j = true:=by
  intro d
  induction d using Nat.strongRecOn with
  | _ d ih =>
   intro j hj hd;have h1:=List.all_eq_true.1 hT j (List.mem_range.2 (by omega));obtain ⟨k,hk,h2⟩:=List.any_eq_true.1 h1;rw [List.mem_range] at hk;rw [Bool.and_eq_true,decide_eq_true_eq] at h2;obtain ⟨hjk,h3⟩:=h2
   cases ho:xs[k]? with
   | none=>rw [ho] at h3;cases h3
   | some o =>
    rw [ho] at h3;have hm:j ∈ Region.preds o:=by simpa using h3
    by_cases e:k = m
    ·subst e;rw [hom] at ho;cases ho;exact hp j hm
    ·exact h.closed k o (by simpa using ho) (ih (m - k) (by omega) k (by omega) (by omega)) j hm
 exact fun j hj=>key (m - j) j (by omega) (by omega)
theorem listed_eq {n m:Nat} {listed:Array Bool} (hs:listed.size = n) (h1:∀ j,j < m -> dn listed j = true) (h2:∀ j,m <= j -> dn listed j = false):listed = ((List.range n).map fun j=>decide (j < m)).toArray:=by
 apply Array.ext
 ·simp [hs]
 ·intro i hi hi';have:dn listed i = listed[i]:=by unfold dn;simp [Array.getD_eq_getD_getElem?,Array.getElem?_eq_getElem hi]
  rw [<- this];simp only [List.getElem_toArray,List.getElem_map,List.getElem_range];by_cases e:i < m
  ·rw [h1 i e,decide_eq_true e]
  ·rw [h2 i (by omega),decide_eq_false e]
theorem any_valsT {xs:List Oper} (m n:Nat) (hn:a0.tmps.size = n) (hB:factsGB xs n = true) (hG:guardsB xs = true) (hT:tailB xs m = true) (vals:List Value) (hl:vals.length = m) (Wd:(Nat -> Bool) -> World -> Prop)
  (step:∀ (i:Nat) (o:Oper) (v:Value),xs[i]? = some o -> vals[i]? = some v -> wantedV vals o = true /\ (∀ (done:Nat -> Bool) (a:Act) (w:World),done i = false -> (∀ j ∈ Region.preds o,done j = true) -> Knows xs vals a0 i a -> Wd done w -> ∀ K:Act -> World -> Prop,(∀ w',Wd (Go.upd done i) w' -> K (a.put o.dst v) w') -> Oper.wp P o a w K Q) \/ wantedV vals o = false /\ v = undef /\ (∀ done w,Wd done w -> Wd (Go.upd done i) w))
  (fin:∀ done w,(∀ j,j < m -> done j = true) -> Wd done w -> wpList P xs.toArray Q (xs.drop m) (putAll a0 (xs.zip vals)) w) :
  ∀ (fuel:Nat) (listed:Array Bool) (a:Act) (w:World),listed.size = xs.toArray.size -> HeldG xs.toArray (fun _ i v _=>vals[i]? = some v) (fun done _ w=>Wd done w) a0 (dn listed) a w -> (∀ j,m <= j -> dn listed j = false) -> (unl xs.toArray (dn listed)).length <= fuel -> wpAny P .any xs.toArray Q fuel listed a w:=by
 have hT':=hT;unfold tailB at hT';rw [Bool.and_eq_true,Bool.and_eq_true,Bool.and_eq_true,decide_eq_true_eq] at hT';obtain ⟨⟨⟨hmx,t1⟩,t2⟩,t3⟩:=hT';have hB':=hB;unfold factsGB at hB';rw [Bool.and_eq_true,Bool.and_eq_true] at hB';obtain ⟨⟨h2,h3⟩,h4⟩:=hB'
 have hin:∀ o ∈ xs,∀ s,o.dst = some s -> s < a0.tmps.size:=fun o ho s hs=>by
  have:=List.all_eq_true.1 h3 o ho;rw [hs] at this;rw [hn];simpa using this
 have hdst:∀ (i j:Nat) (oi oj:Oper) (s:Nat),xs.toArray[i]? = some oi -> xs.toArray[j]? = some oj -> oi.dst = some s -> oj.dst = some s -> i = j:=fun i j oi oj s hi hj=>nodup_dst (of_decide_eq_true h2) i j oi oj s (by simpa using hi) (by simpa using hj)
 have hin':∀ (i:Nat) (o:Oper) (s:Nat),xs.toArray[i]? = some o -> o.dst = some s -> s < a0.tmps.size:=fun i o s ho=>hin o (List.mem_of_getElem? (by simpa using ho)) s
 have hzl:(xs.take m).zip vals = xs.zip vals:=zip_take_left xs vals m (by omega)
 have tail:∀ (listed:Array Bool) (a:Act) (w:World),listed.size = xs.toArray.size -> HeldG xs.toArray (fun _ i v _=>vals[i]? = some v) (fun done _ w=>Wd done w) a0 (dn listed) a w -> (∀ j,m <= j -> dn listed j = false) -> (∀ j,j < m -> dn listed j = true) -> wpAny P .any xs.toArray Q (xs.length - m) listed a w:=by
  intro listed a w hs hH hlo hall
  have ea:a = putAll a0 (xs.zip vals):=by
   rw [<- hzl]
   have hfm:∀ s,s ∈ (xs.take m).filterMap (·.dst) -> s ∈ xs.filterMap (·.dst):=fun s h=>by
    obtain ⟨o,ho,he⟩:=List.mem_filterMap.1 h;exact List.mem_filterMap.2 ⟨o,List.mem_of_mem_take ho,he⟩
   refine held_putAll (xs:=xs.take m) (vals:=vals) (Wd:=fun _ _=>True) (done:=dn listed) (w:=w) (by rw [List.length_take];omega) ?_ (fun o ho=>hin o (List.mem_of_mem_take ho)) (fun i hi=>hall i (by rw [List.length_take] at hi;omega)) ?_
   ·exact (of_decide_eq_true h2).sublist ((List.take_sublist m xs).filterMap _)
   ·refine ⟨trivial,hH.size,hH.defers,fun i o ho hd j hj=>?_,fun s hs'=>?_,fun i o s ho hs' hd=>?_⟩
    ·have ho':(xs.take m)[i]? = some o:=by simpa using ho
     rw [List.getElem?_take] at ho';split at ho'
     ·exact hH.closed i o (by simpa using ho') hd j hj
     ·cases ho'
    ·refine hH.old s fun k ok hk he=>?_
     by_cases hkm:k < m
     ·exact hs' k ok (by rw [List.getElem?_toArray,List.getElem?_take,if_pos hkm];simpa using hk) he
     ·exact hlo k (by omega)
    ·have ho':(xs.take m)[i]? = some o:=by simpa using ho
     rw [List.getElem?_take] at ho';split at ho'
     ·exact hH.fact i o s (by simpa using ho') hs' hd
     ·cases ho'
  have hseq:Region.seqB .any xs.toArray (xs.drop m).length m listed = true:=by
   rw [List.length_drop,listed_eq (by simpa using hs) hall hlo];exact t3
  have:=wpAny_of_seq (P:=P) (md:=.any) (ops:=xs.toArray) (Q':=Q) (xs.drop m) m listed a w (fun j=>by simp [List.getElem?_drop]) hseq (by rw [ea];exact fin _ _ hall hH.wd)
  rwa [List.length_drop] at this
 intro fuel
 induction fuel with
 | zero =>
  intro listed a w hs hH hlo hf;exfalso;have:m ∈ unl xs.toArray (dn listed):=List.mem_filter.2 ⟨List.mem_range.2 (by simpa using hmx),by simp [hlo m (Nat.le_refl _)]⟩;have hz:unl xs.toArray (dn listed) = []:=List.eq_nil_of_length_eq_zero (by omega);rw [hz] at this;cases this
 | succ fuel ih =>
  intro listed a w hs hH hlo hf;by_cases hall:∀ j,j < m -> dn listed j = true
  ·have hge:xs.length - m <= fuel + 1:=by
    have:(unl xs.toArray (dn listed)).length = xs.length - m:=by
     unfold unl
     have e:(List.range xs.toArray.size).filter (fun i=>!dn listed i) = (List.range xs.length).filter (fun i=>decide (m <= i)):=by
      rw [List.size_toArray];apply List.filter_congr;intro i _;by_cases e:i < m
      ·rw [hall i e];simp;omega
      ·rw [hlo i (by omega)];simp;omega
     rw [e]
     have hc:∀ (q:Nat),((List.range q).filter (fun i=>decide (m <= i))).length = q - m:=by
      intro q
      induction q with
      | zero=>simp
      | succ q ihq =>
       rw [List.range_succ,List.filter_append,List.length_append,ihq];by_cases e:m <= q
       ·simp [e];omega
       ·simp [e];omega
     exact hc _
    omega
   exact wpAny_up hge (tail listed a w hs hH hlo hall)
  ·refine ⟨fun hr=>?_,fun i hi=>?_⟩
   ·exact absurd (fun j hj=>all_done hs (fun i o ho j hj=>by
     have ho':xs[i]? = some o:=by simpa using ho
     have:=List.all_eq_true.1 h4 i (List.mem_range.2 (List.getElem?_eq_some_iff.1 ho').1);rw [ho'] at this;have:=List.all_eq_true.1 this j hj;simpa using this) hr j (by simp;omega)) hall
   ·obtain ⟨o,ho,hd1,hp⟩:=mem_ready' rfl hs hi;have ho':xs[i]? = some o:=by simpa using ho
    have hio:=(Array.getElem?_eq_some_iff.1 ho).1
    have him:i < m:=by
     refine Nat.lt_of_not_le fun hmi=>?_
     by_cases e:i = m
     ·subst e;exact hall (all_before hH t1 ho' hp)
     ·have h5:=List.all_eq_true.1 t2 i (List.mem_range.2 (by simpa using hio));rw [Bool.or_eq_true,decide_eq_true_eq,ho'] at h5;rcases h5 with h5 | h5
      ·omega
      ·obtain ⟨k,hk,hkk⟩:=List.any_eq_true.1 h5;rw [Bool.and_eq_true,decide_eq_true_eq,decide_eq_true_eq] at hkk;have:=hp k hk;rw [hlo k hkk.1] at this;cases this
    have hv:vals[i]? = some vals[i]:=List.getElem?_eq_getElem (by omega)
    have hk:Knows xs vals a0 i a:=⟨fun j o' s v hx hj oj hoj hs hvj=>by
     rw [ho'] at hx;cases hx;have:=hH.fact j oj s (by simpa using hoj) hs (hp j hj);rw [hvj] at this;exact (Option.some.inj this).symm,fun s hs=>hH.same (by simpa using hs)⟩
    unfold wpOp;simp only [ho]
    have next:∀ (w':World),Wd (upd (dn listed) i) w' -> wpAny P .any xs.toArray Q fuel (listed.setIfInBounds i true) (a.put o.dst vals[i]) w':=fun w' hw'=>by
     refine ih _ _ _ (by simpa using hs) ?_ (fun j hj=>?_) ?_
     ·rw [dn_set (by omega)];exact hH.put ho hd1 hp hdst hin' hv hw' fun _ _ _ _ _ _ h=>h
     ·rw [dn_set (by omega)];unfold Go.upd;rw [if_neg (by omega)];exact hlo j hj
     ·rw [dn_set (by omega)];have:=unl_lt (ops:=xs.toArray) hio hd1;omega
    rw [wanted_eq hin hH (List.mem_of_getElem? ho') hp hG];rcases step i o _ ho' hv with ⟨hw,hst⟩ | ⟨hw,hst,hst2⟩
    ·rw [if_pos hw];exact .inl (hst _ a w hd1 hp hk hH.wd _ next)
    ·rw [if_neg (by rw [hw];decide)];have:=next w (hst2 _ _ hH.wd)
     rw [hst] at this;exact this
theorem wp_region_valsT {id:Nat} {xs:List Oper} {w:World} (hm:P.follows .mixedOrders = true) (m n:Nat) (hn:a0.tmps.size = n) (hB:factsGB xs n = true) (hG:guardsB xs = true) (hT:tailB xs m = true) (vals:List Value) (hl:vals.length = m) (Wd:(Nat -> Bool) -> World -> Prop) (h0:Wd (fun _=>false) w.drew)
  (step:∀ (i:Nat) (o:Oper) (v:Value),xs[i]? = some o -> vals[i]? = some v -> wantedV vals o = true /\ (∀ (done:Nat -> Bool) (a:Act) (w:World),done i = false -> (∀ j ∈ Region.preds o,done j = true) -> Knows xs vals a0 i a -> Wd done w -> ∀ K:Act -> World -> Prop,(∀ w',Wd (Go.upd done i) w' -> K (a.put o.dst v) w') -> Oper.wp P o a w K Q) \/ wantedV vals o = false /\ v = undef /\ (∀ done w,Wd done w -> Wd (Go.upd done i) w))
  (fin:∀ done w,(∀ j,j < m -> done j = true) -> Wd done w -> wpList P xs.toArray Q (xs.drop m) (putAll a0 (xs.zip vals)) w):(Code.region id xs.toArray true).wp P Q a0 w:=by
 refine wp_region_any hm ?_
 have e0:dn (Array.replicate xs.toArray.size false) = fun _=>false:=by
  funext i
  unfold dn;rw [Array.getD_eq_getD_getElem?,Array.getElem?_replicate];split <;> rfl
 refine any_valsT m n hn hB hG hT vals hl Wd step fin _ _ _ _ (by simp) ?_ (fun j _=>by rw [e0]) ?_
 ·rw [e0];exact ⟨h0,rfl,rfl,(fun i o _ h=>by cases h),(fun s _=>rfl),(fun i o s _ _ h=>by cases h)⟩
 ·have:(unl xs.toArray (dn (Array.replicate xs.toArray.size false))).length <= (List.range xs.toArray.size).length:=List.length_filter_le _ _;simpa using this
theorem wpIn_region_valsT {id l k:Nat} {xs:List Oper} {w:World} (hm:P.follows .mixedOrders = true) (hd:noDefers xs = true) (m n:Nat) (hn:a0.tmps.size = n) (hB:factsGB xs n = true) (hG:guardsB xs = true) (hT:tailB xs m = true) (vals:List Value) (hl:vals.length = m) (Wd:(Nat -> Bool) -> World -> Prop) (h0:Wd (fun _=>false) w.drew)
  (step:∀ (i:Nat) (o:Oper) (v:Value),xs[i]? = some o -> vals[i]? = some v -> wantedV vals o = true /\ (∀ (done:Nat -> Bool) (a:Act) (w:World),done i = false -> (∀ j ∈ Region.preds o,done j = true) -> Knows xs vals a0 i a -> Wd done w -> ∀ K:Act -> World -> Prop,(∀ w',Wd (Go.upd done i) w' -> K (a.put o.dst v) w') -> Oper.wp P o a w K (OnlyN Q)) \/ wantedV vals o = false /\ v = undef /\ (∀ done w,Wd done w -> Wd (Go.upd done i) w))
  (fin:∀ done w,(∀ j,j < m -> done j = true) -> Wd done w -> wpList P xs.toArray (OnlyN Q) (xs.drop m) (putAll a0 (xs.zip vals)) w):(Code.region id xs.toArray true).wpIn (Fence.wide.inRound l) k P Q a0 w:=by
 refine wpIn_mono (wpIn_region_any hm (wpAny_in_round (by simpa using hd) OnlyN.notOut _ _ _ _ ?_)) OnlyN.imp
 have e0:dn (Array.replicate xs.toArray.size false) = fun _=>false:=by
  funext i
  unfold dn;rw [Array.getD_eq_getD_getElem?,Array.getElem?_replicate];split <;> rfl
 refine any_valsT m n hn hB hG hT vals hl Wd step fin _ _ _ _ (by simp) ?_ (fun j _=>by rw [e0]) ?_
 ·rw [e0];exact ⟨h0,rfl,rfl,(fun i o _ h=>by cases h),(fun s _=>rfl),(fun i o s _ _ h=>by cases h)⟩
 ·have:(unl xs.toArray (dn (Array.replicate xs.toArray.size false))).length <= (List.range xs.toArray.size).length:=List.length_filter_le _ _;simpa using this
theorem op_valW {P:Program} {Q:Exit -> Act -> World -> Prop} {o:Oper} {a:Act} {w w':World} {K:Act -> World -> Prop} {v:Value} (h1:(execOp a.eval o).run P w = .ok (.value v) w') (h:K (a.put o.dst v) w'):Oper.wp P o a w K Q:=by
 unfold Oper.wp;rw [h1];exact h
theorem op_skipW {P:Program} {Q:Exit -> Act -> World -> Prop} {o:Oper} {a:Act} {w w':World} {K:Act -> World -> Prop} (h1:(execOp a.eval o).run P w = .ok .skip w') (h:K (a.put o.dst undef) w'):Oper.wp P o a w K Q:=by
 unfold Oper.wp;rw [h1];exact h
theorem wpList_val {P:Program} {ops:Array Oper} {Q:Exit -> Act -> World -> Prop} {o:Oper} {rest:List Oper} {a:Act} {w w':World} {v:Value} (hgd:o.guard = none) (h1:(execOp a.eval o).run P w = .ok (.value v) w') (h:wpList P ops Q rest (a.put o.dst v) w'):wpList P ops Q (o :: rest) a w :=
 wpList_plain hgd fun K hK=>by unfold Oper.wp;rw [h1];exact hK _ _ h
theorem Oper.in_wide {n:Nat} {P:Program} {Q:Exit -> Act -> World -> Prop} {o:Oper} {a:Act} {w:World} {K:Act -> World -> Prop} (hQ:¬ LetsOut Q) (h:o.wp P a w K Q):o.wpIn Fence.wide n P a w K Q:=by
 unfold Oper.wpIn;refine ⟨fun _ _=>trivial,?_⟩;show o.uponIn _ n P a K Q ((execOp a.eval o).run P w);unfold Oper.wp at h;generalize (execOp a.eval o).run P w = r at *
 cases r with
 | ok x w' =>
  cases x <;> simp only [Oper.upon,Oper.uponIn] at h ⊢
  case value u=>exact h
  case skip=>exact h
  case defer d=>exact h
  case enter f args=>exact ⟨(fun h=>by cases h),callsIn_wide.2 h⟩
  case row r args =>
   refine ⟨(fun h=>by cases h),fun c cs _=>?_⟩;obtain ⟨v,w2,h1,h2⟩:=h c cs;exact ⟨v,w2,h1,stepsIn_wide.2 h2⟩
  all_goals exact h.elim
 | halt x w'=>cases x <;> simp only [Oper.upon,Oper.uponIn] at h ⊢ <;> first | exact h | exact h.elim
theorem Oper.wpIn_imp {F:Fence} {n:Nat} {P:Program} {Q Q':Exit -> Act -> World -> Prop} {o:Oper} {a:Act} {w:World} {K:Act -> World -> Prop} (h:o.wpIn F n P a w K Q) (hQ:∀ e a w,Q e a w -> Q' e a w):o.wpIn F n P a w K Q':=by
 unfold Oper.wpIn at h ⊢;refine ⟨h.1,?_⟩;have h2:=h.2;have hL:LetsOut Q -> LetsOut Q':=fun ⟨a,w,h⟩=>⟨a,w,hQ _ _ _ h⟩
 generalize (o.semAt F.round a.eval).run P w = r at *
 cases r with
 | ok x w' =>
  cases x <;> simp only [Oper.uponIn] at h2 ⊢
  case value u=>exact h2
  case skip=>exact h2
  case defer d=>exact h2
  case enter f args=>exact ⟨h2.1,h2.2.mono fun e w h=>by cases e <;> first | exact h | exact hQ _ _ _ h | exact hL h⟩
  case row r args=>exact h2
  case round l f t s b=>exact ⟨h2.1,h2.2.mono fun e w h=>by cases e <;> first | exact h | exact hQ _ _ _ h | exact hL h⟩
  all_goals exact h2
 | halt x w'=>cases x <;> simp only [Oper.uponIn] at h2 ⊢ <;> first | exact h2 | exact hQ _ _ _ h2
theorem wpAnyIn_more {F:Fence} {fu:Nat} {P:Program} {md:Region.Mode} {ops:Array Oper} {Q:Exit -> Act -> World -> Prop}:∀ (k:Nat) (listed:Array Bool) (a:Act) (w:World),wpAnyIn F fu P md ops Q k listed a w -> wpAnyIn F fu P md ops Q (k + 1) listed a w
 | 0,_,_,_,h=>⟨fun _=>h.2,fun i hi=>by rw [h.1] at hi;cases hi⟩
 | k + 1,_,_,_,h=>⟨h.1,fun i hi=>wpOpIn_mono (fun a w=>wpAnyIn_more k _ a w) (h.2 i hi)⟩
theorem wpAnyIn_up {F:Fence} {fu:Nat} {P:Program} {md:Region.Mode} {ops:Array Oper} {Q:Exit -> Act -> World -> Prop} {k k':Nat} (hk:k <= k') {listed:Array Bool} {a:Act} {w:World} (h:wpAnyIn F fu P md ops Q k listed a w):wpAnyIn F fu P md ops Q k' listed a w:=by
 obtain ⟨d,rfl⟩:=Nat.exists_eq_add_of_le hk
 induction d with
 | zero=>exact h
 | succ d ih=>exact wpAnyIn_more _ _ _ _ (ih (by omega))
theorem wpAnyIn_of_seq {F:Fence} {fu:Nat} (hF:∀ f,F.fn f) {P:Program} {md:Region.Mode} {ops:Array Oper} {Q:Exit -> Act -> World -> Prop}:∀ (l:List Oper) (k:Nat) (listed:Array Bool) (a:Act) (w:World),(∀ j,l[j]? = ops[k + j]?) ->
  Region.seqB md ops l.length k listed = true -> wpListIn F fu P ops Q l a w -> wpAnyIn F fu P md ops Q l.length listed a w
 | [],_,_,_,_,_,hB,h=>⟨by simpa [Region.seqB] using hB,h⟩
 | o :: l,k,listed,a,w,hl,hB,h=>by
  have h0:ops[k]? = some o:=by simpa using (hl 0).symm
  simp only [List.length_cons,Region.seqB,Bool.and_eq_true,decide_eq_true_eq] at hB;refine ⟨fun h1=>(by rw [hB.1] at h1;cases h1),fun i hi=>?_⟩;rw [hB.1] at hi;have hik:i = k:=by simpa using hi
  subst hik;have hw:wpOpIn F fu P ops Q i (wpListIn F fu P ops Q l) a w:=by unfold wpOpIn;simp only [h0];exact h
  exact wpOpIn_mono (fun a' w' h'=>wpAnyIn_of_seq hF l (i + 1) _ a' w' (fun j=>by have:=hl (j + 1);simpa [Nat.add_assoc,Nat.add_comm 1 j] using this) hB.2 h') hw
theorem any_valsTIn {F:Fence} {fu:Nat} {Q':Exit -> Act -> World -> Prop} {xs:List Oper} (hF:∀ f,F.fn f) (hlift:∀ o ∈ xs,∀ (a:Act) (w:World) (K:Act -> World -> Prop),Oper.wp P o a w K Q' -> o.wpIn F fu P a w K Q) (m n:Nat) (hn:a0.tmps.size = n) (hB:factsGB xs n = true) (hG:guardsB xs = true) (hT:tailB xs m = true) (vals:List Value) (hl:vals.length = m) (Wd:(Nat -> Bool) -> World -> Prop)
  (step:∀ (i:Nat) (o:Oper) (v:Value),xs[i]? = some o -> vals[i]? = some v -> wantedV vals o = true /\ (∀ (done:Nat -> Bool) (a:Act) (w:World),done i = false -> (∀ j ∈ Region.preds o,done j = true) -> Knows xs vals a0 i a -> Wd done w -> ∀ K:Act -> World -> Prop,(∀ w',Wd (Go.upd done i) w' -> K (a.put o.dst v) w') -> Oper.wp P o a w K Q') \/ wantedV vals o = false /\ v = undef /\ (∀ done w,Wd done w -> Wd (Go.upd done i) w))
  (fin:∀ done w,(∀ j,j < m -> done j = true) -> Wd done w -> wpListIn F fu P xs.toArray Q (xs.drop m) (putAll a0 (xs.zip vals)) w) :
  ∀ (fuel:Nat) (listed:Array Bool) (a:Act) (w:World),listed.size = xs.toArray.size -> HeldG xs.toArray (fun _ i v _=>vals[i]? = some v) (fun done _ w=>Wd done w) a0 (dn listed) a w -> (∀ j,m <= j -> dn listed j = false) -> (unl xs.toArray (dn listed)).length <= fuel -> wpAnyIn F fu P .any xs.toArray Q fuel listed a w:=by
 have hT':=hT;unfold tailB at hT';rw [Bool.and_eq_true,Bool.and_eq_true,Bool.and_eq_true,decide_eq_true_eq] at hT';obtain ⟨⟨⟨hmx,t1⟩,t2⟩,t3⟩:=hT';have hB':=hB;unfold factsGB at hB';rw [Bool.and_eq_true,Bool.and_eq_true] at hB';obtain ⟨⟨h2,h3⟩,h4⟩:=hB'
 have hin:∀ o ∈ xs,∀ s,o.dst = some s -> s < a0.tmps.size:=fun o ho s hs=>by
  have:=List.all_eq_true.1 h3 o ho;rw [hs] at this;rw [hn];simpa using this
 have hdst:∀ (i j:Nat) (oi oj:Oper) (s:Nat),xs.toArray[i]? = some oi -> xs.toArray[j]? = some oj -> oi.dst = some s -> oj.dst = some s -> i = j:=fun i j oi oj s hi hj=>nodup_dst (of_decide_eq_true h2) i j oi oj s (by simpa using hi) (by simpa using hj)
 have hin':∀ (i:Nat) (o:Oper) (s:Nat),xs.toArray[i]? = some o -> o.dst = some s -> s < a0.tmps.size:=fun i o s ho=>hin o (List.mem_of_getElem? (by simpa using ho)) s
 have hzl:(xs.take m).zip vals = xs.zip vals:=zip_take_left xs vals m (by omega)
 have tail:∀ (listed:Array Bool) (a:Act) (w:World),listed.size = xs.toArray.size -> HeldG xs.toArray (fun _ i v _=>vals[i]? = some v) (fun done _ w=>Wd done w) a0 (dn listed) a w -> (∀ j,m <= j -> dn listed j = false) -> (∀ j,j < m -> dn listed j = true) -> wpAnyIn F fu P .any xs.toArray Q (xs.length - m) listed a w:=by
  intro listed a w hs hH hlo hall
  have ea:a = putAll a0 (xs.zip vals):=by
   rw [<- hzl]
   have hfm:∀ s,s ∈ (xs.take m).filterMap (·.dst) -> s ∈ xs.filterMap (·.dst):=fun s h=>by
    obtain ⟨o,ho,he⟩:=List.mem_filterMap.1 h;exact List.mem_filterMap.2 ⟨o,List.mem_of_mem_take ho,he⟩
   refine held_putAll (xs:=xs.take m) (vals:=vals) (Wd:=fun _ _=>True) (done:=dn listed) (w:=w) (by rw [List.length_take];omega) ?_ (fun o ho=>hin o (List.mem_of_mem_take ho)) (fun i hi=>hall i (by rw [List.length_take] at hi;omega)) ?_
   ·exact (of_decide_eq_true h2).sublist ((List.take_sublist m xs).filterMap _)
   ·refine ⟨trivial,hH.size,hH.defers,fun i o ho hd j hj=>?_,fun s hs'=>?_,fun i o s ho hs' hd=>?_⟩
    ·have ho':(xs.take m)[i]? = some o:=by simpa using ho
     rw [List.getElem?_take] at ho';split at ho'
     ·exact hH.closed i o (by simpa using ho') hd j hj
     ·cases ho'
    ·refine hH.old s fun k ok hk he=>?_
     by_cases hkm:k < m
     ·exact hs' k ok (by rw [List.getElem?_toArray,List.getElem?_take,if_pos hkm];simpa using hk) he
     ·exact hlo k (by omega)
    ·have ho':(xs.take m)[i]? = some o:=by simpa using ho
     rw [List.getElem?_take] at ho';split at ho'
     ·exact hH.fact i o s (by simpa using ho') hs' hd
     ·cases ho'
  have hseq:Region.seqB .any xs.toArray (xs.drop m).length m listed = true:=by
   rw [List.length_drop,listed_eq (by simpa using hs) hall hlo];exact t3
  have:=wpAnyIn_of_seq (F:=F) (fu:=fu) hF (P:=P) (md:=.any) (ops:=xs.toArray) (Q:=Q) (xs.drop m) m listed a w (fun j=>by simp [List.getElem?_drop]) hseq (by rw [ea];exact fin _ _ hall hH.wd)
  rwa [List.length_drop] at this
 intro fuel
 induction fuel with
 | zero =>
  intro listed a w hs hH hlo hf;exfalso;have:m ∈ unl xs.toArray (dn listed):=List.mem_filter.2 ⟨List.mem_range.2 (by simpa using hmx),by simp [hlo m (Nat.le_refl _)]⟩;have hz:unl xs.toArray (dn listed) = []:=List.eq_nil_of_length_eq_zero (by omega);rw [hz] at this;cases this
 | succ fuel ih =>
  intro listed a w hs hH hlo hf;by_cases hall:∀ j,j < m -> dn listed j = true
  ·have hge:xs.length - m <= fuel + 1:=by
    have:(unl xs.toArray (dn listed)).length = xs.length - m:=by
     unfold unl
     have e:(List.range xs.toArray.size).filter (fun i=>!dn listed i) = (List.range xs.length).filter (fun i=>decide (m <= i)):=by
      rw [List.size_toArray];apply List.filter_congr;intro i _;by_cases e:i < m
      ·rw [hall i e];simp;omega
      ·rw [hlo i (by omega)];simp;omega
     rw [e]
     have hc:∀ (q:Nat),((List.range q).filter (fun i=>decide (m <= i))).length = q - m:=by
      intro q
      induction q with
      | zero=>simp
      | succ q ihq =>
       rw [List.range_succ,List.filter_append,List.length_append,ihq];by_cases e:m <= q
       ·simp [e];omega
       ·simp [e];omega
     exact hc _
    omega
   exact wpAnyIn_up hge (tail listed a w hs hH hlo hall)
  ·refine ⟨fun hr=>?_,fun i hi=>?_⟩
   ·exact absurd (fun j hj=>all_done hs (fun i o ho j hj=>by
     have ho':xs[i]? = some o:=by simpa using ho
     have:=List.all_eq_true.1 h4 i (List.mem_range.2 (List.getElem?_eq_some_iff.1 ho').1);rw [ho'] at this;have:=List.all_eq_true.1 this j hj;simpa using this) hr j (by simp;omega)) hall
   ·obtain ⟨o,ho,hd1,hp⟩:=mem_ready' rfl hs hi;have ho':xs[i]? = some o:=by simpa using ho
    have hio:=(Array.getElem?_eq_some_iff.1 ho).1
    have him:i < m:=by
     refine Nat.lt_of_not_le fun hmi=>?_
     by_cases e:i = m
     ·subst e;exact hall (all_before hH t1 ho' hp)
     ·have h5:=List.all_eq_true.1 t2 i (List.mem_range.2 (by simpa using hio));rw [Bool.or_eq_true,decide_eq_true_eq,ho'] at h5;rcases h5 with h5 | h5
      ·omega
      ·obtain ⟨k,hk,hkk⟩:=List.any_eq_true.1 h5;rw [Bool.and_eq_true,decide_eq_true_eq,decide_eq_true_eq] at hkk;have:=hp k hk;rw [hlo k hkk.1] at this;cases this
    have hv:vals[i]? = some vals[i]:=List.getElem?_eq_getElem (by omega)
    have hk:Knows xs vals a0 i a:=⟨fun j o' s v hx hj oj hoj hs hvj=>by
     rw [ho'] at hx;cases hx;have:=hH.fact j oj s (by simpa using hoj) hs (hp j hj);rw [hvj] at this;exact (Option.some.inj this).symm,fun s hs=>hH.same (by simpa using hs)⟩
    unfold wpOpIn;simp only [ho]
    have next:∀ (w':World),Wd (upd (dn listed) i) w' -> wpAnyIn F fu P .any xs.toArray Q fuel (listed.setIfInBounds i true) (a.put o.dst vals[i]) w':=fun w' hw'=>by
     refine ih _ _ _ (by simpa using hs) ?_ (fun j hj=>?_) ?_
     ·rw [dn_set (by omega)];exact hH.put ho hd1 hp hdst hin' hv hw' fun _ _ _ _ _ _ h=>h
     ·rw [dn_set (by omega)];unfold Go.upd;rw [if_neg (by omega)];exact hlo j hj
     ·rw [dn_set (by omega)];have:=unl_lt (ops:=xs.toArray) hio hd1;omega
    rw [wanted_eq hin hH (List.mem_of_getElem? ho') hp hG];rcases step i o _ ho' hv with ⟨hw,hst⟩ | ⟨hw,hst,hst2⟩
    ·rw [if_pos hw];exact hlift o (List.mem_of_getElem? ho') _ _ _ (hst _ a w hd1 hp hk hH.wd _ next)
    ·rw [if_neg (by rw [hw];decide)];have:=next w (hst2 _ _ hH.wd)
     rw [hst] at this;exact ⟨fun f _=>hF f,this⟩
theorem region_valsTIn {F:Fence} {fu:Nat} {Q':Exit -> Act -> World -> Prop} {id:Nat} {xs:List Oper} {w:World} (hm:P.follows .mixedOrders = true) (hF:∀ f,F.fn f) (hlift:∀ o ∈ xs,∀ (a:Act) (w:World) (K:Act -> World -> Prop),Oper.wp P o a w K Q' -> o.wpIn F fu P a w K Q) (m n:Nat) (hn:a0.tmps.size = n) (hB:factsGB xs n = true) (hG:guardsB xs = true) (hT:tailB xs m = true) (vals:List Value) (hl:vals.length = m) (Wd:(Nat -> Bool) -> World -> Prop) (h0:Wd (fun _=>false) w.drew)
  (step:∀ (i:Nat) (o:Oper) (v:Value),xs[i]? = some o -> vals[i]? = some v -> wantedV vals o = true /\ (∀ (done:Nat -> Bool) (a:Act) (w:World),done i = false -> (∀ j ∈ Region.preds o,done j = true) -> Knows xs vals a0 i a -> Wd done w -> ∀ K:Act -> World -> Prop,(∀ w',Wd (Go.upd done i) w' -> K (a.put o.dst v) w') -> Oper.wp P o a w K Q') \/ wantedV vals o = false /\ v = undef /\ (∀ done w,Wd done w -> Wd (Go.upd done i) w))
  (fin:∀ done w,(∀ j,j < m -> done j = true) -> Wd done w -> wpListIn F fu P xs.toArray Q (xs.drop m) (putAll a0 (xs.zip vals)) w):(Code.region id xs.toArray true).wpIn F fu P Q a0 w:=by
 refine wpIn_region_any hm ?_
 have e0:dn (Array.replicate xs.toArray.size false) = fun _=>false:=by
  funext i
  unfold dn;rw [Array.getD_eq_getD_getElem?,Array.getElem?_replicate];split <;> rfl
 refine any_valsTIn hF hlift m n hn hB hG hT vals hl Wd step fin _ _ _ _ (by simp) ?_ (fun j _=>by rw [e0]) ?_
 ·rw [e0];exact ⟨h0,rfl,rfl,(fun i o _ h=>by cases h),(fun s _=>rfl),(fun i o s _ _ h=>by cases h)⟩
 ·have:(unl xs.toArray (dn (Array.replicate xs.toArray.size false))).length <= (List.range xs.toArray.size).length:=List.length_filter_le _ _;simpa using this
theorem lift_wide {k:Nat} {xs:List Oper}:∀ o ∈ xs,∀ (a:Act) (w:World) (K:Act -> World -> Prop),Oper.wp P o a w K (OnlyN Q) -> o.wpIn Fence.wide k P a w K Q :=
 fun _ _ _ _ _ h=>Oper.wpIn_imp (Oper.in_wide OnlyN.notOut h) OnlyN.imp
end
end Go
namespace Go.Proofs
open Go
theorem op_callN {o:Oper} {a:Act} {w:World} {K:Act -> World -> Prop} {Q:Exit -> Act -> World -> Prop} {f:Nat} {fn:Func} (hf:Tryz.prog.funcs[f]? = some fn) (hn:(fn.name == "runtime.NumGoroutine") = false) (hb:fn.body.isNone = false)
  (xs:Array Operand) {tys:Array TypeId} (ho:o.op = .call { callee:=.value (.func f),args:=xs,argTypes:=tys }) {vs:Array Value} (hx:xs.map a.eval = vs) {R:Ending -> World -> Prop} (hc:Calls Tryz.prog f vs w R)
  (h:∀ e w',R e w' -> ∃ v,e = .returned v /\ K (a.put o.dst v) w'):Oper.wp Tryz.prog o a w K Q:=by
 unfold Oper.wp
 have hrun:(execOp a.eval o).run Tryz.prog w = .ok (.enter f vs) w:=by
  unfold execOp;simp only [ho,resolve,invoke,Sem.run_bind,hx];simp [go_sem];exact run_enters hf hn hb _ _
 rw [hrun,Oper.upon_enter];refine hc.mono ?_;intro e w' hr;obtain ⟨v,rfl,hk⟩:=h e w' hr;exact hk
end Go.Proofs
end
section
/- A region that draws its order among its first operations,whose values are known or left open,and ends in a chain,in the order of the text. -/
namespace Go
def wantedO (vals:List (Option Value)) (o:Oper):Bool :=
 match o.guard with
 | none=>true
 | some (j,b)=>match vals[j]? with
  | some (some (.bool x))=>x == b
  | _=>false
def guardsO (xs:List Oper) (vals:List (Option Value)):Bool:=xs.all fun o=>match o.guard with
 | none=>true
 | some (j,_)=>(Region.preds o).contains j && ((xs[j]?).bind (·.dst)).isSome && (decide (vals.length <= j) || ((vals[j]?).join).isSome)
def FactO (vals:List (Option Value)):(Nat -> Bool) -> Nat -> Value -> World -> Prop:=fun _ i v _=>∀ u,vals[i]? = some (some u) -> v = u
def fill:List (Option Value) -> List Value -> List Value
 | [],_=>[]
 | some v :: r,us=>v :: fill r us
 | none :: r,u :: us=>u :: fill r us
 | none :: r,[]=>undef :: fill r []
theorem fill_of:∀ (vals:List (Option Value)) (vs:List Value),vs.length = vals.length -> (∀ (i:Nat) (u:Value),vals[i]? = some (some u) -> vs[i]? = some u) -> ∃ us:List Value,us.length = (vals.filter (·.isNone)).length /\ vs = fill vals us
 | [],[],_,_=>⟨[],rfl,rfl⟩
 | some v :: r,x :: vs,hl,h=>by
  obtain ⟨us,h1,h2⟩:=fill_of r vs (by simpa using hl) (fun i u hu=>by simpa using h (i + 1) u (by simpa using hu));have:=h 0 v rfl;simp at this;exact ⟨us,by simpa using h1,by rw [h2,this];rfl⟩
 | none :: r,x :: vs,hl,h=>by
  obtain ⟨us,h1,h2⟩:=fill_of r vs (by simpa using hl) (fun i u hu=>by simpa using h (i + 1) u (by simpa using hu));exact ⟨x :: us,by simpa using h1,by rw [h2];rfl⟩
 | _ :: _,[],hl,_=>by simp at hl
 | [],_ :: _,hl,_=>by simp at hl
structure KnowsO (xs:List Oper) (vals:List (Option Value)) (a0:Act) (i:Nat) (a:Act):Prop where
 at_:∀ (j:Nat) (o:Oper) (s:Nat) (v:Value),xs[i]? = some o -> j ∈ Region.preds o -> ∀ oj,xs[j]? = some oj -> oj.dst = some s -> vals[j]? = some (some v) -> a.eval (.tmp s) = v
 same:∀ s:Nat,s ∉ xs.filterMap (·.dst) -> a.eval (.tmp s) = a0.eval (.tmp s)
theorem KnowsO.t {xs : List Oper} {vals : List (Option Value)} {a0 a : Act} {i : Nat} (h : KnowsO xs vals a0 i a) (j : Nat) {o oj : Oper} {s : Nat} {v : Value} (h1 : xs[i]? = some o := by rfl) (h2 : j ∈ Region.preds o := by decide) (h3 : xs[j]? = some oj := by rfl) (h4 : oj.dst = some s := by rfl) (h5 : vals[j]? = some (some v) := by rfl) : a.eval (.tmp s) = v := h.at_ j o s v h1 h2 oj h3 h4 h5
theorem KnowsO.s {xs : List Oper} {vals : List (Option Value)} {a0 a : Act} {i : Nat} (h : KnowsO xs vals a0 i a) (s : Nat) (h1 : s ∉ xs.filterMap (·.dst) := by decide) : a.eval (.tmp s) = a0.eval (.tmp s) := h.same s h1
section
variable {P:Program} {Q:Exit -> Act -> World -> Prop} {a0:Act}
theorem wanted_eqO {xs:List Oper} {vals:List (Option Value)} {Wd:(Nat -> Bool) -> Act -> World -> Prop} {done:Nat -> Bool} {a:Act} {w:World} {o:Oper} (hin:∀ o ∈ xs,∀ s,o.dst = some s -> s < a0.tmps.size)
  (h:HeldG xs.toArray (FactO vals) Wd a0 done a w) (ho:o ∈ xs) (hp:∀ j ∈ Region.preds o,done j = true) (hlo:∀ j,vals.length <= j -> done j = false) (hG:guardsO xs vals = true):Region.wanted o (yielded xs.toArray a.tmps) = wantedO vals o:=by
 have hg:=List.all_eq_true.1 hG o ho;unfold Region.wanted wantedO
 cases hgd:o.guard with
 | none=>rfl
 | some p =>
  obtain ⟨j,b⟩:=p;rw [hgd] at hg;simp only [Bool.and_eq_true,Bool.or_eq_true,decide_eq_true_eq] at hg;obtain ⟨⟨h1,h2⟩,h3⟩:=hg;have hdj':=hp j (by simpa using h1);rcases h3 with h3 | h3
  ·rw [hlo j h3] at hdj';cases hdj'
  obtain ⟨s,hs⟩:=Option.isSome_iff_exists.1 h2;obtain ⟨oj,hoj,hdj⟩:=Option.bind_eq_some_iff.1 hs;obtain ⟨u,hu⟩:=Option.isSome_iff_exists.1 h3
  have hu':vals[j]? = some (some u):=by
   cases e:vals[j]? with
   | none=>rw [e] at hu;cases hu
   | some x=>rw [e] at hu;cases x with
    | none=>cases hu
    | some y=>simp at hu;rw [hu]
  have hv:a.eval (.tmp s) = u:=h.fact j oj s (by simpa using hoj) hdj hdj' u hu';have hlt:s < a.tmps.size:=by rw [h.size];exact hin oj (List.mem_of_getElem? hoj) s hdj
  have hy:yielded xs.toArray a.tmps j = match a.eval (.tmp s) with | .bool b=>some b | _=>none:=by
   unfold yielded
   have:((xs.toArray[j]?).bind (·.dst)).bind (a.tmps[·]?) = some (a.eval (.tmp s)):=by
    rw [List.getElem?_toArray,hs,Option.bind_some];simp only [Act.eval,Array.getD_eq_getD_getElem?];rw [Array.getElem?_eq_getElem hlt];rfl
   rw [this];cases a.eval (.tmp s) <;> rfl
  simp only [hy,hu',hv];cases u <;> simp
theorem any_valsU {xs:List Oper} (m n:Nat) (hn:a0.tmps.size = n) (hB:factsGB xs n = true) (hT:tailB xs m = true) (vals:List (Option Value)) (hG:guardsO xs vals = true) (hl:vals.length = m) (Wd:(Nat -> Bool) -> Act -> World -> Prop)
  (step:∀ (i:Nat) (o:Oper) (v:Option Value),xs[i]? = some o -> vals[i]? = some v -> wantedO vals o = true /\ (∀ (done:Nat -> Bool) (a:Act) (w:World),a.tmps.size = n -> done i = false -> (∀ j ∈ Region.preds o,done j = true) -> KnowsO xs vals a0 i a -> Wd done a w -> ∀ K:Act -> World -> Prop,(∀ y w',(∀ u,v = some u -> y = u) -> Wd (Go.upd done i) (a.put o.dst y) w' -> K (a.put o.dst y) w') -> Oper.wp P o a w K Q) \/ wantedO vals o = false /\ v = some undef /\ (∀ done a w,Wd done a w -> Wd (Go.upd done i) (a.put o.dst undef) w))
  (fin:∀ done us w,us.length = (vals.filter (·.isNone)).length -> (∀ j,j < m -> done j = true) -> Wd done (putAll a0 (xs.zip (fill vals us))) w -> wpList P xs.toArray Q (xs.drop m) (putAll a0 (xs.zip (fill vals us))) w) :
  ∀ (fuel:Nat) (listed:Array Bool) (a:Act) (w:World),listed.size = xs.toArray.size -> HeldG xs.toArray (FactO vals) Wd a0 (dn listed) a w -> (∀ j,m <= j -> dn listed j = false) -> (unl xs.toArray (dn listed)).length <= fuel -> wpAny P .any xs.toArray Q fuel listed a w:=by
 have hT':=hT;unfold tailB at hT';rw [Bool.and_eq_true,Bool.and_eq_true,Bool.and_eq_true,decide_eq_true_eq] at hT';obtain ⟨⟨⟨hmx,t1⟩,t2⟩,t3⟩:=hT';have hB':=hB;unfold factsGB at hB';rw [Bool.and_eq_true,Bool.and_eq_true] at hB';obtain ⟨⟨h2',h3⟩,h4⟩:=hB'
 have hin:∀ o ∈ xs,∀ s,o.dst = some s -> s < a0.tmps.size:=fun o ho s hs=>by
  have:=List.all_eq_true.1 h3 o ho;rw [hs] at this;rw [hn];simpa using this
 have hdst:∀ (i j:Nat) (oi oj:Oper) (s:Nat),xs.toArray[i]? = some oi -> xs.toArray[j]? = some oj -> oi.dst = some s -> oj.dst = some s -> i = j:=fun i j oi oj s hi hj=>nodup_dst (of_decide_eq_true h2') i j oi oj s (by simpa using hi) (by simpa using hj)
 have hin':∀ (i:Nat) (o:Oper) (s:Nat),xs.toArray[i]? = some o -> o.dst = some s -> s < a0.tmps.size:=fun i o s ho=>hin o (List.mem_of_getElem? (by simpa using ho)) s
 have tail:∀ (listed:Array Bool) (a:Act) (w:World),listed.size = xs.toArray.size -> HeldG xs.toArray (FactO vals) Wd a0 (dn listed) a w -> (∀ j,m <= j -> dn listed j = false) -> (∀ j,j < m -> dn listed j = true) -> wpAny P .any xs.toArray Q (xs.length - m) listed a w:=by
  intro listed a w hs hH hlo hall
  obtain ⟨us,hus,ea⟩:∃ us,us.length = (vals.filter (·.isNone)).length /\ a = putAll a0 (xs.zip (fill vals us)):=by
   let vs:List Value:=(List.range m).map fun i=>match xs[i]? with | some o=>(match o.dst with | some s=>a.eval (.tmp s) | none=>((vals[i]?).join).getD undef) | none=>undef
   have hvl:vs.length = m:=by simp [vs]
   have hvg:∀ i,i < m -> vs[i]? = some (match xs[i]? with | some o=>(match o.dst with | some s=>a.eval (.tmp s) | none=>((vals[i]?).join).getD undef) | none=>undef):=fun i hi=>by simp [vs,hi]
   obtain ⟨us,h1,h2⟩:=fill_of vals vs (by omega) (fun i u hu=>by
    have him:i < m:=by rw [<- hl];exact (List.getElem?_eq_some_iff.1 hu).1
    rw [hvg i him];have hx:xs[i]? = some xs[i]:=List.getElem?_eq_getElem (by omega);rw [hx]
    cases hd:xs[i].dst with
    | none=>simp [hd,hu]
    | some s=>simp only [hd];rw [hH.fact i xs[i] s (by simpa using hx) hd (hall i him) u hu])
   refine ⟨us,h1,?_⟩;rw [<- h2];have hzl:(xs.take m).zip vs = xs.zip vs:=zip_take_left xs vs m (by omega);rw [<- hzl]
   have hfm:∀ s,s ∈ (xs.take m).filterMap (·.dst) -> s ∈ xs.filterMap (·.dst):=fun s h=>by
    obtain ⟨o,ho,he⟩:=List.mem_filterMap.1 h;exact List.mem_filterMap.2 ⟨o,List.mem_of_mem_take ho,he⟩
   refine held_putAll (xs:=xs.take m) (vals:=vs) (Wd:=fun _ _=>True) (done:=dn listed) (w:=w) (by rw [List.length_take];omega) ?_ (fun o ho=>hin o (List.mem_of_mem_take ho)) (fun i hi=>hall i (by rw [List.length_take] at hi;omega)) ?_
   ·exact (of_decide_eq_true h2').sublist ((List.take_sublist m xs).filterMap _)
   ·refine ⟨trivial,hH.size,hH.defers,fun i o ho hd j hj=>?_,fun s hs'=>?_,fun i o s ho hs' hd=>?_⟩
    ·have ho':(xs.take m)[i]? = some o:=by simpa using ho
     rw [List.getElem?_take] at ho';split at ho'
     ·exact hH.closed i o (by simpa using ho') hd j hj
     ·cases ho'
    ·refine hH.old s fun k ok hk he=>?_
     by_cases hkm:k < m
     ·exact hs' k ok (by rw [List.getElem?_toArray,List.getElem?_take,if_pos hkm];simpa using hk) he
     ·exact hlo k (by omega)
    ·have ho':(xs.take m)[i]? = some o:=by simpa using ho
     rw [List.getElem?_take] at ho';split at ho'
     ·rename_i him
      show vs[i]? = some _;rw [hvg i him,ho'];simp only [hs']
     ·cases ho'
  have hseq:Region.seqB .any xs.toArray (xs.drop m).length m listed = true:=by
   rw [List.length_drop,listed_eq (by simpa using hs) hall hlo];exact t3
  have:=wpAny_of_seq (P:=P) (md:=.any) (ops:=xs.toArray) (Q':=Q) (xs.drop m) m listed a w (fun j=>by simp [List.getElem?_drop]) hseq (by rw [ea];exact fin _ _ _ hus hall (by rw [<- ea];exact hH.wd))
  rwa [List.length_drop] at this
 intro fuel
 induction fuel with
 | zero =>
  intro listed a w hs hH hlo hf;exfalso;have:m ∈ unl xs.toArray (dn listed):=List.mem_filter.2 ⟨List.mem_range.2 (by simpa using hmx),by simp [hlo m (Nat.le_refl _)]⟩;have hz:unl xs.toArray (dn listed) = []:=List.eq_nil_of_length_eq_zero (by omega);rw [hz] at this;cases this
 | succ fuel ih =>
  intro listed a w hs hH hlo hf;by_cases hall:∀ j,j < m -> dn listed j = true
  ·have hge:xs.length - m <= fuel + 1:=by
    have:(unl xs.toArray (dn listed)).length = xs.length - m:=by
     unfold unl
     have e:(List.range xs.toArray.size).filter (fun i=>!dn listed i) = (List.range xs.length).filter (fun i=>decide (m <= i)):=by
      rw [List.size_toArray];apply List.filter_congr;intro i _;by_cases e:i < m
      ·rw [hall i e];simp;omega
      ·rw [hlo i (by omega)];simp;omega
     rw [e]
     have hc:∀ (q:Nat),((List.range q).filter (fun i=>decide (m <= i))).length = q - m:=by
      intro q
      induction q with
      | zero=>simp
      | succ q ihq =>
       rw [List.range_succ,List.filter_append,List.length_append,ihq];by_cases e:m <= q
       ·simp [e];omega
       ·simp [e];omega
     exact hc _
    omega
   exact wpAny_up hge (tail listed a w hs hH hlo hall)
  ·refine ⟨fun hr=>?_,fun i hi=>?_⟩
   ·exact absurd (fun j hj=>all_done hs (fun i o ho j hj=>by
     have ho':xs[i]? = some o:=by simpa using ho
     have:=List.all_eq_true.1 h4 i (List.mem_range.2 (List.getElem?_eq_some_iff.1 ho').1);rw [ho'] at this;have:=List.all_eq_true.1 this j hj;simpa using this) hr j (by simp;omega)) hall
   ·obtain ⟨o,ho,hd1,hp⟩:=mem_ready' rfl hs hi;have ho':xs[i]? = some o:=by simpa using ho
    have hio:=(Array.getElem?_eq_some_iff.1 ho).1
    have him:i < m:=by
     refine Nat.lt_of_not_le fun hmi=>?_
     by_cases e:i = m
     ·subst e;exact hall (all_before hH t1 ho' hp)
     ·have h5:=List.all_eq_true.1 t2 i (List.mem_range.2 (by simpa using hio));rw [Bool.or_eq_true,decide_eq_true_eq,ho'] at h5;rcases h5 with h5 | h5
      ·omega
      ·obtain ⟨k,hk,hkk⟩:=List.any_eq_true.1 h5;rw [Bool.and_eq_true,decide_eq_true_eq,decide_eq_true_eq] at hkk;have:=hp k hk;rw [hlo k hkk.1] at this;cases this
    have hv:vals[i]? = some vals[i]:=List.getElem?_eq_getElem (by omega)
    have hk:KnowsO xs vals a0 i a:=⟨fun j o' s v hx hj oj hoj hs hvj=>by
     rw [ho'] at hx;cases hx;exact hH.fact j oj s (by simpa using hoj) hs (hp j hj) v hvj,fun s hs=>hH.same (by simpa using hs)⟩
    unfold wpOp;simp only [ho]
    have next:∀ (y:Value) (w':World),(∀ u,vals[i] = some u -> y = u) -> Wd (upd (dn listed) i) (a.put o.dst y) w' -> wpAny P .any xs.toArray Q fuel (listed.setIfInBounds i true) (a.put o.dst y) w':=fun y w' hy hw'=>by
     refine ih _ _ _ (by simpa using hs) ?_ (fun j hj=>?_) ?_
     ·rw [dn_set (by omega)];exact hH.put ho hd1 hp hdst hin' (fun u hu=>hy u (by rw [hv] at hu;exact Option.some.inj hu)) hw' fun _ _ _ _ _ _ h=>h
     ·rw [dn_set (by omega)];unfold Go.upd;rw [if_neg (by omega)];exact hlo j hj
     ·rw [dn_set (by omega)];have:=unl_lt (ops:=xs.toArray) hio hd1;omega
    rw [wanted_eqO hin hH (List.mem_of_getElem? ho') hp (fun j hj=>hlo j (by omega)) hG];rcases step i o _ ho' hv with ⟨hw,hst⟩ | ⟨hw,hst,hst2⟩
    ·rw [if_pos hw];exact .inl (hst _ a w (by rw [hH.size];exact hn) hd1 hp hk hH.wd _ next)
    ·rw [if_neg (by rw [hw];decide)];exact next undef w (fun u hu=>by rw [hst] at hu;exact Option.some.inj hu) (hst2 _ _ _ hH.wd)
theorem wp_region_valsU {id:Nat} {xs:List Oper} {w:World} (hm:P.follows .mixedOrders = true) (m n:Nat) (hn:a0.tmps.size = n) (hB:factsGB xs n = true) (hT:tailB xs m = true) (vals:List (Option Value)) (hG:guardsO xs vals = true) (hl:vals.length = m) (Wd:(Nat -> Bool) -> Act -> World -> Prop) (h0:Wd (fun _=>false) a0 w.drew)
  (step:∀ (i:Nat) (o:Oper) (v:Option Value),xs[i]? = some o -> vals[i]? = some v -> wantedO vals o = true /\ (∀ (done:Nat -> Bool) (a:Act) (w:World),a.tmps.size = n -> done i = false -> (∀ j ∈ Region.preds o,done j = true) -> KnowsO xs vals a0 i a -> Wd done a w -> ∀ K:Act -> World -> Prop,(∀ y w',(∀ u,v = some u -> y = u) -> Wd (Go.upd done i) (a.put o.dst y) w' -> K (a.put o.dst y) w') -> Oper.wp P o a w K Q) \/ wantedO vals o = false /\ v = some undef /\ (∀ done a w,Wd done a w -> Wd (Go.upd done i) (a.put o.dst undef) w))
  (fin:∀ done us w,us.length = (vals.filter (·.isNone)).length -> (∀ j,j < m -> done j = true) -> Wd done (putAll a0 (xs.zip (fill vals us))) w -> wpList P xs.toArray Q (xs.drop m) (putAll a0 (xs.zip (fill vals us))) w):(Code.region id xs.toArray true).wp P Q a0 w:=by
 refine wp_region_any hm ?_
 have e0:dn (Array.replicate xs.toArray.size false) = fun _=>false:=by
  funext i
  unfold dn;rw [Array.getD_eq_getD_getElem?,Array.getElem?_replicate];split <;> rfl
 refine any_valsU m n hn hB hT vals hG hl Wd step fin _ _ _ _ (by simp) ?_ (fun j _=>by rw [e0]) ?_
 ·rw [e0];exact ⟨h0,rfl,rfl,(fun i o _ h=>by cases h),(fun s _=>rfl),(fun i o s _ _ h=>by cases h)⟩
 ·have:(unl xs.toArray (dn (Array.replicate xs.toArray.size false))).length <= (List.range xs.toArray.size).length:=List.length_filter_le _ _;simpa using this
end
end Go
end
section
/- Cases: how they lie,and which numbers are strange. -/
namespace Go.Proofs
open Go.RowKit
structure CaseL where
 claims:Int
 strikes:List (Int × Int)
 surveys:List (List Int)
def StrR:World -> Int × Int -> List Value -> Prop:=fun _ s vs=>vs = [.int .i64 s.1,.int .i64 s.2]
theorem StrR.mono:MonoR StrR:=fun _ _ _ _ h=>h
def Strs (w:World) (A:Option Addr) (l:List (Int × Int)):Prop:=RowsP w A 2 StrR l
theorem Strs.lat {w:World} {A:Option Addr} {l:List (Int × Int)} (h:Strs w A l) (u:Later w):Strs (w.lat u) A l:=RowsP.lat StrR.mono h u
theorem Strs.aft {w w':World} {A:Option Addr} {l:List (Int × Int)} (h:Strs w A l) (hl:Aft w w'):Strs w' A l:=RowsP.aft StrR.mono h hl
theorem Strs.len {w:World} {A:Option Addr} {l:List (Int × Int)} (h:Strs w A l):l.length <= 17592186043904:=RowsP.len h (by decide)
theorem Strs.at {w:World} {A:Option Addr} {l:List (Int × Int)} (h:Strs w A l) {k:Nat} (hk:k < l.length) :
  ∃ b o,A = some ⟨b,o,none⟩ /\ b < w.heap.size /\ ∀ i,(h:i < l.length) -> w.cell? ⟨b,o + i * 2,none⟩ = some (.int .i64 l[i].1) /\ w.cell? ⟨b,o + i * 2 + 1,none⟩ = some (.int .i64 l[i].2):=by
 obtain ⟨b,o,rfl,hb,hc⟩:=RowsP.at h hk;refine ⟨b,o,rfl,hb,fun i hi=>?_⟩;obtain ⟨vs,h1,rfl,h3⟩:=hc i hi;exact ⟨by simpa using h3 0 (by simp),by simpa using h3 1 (by simp)⟩
structure CRep (w:World) (C:CaseL) (a1 a2:Option Addr):Prop where
 strikes:Strs w a1 C.strikes
 surveys:Lists w a2 C.surveys
theorem CRep.lat {w:World} {C:CaseL} {a1 a2:Option Addr} (h:CRep w C a1 a2) (u:Later w):CRep (w.lat u) C a1 a2:=⟨h.strikes.lat u,h.surveys.lat u⟩
theorem CRep.aft {w w':World} {C:CaseL} {a1 a2:Option Addr} (h:CRep w C a1 a2) (ha:Aft w w'):CRep w' C a1 a2:=by obtain ⟨u,rfl⟩:=ha;exact h.lat u
def Cl (n N:Int):Bool:=fromB n 0 (N - 1)
theorem claimed_any (N n:Int) (s1 s2:Option Addr) (n1 n2 c1 c2:Nat) (w:World) (hN:1 <= N /\ N <= 14) :
  Calls Tryz.prog 98 #[.agg #[.int .i64 N,.slice s1 n1 c1,.slice s2 n2 c2],.int .i64 n] w fun e w'=>e = .returned (.bool (Cl n N)) /\ Aft w w':=by
 go_enter Tryz.func98,Tryz.ntmps98;go_wp2_with (go_at_call 54;refine (from_any _ _ _ _).mono ?_;rintro e w' ⟨rfl,rfl⟩)
 go_ret;exact ⟨rfl,Aft.alloc _ _⟩
theorem strange_any (N n:Int) (s1 s2:Option Addr) (n1 n2 c1 c2:Nat) (w:World) (hN:1 <= N /\ N <= 14) :
  Calls Tryz.prog 59 #[.agg #[.int .i64 N,.slice s1 n1 c1,.slice s2 n2 c2],.int .i64 n] w fun e w'=>e = .returned (.bool (!Cl n N)) /\ Aft w w':=by
 go_enter Tryz.func59,Tryz.ntmps59;go_wp2_with (go_at_call 98;refine (claimed_any N n s1 s2 n1 n2 c1 c2 _ hN).mono ?_;rintro e w' ⟨rfl,u,rfl⟩)
 go_ret;exact ⟨rfl,(Aft.alloc _ _).then_lat _⟩
theorem runs_59 (args:Array Value) (w:World):(callFunc 59 args).run Tryz.prog w = .ok (.enter 59 args) w:=by simp [go_sem]
theorem strange_asks (N n:Int) (s1 s2:Option Addr) (n1 n2 c1 c2:Nat) (w:World) (hN:1 <= N /\ N <= 14) :
  AsksB 59 (.agg #[.int .i64 N,.slice s1 n1 c1,.slice s2 n2 c2]) w (.int .i64 n) (!Cl n N):=fun u=>strange_any N n s1 s2 n1 n2 c1 c2 _ hN
theorem none_strange (N:Int) (s1 s2:Option Addr) (n1 n2 c1 c2:Nat) (A:Option Addr) (l:List Int) (c:Nat) (w:World) (hN:1 <= N /\ N <= 14) (hA:Ints w A l) :
  Calls Tryz.prog 85 #[.slice A l.length c,.func (.func 59) #[.agg #[.int .i64 N,.slice s1 n1 c1,.slice s2 n2 c2]] #[]] w fun e w'=>e = .returned (.bool (l.all fun n=>Cl n N)) /\ Aft w w' :=
 (none_bound IntR 59 _ (fun n=>!Cl n N) A l c w hA runs_59 (fun x _ v0 hv=>by cases hv;exact strange_asks N x s1 s2 n1 n2 c1 c2 w hN)).mono
  fun _ _ ⟨h,ha⟩=>⟨by rw [h];exact ret_bool (by rw [List.all_eq_not_any_not]),ha⟩
def listedE (N:Int) (l:List Int):Int:=if l.all (fun n=>Cl n N) then (if risesB l then 0 else 5) else 2
theorem listed_any (N:Int) (s1 s2:Option Addr) (n1 n2 c1 c2:Nat) (A:Option Addr) (l:List Int) (c:Nat) (w:World) (hN:1 <= N /\ N <= 14) (hA:Ints w A l) :
  Calls Tryz.prog 69 #[.agg #[.int .i64 N,.slice s1 n1 c1,.slice s2 n2 c2],.slice A l.length c] w fun e w'=>e = .returned (.int .i64 (listedE N l)) /\ Aft w w':=by
 have HA:=Lib.hid hA;clear hA;have h0:Aft w (w.alloc (.cells #[.int .i64 N,.slice s1 n1 c1,.slice s2 n2 c2] 25)):=Aft.alloc _ _;have HS:Hid (∀ w7,Aft w w7 -> Calls Tryz.prog 85 #[.slice A l.length c,.func (.func 59) #[.agg #[.int .i64 N,.slice s1 n1 c1,.slice s2 n2 c2]] #[]] w7 fun e w'=>e = .returned (.bool (l.all fun n=>Cl n N)) /\ Aft w7 w') :=
  Lib.hid fun w7 h=>none_strange N s1 s2 n1 n2 c1 c2 A l c w7 hN (HA.out.aft h)
 go_enter Tryz.func69,Tryz.ntmps69;by_cases h1:(l.all fun n=>Cl n N) = true
 ·rw [h1] at HS;by_cases h2:risesB l = true
  ·go_wp2_with (first | (go_at_call 85;refine (HS.out _ h0).mono ?_;rintro e w' ⟨rfl,u,rfl⟩) | (go_at_call 101;refine (rises_any A l c _ (HA.out.aft (h0.then_lat _))).mono ?_;rw [h2];rintro e w' ⟨rfl,u,rfl⟩))
   go_ret;exact ⟨by unfold listedE;rw [if_pos h1,if_pos h2];rfl,(h0.then_lat _).then_lat _⟩
  ·go_wp2_with (first | (go_at_call 85;refine (HS.out _ h0).mono ?_;rintro e w' ⟨rfl,u,rfl⟩) | (go_at_call 101;refine (rises_any A l c _ (HA.out.aft (h0.then_lat _))).mono ?_;rw [Bool.eq_false_iff.2 h2];rintro e w' ⟨rfl,u,rfl⟩))
   go_ret;exact ⟨by unfold listedE;rw [if_pos h1,if_neg h2];rfl,(h0.then_lat _).then_lat _⟩
 ·rw [Bool.eq_false_iff.2 h1] at HS;go_wp2_with (go_at_call 85;refine (HS.out _ h0).mono ?_;rintro e w' ⟨rfl,u,rfl⟩)
  go_ret;exact ⟨by unfold listedE;rw [if_neg h1];rfl,h0.then_lat _⟩
end Go.Proofs
end
section
/- Walks: Struck. -/
namespace Go.Proofs
open Go.RowKit
attribute [local go_sem] Oper.semAt_some
theorem ty22:SliceTy Tryz.prog 22 57 2 16:=.mk' (z:=.agg #[.int .i64 0,.int .i64 0]) Tryz.underlying22 (by kernel_rfl) rfl (by decide)
def strC (L:List (Int × Int)):List Value:=L.flatMap fun s=>[.int .i64 s.1,.int .i64 s.2]
theorem strC_get:∀ (L:List (Int × Int)) (i:Nat) (h:i < L.length),(strC L)[2 * i]? = some (.int .i64 L[i].1) /\ (strC L)[2 * i + 1]? = some (.int .i64 L[i].2)
 | s :: r,0,_=>⟨rfl,rfl⟩
 | s :: r,i + 1,h=>by
  have ih:=strC_get r i (by simpa using h);have e:strC (s :: r) = .int .i64 s.1 :: .int .i64 s.2 :: strC r:=rfl;rw [e,show 2 * (i + 1) = 2 * i + 1 + 1 by omega];simpa using ih
theorem strC_snoc (L:List (Int × Int)) (s:Int × Int):strC (L ++ [s]) = strC L ++ [.int .i64 s.1,.int .i64 s.2]:=by
 unfold strC;rw [List.flatMap_append];rfl
theorem own_strs {w:World} {base:Nat} {v:Value} {L:List (Int × Int)} (h:w.ownsRow base 57 2 v L.length (strC L)) (hl:L.length <= 1000000):∃ A c,v = .slice A L.length c /\ Strs w A L /\ ∀ b o,A = some ⟨b,o,none⟩ -> base <= b:=by
 rcases h.2 with ⟨rfl,h0⟩ | ⟨g,cap,cur,rfl,hg,hh,hc,hm,hs,ht⟩
 ·have:L = []:=List.eq_nil_of_length_eq_zero h0;subst this;exact ⟨none,0,rfl,⟨by simp,.inl rfl⟩,fun b o h=>by cases h⟩
 ·refine ⟨_,cap,rfl,⟨by omega,.inr ⟨g,0,rfl,(Array.getElem?_eq_some_iff.1 hh).1,fun i hi=>⟨_,by simp,rfl,fun j hj=>?_⟩⟩⟩,fun b o h=>by cases h;exact hg⟩;obtain ⟨h1,h2⟩:=strC_get L i hi
  match j,hj with
  | 0,_ =>
   have:=h.cells (g:=g) rfl (2 * i) _ h1;rw [Addr.add_lit] at this;simpa [Nat.mul_comm] using this
  | 1,_ =>
   have:=h.cells (g:=g) rfl (2 * i + 1) _ h2;rw [Addr.add_lit] at this;simpa [Nat.mul_comm] using this
theorem wpList_push22 {w:World} {ops:Array Oper} {rest:List Oper} {o:Oper} {a:Act} {Q:Exit -> Act -> World -> Prop}
  (hgd:o.guard = none) (s x:Operand) (ho:o.op = .call { callee:=.builtin .append,args:=#[s,x],argTypes:=#[22,22] })
  {base:Nat} {v:Value} {L:List (Int × Int)} (hown:w.ownsRow base 57 2 v L.length (strC L)) (hbase:base <= w.heap.size) (hs:a.eval s = v)
  {y0 y1:Int} {c:Nat} {b:Nat} (hx:a.eval x = .slice (some ⟨b,0,none⟩) 1 c) (hb0:w.cell? ⟨b,0,none⟩ = some (.int .i64 y0)) (hb1:w.cell? ⟨b,1,none⟩ = some (.int .i64 y1)) (hl:L.length <= 1000000)
  (hn:∀ v' w',w'.ownsRow base 57 2 v' (L ++ [(y0,y1)]).length (strC (L ++ [(y0,y1)])) -> w.grownBy w' v.ownBlock -> wpList Tryz.prog ops Q rest (a.put o.dst v') w'):wpList Tryz.prog ops Q (o :: rest) a w:=by
 obtain ⟨ht,⟨i,z,hi,hz,hsize,hby,hzs⟩,hsz⟩:=ty22;refine wpList_append_own_at (w:=w) hgd s x 22 ho base 57 i z 2 16 ht hi hz hsize hby hzs hsz v L.length _ hs hown ⟨b,0,none⟩ 1 c [.int .i64 y0,.int .i64 y1] hx rfl (fun j u hj=>?_) (fun u hu=>by simp at hu;rcases hu with rfl | rfl <;> rfl)
  (by unfold maxLen;omega) (by omega) hbase fun v2 w2 h2 h3 _ _=>hn v2 w2 (by rw [strC_snoc];simpa using h2) h3
 match j,hj with
 | 0,hj=>simp at hj;subst hj;rw [Addr.add_lit];simpa using hb0
 | 1,hj=>simp at hj;subst hj;rw [Addr.add_lit];simpa using hb1
theorem cell_of_aft {W W':World} {g i:Nat} {v:Value} (h:W.cell? ⟨g,i,none⟩ = some v) (hg:g < W.heap.size) (ha:Aft W W'):W'.cell? ⟨g,i,none⟩ = some v :=
 (World.cell?_of_block (a:=⟨g,i,none⟩) (ha.below.block g hg)).trans h
def prL (l:List Int) (k:Nat):List (Int × Int):=(List.range k).map fun i=>(l.getD (2 * i) 0,l.getD (2 * i + 1) 0)
theorem prL_succ (l:List Int) (k:Nat):prL l (k + 1) = prL l k ++ [(l.getD (2 * k) 0,l.getD (2 * k + 1) 0)]:=by
 unfold prL;rw [List.range_succ,List.map_append];rfl
theorem prL_len (l:List Int) (k:Nat):(prL l k).length = k:=by unfold prL;rw [List.length_map,List.length_range]
theorem evne {a:Act} {dst:Option Tmp} {v:Value} {s:Nat} (h:dst ≠ some s):(a.put dst v).eval (.tmp s) = a.eval (.tmp s) :=
 Act.eval_put fun d hd e=>by cases e;exact h hd
theorem upd_ne' {done:Nat -> Bool} {i j:Nat} (h:j ≠ i):Go.upd done i j = done j:=by simp [Go.upd,h]
theorem upd_same' {done:Nat -> Bool} {i:Nat}:Go.upd done i i = true:=by simp [Go.upd]
set_option maxRecDepth 100000 in
set_option maxHeartbeats 2000000 in
theorem struck80_any (l:List Int) (A:Option Addr) (c:Nat) (w:World) (hA:Ints w A l) (hl:l.length <= 1000) :
  Calls Tryz.prog 80 #[.slice A l.length c] w fun e w'=>∃ A' c',e = .returned (.slice A' (prL l (l.length / 2)).length c') /\ Strs w' A' (prL l (l.length / 2)) /\ (∀ b o,A' = some ⟨b,o,none⟩ -> w.heap.size <= b) /\ Aft w w':=by
 have HA:=Lib.hid hA;have HN0:=Lib.hid (World.ownsRow_nil w w.heap.size 57 2);clear hA;obtain ⟨T,hT⟩:∃ T,prL l (l.length / 2) = T:=⟨_,rfl⟩;rw [hT];have HT:=Lib.hid hT;clear hT;go_enter Tryz.func80,Tryz.ntmps80;go_upto_block 0 with (fail)
 refine wp_block ?_;go_loopw [3,4] (fun v i wr=>∃ k:Nat,i = .int .i64 ((2 * k:Nat):Int) /\ 2 * k <= l.length /\ wr.ownsRow w.heap.size 57 2 v (prL l k).length (strC (prL l k)) /\ Aft w wr) (fun _ i _=>l.length - (intOf i).toNat)
 case atStart=>exact ⟨0,rfl,by omega,HN0.out,Aft.refl _⟩
 case round =>
  obtain ⟨k,rfl,hk,hown,haw⟩:=hrel;have HOW:=Lib.hid hown;have HAW:=Lib.hid haw;clear hown haw;by_cases hkl:2 * k + 1 < l.length
  ·have t1:decide (2 * k + 1 < l.length) = true:=by simpa using hkl
   obtain ⟨bx,ox,hbx,hbl,hx⟩:=(HA.out.aft HAW.out).at (k:=2 * k) (by omega);subst hbx;have x0:=hx (2 * k) (by omega);have x1:=hx (2 * k + 1) hkl;have e0:l.getD (2 * k) 0 = l[2 * k]:=by rw [List.getD_eq_getElem?_getD,List.getElem?_eq_getElem (by omega)];rfl
   have e1:l.getD (2 * k + 1) 0 = l[2 * k + 1]:=by rw [List.getD_eq_getElem?_getD,List.getElem?_eq_getElem hkl];rfl
   have HS:=Lib.hid (prL_succ l k);rw [e0,e1] at HS;have hpl:=prL_len l k;clear hx e0 e1;generalize l[2 * k] = y0 at *;generalize l[2 * k + 1] = y1 at *;have HX0:Hid (∀ W,Aft wr W -> W.cell? ⟨bx,ox + 2 * k,none⟩ = some (.int .i64 y0)):=Lib.hid fun W h=>cell_of_aft x0 hbl h
   have HX1:Hid (∀ W,Aft wr W -> W.cell? ⟨bx,ox + (2 * k + 1),none⟩ = some (.int .i64 y1)):=Lib.hid fun W h=>cell_of_aft x1 hbl h
   clear x0 x1;go_upto_region 5 with (fail)
   have b0:(0:Int) <= 2 * (k:Int) /\ 2 * (k:Int) < (l.length:Int):=by omega
   have b1:(0:Int) <= 2 * (k:Int) + 1 /\ 2 * (k:Int) + 1 < (l.length:Int):=by omega
   have o0:(2 * (k:Int)).toNat = 2 * k:=by omega
   have o1:(2 * (k:Int) + 1).toNat = 2 * k + 1:=by omega
   refine wp_region_valsU (by kernel_rfl) 12 26 rfl (by kernel_rfl) (by kernel_rfl) [some (u3),some (.slice (some ⟨bx,ox,none⟩) l.length c),some (.int .i64 (2 * (k:Int))),some (.pointer (some ⟨bx,ox + 2 * k,none⟩)),some (.int .i64 y0),some (.slice (some ⟨bx,ox,none⟩) l.length c),some (.int .i64 (2 * (k:Int))),some (.int .i64 (2 * (k:Int) + 1)),some (.pointer (some ⟨bx,ox + (2 * k + 1),none⟩)),some (.int .i64 y1),some (.agg #[.int .i64 y0,.int .i64 y1]),some (.slice (some ⟨wr.heap.size,0,none⟩) 1 1)] (by kernel_rfl) rfl (fun done a W=>a.eval (.tmp 3) = u3 /\ Aft wr W /\ (if done 11 = true then W = wr.drew.alloc (.cells #[.int .i64 y0,.int .i64 y1] 57) else W = wr.drew)) (⟨rfl,Aft.drew _,by simp⟩) ?st1 ?fi1
   case st1 =>
    intro i o v ho hv
    match i,ho,hv with
    | 0,ho,hv =>
     cases ho;cases hv;refine .inl ⟨rfl,fun done a W hz hd hp hk hw K hK=>?_⟩;exact op_val (v:=u3) (by simp [go_sem,ev' hw.1]) (hK _ _ (fun u hu=>by cases hu;rfl) ⟨(evne (by decide)).trans hw.1,hw.2.1,by rw [upd_ne' (by decide)];exact hw.2.2⟩)
    | 1,ho,hv =>
     cases ho;cases hv;refine .inl ⟨rfl,fun done a W hz hd hp hk hw K hK=>?_⟩;have e0:=hk.s 0;exact op_val (v:=.slice (some ⟨bx,ox,none⟩) l.length c) (by simp [go_sem,ev' e0]) (hK _ _ (fun u hu=>by cases hu;rfl) ⟨(evne (by decide)).trans hw.1,hw.2.1,by rw [upd_ne' (by decide)];exact hw.2.2⟩)
    | 2,ho,hv =>
     cases ho;cases hv;refine .inl ⟨rfl,fun done a W hz hd hp hk hw K hK=>?_⟩;have e4:=hk.s 4;exact op_val (v:=.int .i64 (2 * (k:Int))) (by simp [go_sem,ev' e4]) (hK _ _ (fun u hu=>by cases hu;rfl) ⟨(evne (by decide)).trans hw.1,hw.2.1,by rw [upd_ne' (by decide)];exact hw.2.2⟩)
    | 3,ho,hv =>
     cases ho;cases hv;refine .inl ⟨rfl,fun done a W hz hd hp hk hw K hK=>?_⟩;have e13:=hk.t 1;have e14:=hk.t 2;exact op_val (v:=.pointer (some ⟨bx,ox + 2 * k,none⟩)) (by simp [go_sem,ev' e13,ev' e14,b0,o0]) (hK _ _ (fun u hu=>by cases hu;rfl) ⟨(evne (by decide)).trans hw.1,hw.2.1,by rw [upd_ne' (by decide)];exact hw.2.2⟩)
    | 4,ho,hv =>
     cases ho;cases hv;refine .inl ⟨rfl,fun done a W hz hd hp hk hw K hK=>?_⟩;have e15:=hk.t 3;have x0:=HX0.out W hw.2.1;exact op_val (v:=.int .i64 y0) (by simp [go_sem,ev' e15,x0]) (hK _ _ (fun u hu=>by cases hu;rfl) ⟨(evne (by decide)).trans hw.1,hw.2.1,by rw [upd_ne' (by decide)];exact hw.2.2⟩)
    | 5,ho,hv =>
     cases ho;cases hv;refine .inl ⟨rfl,fun done a W hz hd hp hk hw K hK=>?_⟩;have e0:=hk.s 0;exact op_val (v:=.slice (some ⟨bx,ox,none⟩) l.length c) (by simp [go_sem,ev' e0]) (hK _ _ (fun u hu=>by cases hu;rfl) ⟨(evne (by decide)).trans hw.1,hw.2.1,by rw [upd_ne' (by decide)];exact hw.2.2⟩)
    | 6,ho,hv =>
     cases ho;cases hv;refine .inl ⟨rfl,fun done a W hz hd hp hk hw K hK=>?_⟩;have e4:=hk.s 4;exact op_val (v:=.int .i64 (2 * (k:Int))) (by simp [go_sem,ev' e4]) (hK _ _ (fun u hu=>by cases hu;rfl) ⟨(evne (by decide)).trans hw.1,hw.2.1,by rw [upd_ne' (by decide)];exact hw.2.2⟩)
    | 7,ho,hv =>
     cases ho;cases hv;refine .inl ⟨rfl,fun done a W hz hd hp hk hw K hK=>?_⟩;have e18:=hk.t 6;refine op_val (v:=.int .i64 (2 * (k:Int) + 1)) ?_ (hK _ _ (fun u hu=>by cases hu;rfl) ⟨(evne (by decide)).trans hw.1,hw.2.1,by rw [upd_ne' (by decide)];exact hw.2.2⟩);simp [go_sem,ev' e18];rw [IntKind.wrap_i64];omega
    | 8,ho,hv =>
     cases ho;cases hv;refine .inl ⟨rfl,fun done a W hz hd hp hk hw K hK=>?_⟩;have e17:=hk.t 5;have e19:=hk.t 7;exact op_val (v:=.pointer (some ⟨bx,ox + (2 * k + 1),none⟩)) (by simp [go_sem,ev' e17,ev' e19,b1,o1]) (hK _ _ (fun u hu=>by cases hu;rfl) ⟨(evne (by decide)).trans hw.1,hw.2.1,by rw [upd_ne' (by decide)];exact hw.2.2⟩)
    | 9,ho,hv =>
     cases ho;cases hv;refine .inl ⟨rfl,fun done a W hz hd hp hk hw K hK=>?_⟩;have e20:=hk.t 8;have x1:=HX1.out W hw.2.1;exact op_val (v:=.int .i64 y1) (by simp [go_sem,ev' e20,x1]) (hK _ _ (fun u hu=>by cases hu;rfl) ⟨(evne (by decide)).trans hw.1,hw.2.1,by rw [upd_ne' (by decide)];exact hw.2.2⟩)
    | 10,ho,hv =>
     cases ho;cases hv;refine .inl ⟨rfl,fun done a W hz hd hp hk hw K hK=>?_⟩;have e16:=hk.t 4;have e21:=hk.t 9;exact op_val (v:=.agg #[.int .i64 y0,.int .i64 y1]) (by simp [go_sem,ev' e16,ev' e21]) (hK _ _ (fun u hu=>by cases hu;rfl) ⟨(evne (by decide)).trans hw.1,hw.2.1,by rw [upd_ne' (by decide)];exact hw.2.2⟩)
    | 11,ho,hv =>
     cases ho;cases hv;refine .inl ⟨rfl,fun done a W hz hd hp hk hw K hK=>?_⟩;have e22:=hk.t 10;have h2:=hw.2.2;rw [hd] at h2;simp only [Bool.false_eq_true,if_false] at h2;subst h2;exact op_valW (v:=.slice (some ⟨wr.heap.size,0,none⟩) 1 1) (w':=wr.drew.alloc (.cells #[.int .i64 y0,.int .i64 y1] 57)) (by simp [go_sem,ev' e22]) (hK _ _ (fun u hu=>by cases hu;rfl) ⟨(evne (by decide)).trans hw.1,(Aft.drew wr).then_alloc _,by rw [upd_same',if_pos rfl]⟩)
    | _ + 12,_,hv=>cases hv
   intro done us W hus hd hw;obtain rfl:us = []:=List.eq_nil_of_length_eq_zero hus;have hw2:=hw.2.2;rw [if_pos (hd 11 (by decide))] at hw2;clear hw hd hus;subst hw2;simp only [fill,List.drop_succ_cons,List.drop_zero,List.zip_cons_cons,List.zip_nil_right,putAll];simp only [Act.put,List.setIfInBounds_toArray,List.set];have HO2:=Lib.hid (own_aft HOW.out ((Aft.drew wr).then_alloc (.cells #[.int .i64 y0,.int .i64 y1] 57)));have hbase:w.heap.size <= (wr.drew.alloc (.cells #[.int .i64 y0,.int .i64 y1] 57)).heap.size:=Nat.le_trans HAW.out.size ((Aft.drew wr).then_alloc _).size;have c0:(wr.drew.alloc (.cells #[.int .i64 y0,.int .i64 y1] 57)).cell? ⟨wr.heap.size,0,none⟩ = some (.int .i64 y0):=(Blk.new wr.drew 57 #[.int .i64 y0,.int .i64 y1]).cell 0;have c1:(wr.drew.alloc (.cells #[.int .i64 y0,.int .i64 y1] 57)).cell? ⟨wr.heap.size,1,none⟩ = some (.int .i64 y1):=(Blk.new wr.drew 57 #[.int .i64 y0,.int .i64 y1]).cell 1;have HC0:=Lib.hid c0;have HC1:=Lib.hid c1;have HA2:=Lib.hid (HAW.out.trans ((Aft.drew wr).then_alloc (.cells #[.int .i64 y0,.int .i64 y1] 57)));clear c0 c1;generalize wr.drew.alloc (.cells #[.int .i64 y0,.int .i64 y1] 57) = W2 at *;go_wp2_with (at_builtin;refine wpList_push22 rfl _ _ rfl HO2.out hbase rfl rfl HC0.out HC1.out (by omega) ?_;intro v7 w7 hr7 hg7;have HR7:=Lib.hid hr7;have HG7:=Lib.hid hg7;clear hr7 hg7)
   exact ⟨⟨k + 1,by go_num,by omega,by rw [HS.out];exact HR7.out,HA2.out.grown HG7.out (fun g hg=>own_ge HO2.out g hg)⟩,by simp [intOf];omega⟩
  ·have t1:decide (2 * k + 1 < l.length) = false:=by simpa using hkl
   have hk2:l.length / 2 = k:=by omega
   have HT2:=Lib.hid (show prL l k = T by rw [<- hk2];exact HT.out);have hpl:=prL_len l k;rw [HT2.out] at HOW hpl;obtain ⟨A7,c7,rfl,hi7,hb7⟩:=own_strs HOW.out (by omega);have HI7:=Lib.hid hi7;have HB7:=Lib.hid hb7;clear hi7 hb7 hkl;go_wp2_with fail
   go_ret;exact ⟨A7,c7,rfl,HI7.out,HB7.out,HAW.out⟩
end Go.Proofs
end
section
/- Walks: slices.DeleteFunc at numbers;what lists have in common. -/
namespace Go.Proofs
open Go.RowKit
theorem setCells_blk {g:Nat} {t:TypeId}:∀ (vs:List Value) (o:Nat) (w:World) (cs:Array Value),Blk w g t cs ->
  ∃ cs',cs'.size = cs.size /\ Blk (w.setCells g o vs) g t cs' /\ ∀ i,i < o -> cs'[i]? = cs[i]?
 | [],_,_,cs,h=>⟨cs,rfl,h,fun _ _=>rfl⟩
 | v :: r,o,w,cs,h=>by
  obtain ⟨cs',h1,h2,h3⟩:=setCells_blk r (o + 1) (w.setCell ⟨g,o,none⟩ v) _ (h.store o v);refine ⟨cs',by simpa using h1,h2,fun i hi=>?_⟩;rw [h3 i (by omega),Array.getElem?_setIfInBounds,if_neg (by omega)]
theorem only_setCells {a:World} {g:Nat}:∀ (vs:List Value) (o:Nat) (w:World),a.grownBy w (some g) -> a.grownBy (w.setCells g o vs) (some g)
 | [],_,_,h=>h
 | v :: r,o,_,h=>only_setCells r (o + 1) _ (only_setCell h (.inl rfl) v)
theorem Nums.ints {w:World} {g:Nat} {cs:Array Value} {l:List Int} (hb:Blk w g 3 cs) (hn:Nums cs l) (hl:l.length <= 17592186043904):Ints w (some ⟨g,0,none⟩) l :=
 ⟨by omega,.inr ⟨g,0,rfl,hb.lt,fun i hi=>⟨_,by simp,rfl,fun j hj=>by
  simp at hj;subst hj;simpa using (hb.cell _).trans (hn.at hi)⟩⟩⟩
structure DelAt (p:Int -> Bool) (l:List Int) (j:Nat) (cs:Array Value):Prop where
 le:j <= l.length
 size:l.length <= cs.size
 few:((l.take j).filter (fun x=>!p x)).length < j
 kept:Nums cs ((l.take j).filter (fun x=>!p x))
 rest:∀ t,(h:t < l.length) -> j <= t -> cs[t]? = some (.int .i64 l[t])
theorem DelAt.skip {p:Int -> Bool} {l:List Int} {j:Nat} {cs:Array Value} (h:DelAt p l j cs) (hj:j < l.length) (hp:p l[j] = true):DelAt p l (j + 1) cs:=by
 have e:(l.take (j + 1)).filter (fun x=>!p x) = (l.take j).filter (fun x=>!p x):=by rw [List.take_succ_eq_append_getElem hj,List.filter_append];simp [hp]
 exact ⟨by omega,h.size,by rw [e];have:=h.few;omega,by rw [e];exact h.kept,fun t ht hjt=>h.rest t ht (by omega)⟩
theorem DelAt.keep {p:Int -> Bool} {l:List Int} {j:Nat} {cs:Array Value} (h:DelAt p l j cs) (hj:j < l.length) (hp:p l[j] = false) :
  DelAt p l (j + 1) (cs.setIfInBounds ((l.take j).filter (fun x=>!p x)).length (.int .i64 l[j])):=by
 have e:(l.take (j + 1)).filter (fun x=>!p x) = (l.take j).filter (fun x=>!p x) ++ [l[j]]:=by rw [List.take_succ_eq_append_getElem hj,List.filter_append];simp [hp]
 refine ⟨by omega,by simpa using h.size,by rw [e];have:=h.few;simp;omega,?_,fun t ht hjt=>?_⟩
 ·have hs:=h.size;have hf:=h.few;have hk:=h.kept;rw [e];generalize (l.take j).filter (fun x=>!p x) = m at hf hk ⊢;refine ⟨by simp;omega,fun t ht=>?_⟩;rw [Array.getElem?_setIfInBounds];by_cases et:m.length = t
  ·subst et;simp;omega
  ·have:t < m.length:=by simp at ht;omega
   rw [if_neg et,hk.2 t this,List.getElem_append_left this]
 ·have hf:=h.few;rw [Array.getElem?_setIfInBounds,if_neg (by omega)];exact h.rest t ht (by omega)
theorem filter_kept_succ {p:Int -> Bool} {l:List Int} {j:Nat} (hj:j < l.length) (hp:p l[j] = false) :
  ((l.take (j + 1)).filter (fun x=>!p x)).length = ((l.take j).filter (fun x=>!p x)).length + 1:=by
 rw [List.take_succ_eq_append_getElem hj,List.filter_append];simp [hp]
theorem filter_kept_same {p:Int -> Bool} {l:List Int} {j:Nat} (hj:j < l.length) (hp:p l[j] = true) :
  ((l.take (j + 1)).filter (fun x=>!p x)).length = ((l.take j).filter (fun x=>!p x)).length:=by
 rw [List.take_succ_eq_append_getElem hj,List.filter_append];simp [hp]
theorem filter_none {p:Int -> Bool} {l:List Int} (h:l.any p = false):l.filter (fun x=>!p x) = l:=by
 rw [List.filter_eq_self];intro x hx;rw [List.any_eq_false] at h;simpa using h x hx
def Kept (p:Int -> Bool) (l:List Int) (g c:Nat) (sz:Nat) (w:World) (e:Ending) (w':World):Prop :=
 e = .returned (.slice (some ⟨g,0,none⟩) (l.filter (fun x=>!p x)).length c) /\ w.grownBy w' (some g) /\ ∃ cs',cs'.size = sz /\ Blk w' g 3 cs' /\ Nums cs' (l.filter (fun x=>!p x))
theorem zero3 (w:World):(zeroValue 3).run Tryz.prog w = .ok (.int .i64 0) w:=by kernel_rfl
set_option maxHeartbeats 1600000 in
theorem deleteFunc_blk (I:World -> Prop) (g:Nat) (hIa:∀ W W',I W -> Aft W W' -> I W') (hIs:∀ W i v,I W -> I (W.setCell ⟨g,i,none⟩ v)) (K:FuncId) (cap:List Value) (p:Int -> Bool)
  (l:List Int) (c:Nat) (cs:Array Value) (w:World) (hl:l.length <= 17592186043904) (hb:Blk w g 3 cs) (hn:Nums cs l) (hlc:l.length <= c) (hI:I w)
  (hK:∀ args w,(callFunc K args).run Tryz.prog w = .ok (.enter K args) w)
  (hp:∀ x ∈ l,∀ W,I W -> Calls Tryz.prog K (.int .i64 x :: cap).toArray W fun e w'=>e = .returned (.bool (p x)) /\ Aft W w') :
  Calls Tryz.prog 47 #[.slice (some ⟨g,0,none⟩) l.length c,.func (.func K) #[] cap.toArray] w (Kept p l g c cs.size w):=by
 have hA:=Nums.ints hb hn hl;have hi:=indexFunc_int IntR K cap p _ l c w hA hK (fun x hx v hv u=>by cases hv;exact hp x hx _ (hIa _ _ hI ⟨u,rfl⟩));have HI:=Lib.hid hi;have HP:=Lib.hid hp;have HS:=Lib.hid hIs;have HAf:=Lib.hid hIa;clear hi hp hIs hIa hA;go_enter Tryz.func47,Tryz.ntmps47;go_wp2_with (go_at_call 95;refine HI.out.mono ?_;rintro e w1 ⟨(⟨rfl,hany⟩ | ⟨k,hkl,rfl,hpk,hany⟩),u,rfl⟩)
 ·have HA:=Lib.hid hany;clear hany;go_wp2;go_ret;refine ⟨by rw [filter_none HA.out];rfl,only_of_aft (Aft.lat _ _) _,cs,rfl,hb.lat u,?_⟩;rw [filter_none HA.out];exact hn
 ·have HA:=Lib.hid hany;clear hany;have HPK:=Lib.hid hpk;clear hpk;have hk0:(0:Int) <= (k:Int):=by omega
  have hkm:((k:Int) == -1) = false:=by rw [beq_eq_false_iff_ne];omega
  go_wp2;rw [hkm];go_loopw [5,6] (fun i j wr=>∃ n:Nat,j = .int .i64 n /\ n <= l.length /\ i = .int .i64 ((l.take n).filter (fun x=>!p x)).length /\ I wr /\ w.grownBy wr (some g) /\ ∃ cs',cs'.size = cs.size /\ Blk wr g 3 cs' /\ DelAt p l n cs')
   (fun _ j _=>l.length - (intOf j).toNat)
  case atStart =>
   have e:(l.take (k + 1)).filter (fun x=>!p x) = l.take k:=by
    rw [List.take_succ_eq_append_getElem hkl,List.filter_append,filter_none HA.out];simp [HPK.out]
   have hkk:(l.take k).length = k:=by simp;omega
   exact ⟨k + 1,by go_num,by omega,by rw [e,hkk],HAf.out _ _ hI (Aft.lat _ _),only_of_aft (Aft.lat _ _) _,cs,rfl,hb.lat u,by omega,hn.1,by rw [e,hkk];omega,
    by rw [e];exact ⟨by have:=hn.1;omega,fun t ht=>by rw [hn.2 t (by omega)];simp⟩,fun t ht _=>hn.2 t ht⟩
  case round =>
   obtain ⟨n,rfl,hnl,rfl,hIw,hg,cs',hs,hb',hd⟩:=hrel;have hfew:=hd.few;have hsz:=hd.size;by_cases hlt:n < l.length
   ·have c1:wr.cell? ⟨g,n,none⟩ = some (.int .i64 l[n]):=by rw [hb'.cell];exact hd.rest n hlt (Nat.le_refl _)
    have hcall:=HP.out l[n] (List.getElem_mem hlt) wr hIw;cases hpn:p l[n]
    ·have HB:=Lib.hid hpn;clear hpn;rw [HB.out] at hcall;have e1:=filter_kept_succ hlt HB.out;have hd':=hd.keep hlt HB.out;generalize (l.take n).filter (fun x=>!p x) = m at *;have E1:=Lib.hid e1;clear e1;have HD:=Lib.hid hd';clear hd';obtain ⟨x,hx⟩:∃ x,cs'[m.length]? = some x:=⟨_,Array.getElem?_eq_getElem (by omega)⟩;have c2:wr.cell? ⟨g,m.length,none⟩ = some x:=(hb'.cell _).trans hx;have f2:=hb'.frozen m.length;have hgl:=hb'.lt;go_wp2_with (refine hcall.mono ?_;rintro e w' ⟨rfl,u1,rfl⟩;clear hcall)
     go_roundw
     case rel =>
      exact ⟨n + 1,by go_num,by omega,by rw [E1.out];go_num,HS.out _ _ _ (HAf.out _ _ hIw (Aft.lat _ _)),only_setCell (only_aft hg (Aft.lat _ _)) (.inl rfl) _,_,by simp [hs],(hb'.lat u1).store _ _,HD.out⟩
     case measure=>simp [intOf];omega
    ·have HB:=Lib.hid hpn;clear hpn;rw [HB.out] at hcall;have e1:=filter_kept_same hlt HB.out;have E1:=Lib.hid e1;clear e1;go_wp2_with (refine hcall.mono ?_;rintro e w' ⟨rfl,u1,rfl⟩;clear hcall)
     go_roundw
     case rel=>exact ⟨n + 1,by go_num,by omega,by rw [E1.out],HAf.out _ _ hIw (Aft.lat _ _),only_aft hg (Aft.lat _ _),cs',hs,hb'.lat u1,hd.skip hlt HB.out⟩
     case measure=>simp [intOf];omega
   ·have hnn:n = l.length:=by omega
    have hall:(l.take n).filter (fun x=>!p x) = l.filter (fun x=>!p x):=by rw [List.take_of_length_le (by omega)]
    have hkept:=hd.kept;rw [hall] at hkept hfew ⊢;have HALL:=Lib.hid hall;clear hall;have hle:n <= l.length:=by omega
    have hge:l.length <= n:=by omega
    clear hnn;generalize hM:l.filter (fun x=>!p x) = m at *;have HM:=Lib.hid hM;clear hM
    have hcl:∀ ty,(Builtin.clear_ #[33] ty #[.slice (some ⟨g,m.length,none⟩) (l.length - m.length) (c - m.length)]).run Tryz.prog wr = .ok (.tuple #[]) (wr.setCells g m.length (List.replicate (l.length - m.length) (.int .i64 0))):=fun ty =>
     Lib.run_clear_slice wr 33 3 ty (.int .i64 0) Tryz.underlying33 zero3 rfl rfl g m.length _ _ (by omega)
      (fun j hj=>by rw [hb'.cell,Array.getElem?_eq_getElem (by omega)];rfl) (fun j hj=>hb'.frozen _)
    go_wp2;go_ret;obtain ⟨cs'',h1,h2,h3⟩:=setCells_blk (g:=g) (t:=3) (List.replicate (l.length - m.length) (.int .i64 0)) m.length wr cs' hb';refine ⟨by rw [HM.out];rfl,only_setCells _ _ _ hg,cs'',by omega,h2,?_⟩;rw [HM.out];exact ⟨by have:=hkept.1;omega,fun t ht=>(h3 t ht).trans (hkept.2 t ht)⟩
end Go.Proofs
end
section
/- A set of strikes in a map of the call's own. -/
namespace Go.Proofs
open Go.RowKit Go.Maps Go.WideMaps
def strV (s:Int × Int):Value:=.agg #[.int .i64 s.1,.int .i64 s.2]
def SmallS (s:Int × Int):Prop:=(0 <= s.1 /\ s.1 <= 13) /\ (0 <= s.2 /\ s.2 <= 13)
theorem strV_inj {s t:Int × Int} (h:strV s = strV t):s = t:=by
 unfold strV at h;obtain ⟨a,b⟩:=s;obtain ⟨c,d⟩:=t;simpa using h
theorem laidOutZ:laidOutB Tryz.prog = true:=by kernel_rfl
theorem rowZ57:(57:TypeId) < Tryz.prog.types.size:=of_decide_eq_true (by kernel_rfl)
theorem keyZ57:Tryz.prog.keyTypeAt 2 57 = true:=by kernel_rfl
theorem strKeyed:Keyed Tryz.prog 57:=Keyed.of_law (deep_law_laid laidOutZ (m:=2) (Nat.le_of_ble_eq_true (by kernel_rfl)) rowZ57 keyZ57 (by rw [Tryz.underlying57]))
theorem keysOk_true:((List.range 14).all fun a=>(List.range 14).all fun b=>(keyOf Tryz.prog 57 (.agg #[.int .i64 (a:Int),.int .i64 (b:Int)])).isSome) = true:=by kernel_rfl
theorem SmallS.key {s:Int × Int} (h:SmallS s):∃ kl,keyOf Tryz.prog 57 (strV s) = some kl:=by
 obtain ⟨⟨h1,h2⟩,h3,h4⟩:=h;have:=keysOk_true;have:=List.all_eq_true.1 this s.1.toNat (List.mem_range.2 (by omega));have:=List.all_eq_true.1 this s.2.toNat (List.mem_range.2 (by omega));rw [Int.toNat_of_nonneg h1,Int.toNat_of_nonneg h3] at this;exact Option.isSome_iff_exists.1 this
def SetS (W:World) (b n:Nat) (S:List (Int × Int)):Prop :=
 ∃ D:DataW Unit,W.ownsMap Tryz.prog 57 (plainElem Tryz.prog 4) b n D /\ ∀ s kl,SmallS s -> keyOf Tryz.prog 57 (strV s) = some kl -> D.atKey kl (.lit (.bool false)) = .lit (.bool (decide (s ∈ S)))
theorem SetS.made (W:World):SetS (W.alloc (.map #[] 0)) W.heap.size 0 []:=⟨_,World.ownsMap_made _ _ _ _,fun l _ _ _=>by simp [WideAt.atKey_nil,DataW.atKey]⟩
theorem SetS.kept {W W':World} {b n:Nat} {S:List (Int × Int)} (h:SetS W b n S) {row:Option Nat} (hg:W.grownBy W' row) (hne:some b ≠ row):SetS W' b n S:=let ⟨D,h1,h2⟩:=h;⟨D,h1.kept hg hne,h2⟩
theorem SetS.aft {W W':World} {b n:Nat} {S:List (Int × Int)} (h:SetS W b n S) (ha:Aft W W'):SetS W' b n S:=h.kept (only_aft (only_refl W none) ha) (by simp)
theorem SetS.look {W:World} {b n:Nat} {S:List (Int × Int)} (h:SetS W b n S) {s:Int × Int} (hs:SmallS s):(Instr.lookup 115 (.map (some b)) (strV s) false).run Tryz.prog W = .ok (.bool (decide (s ∈ S))) W:=by
 obtain ⟨D,h1,h2⟩:=h;obtain ⟨kl,hk⟩:=hs.key;obtain ⟨v,ps,hrun,hv⟩:=h1.lookup strKeyed (e:=4) (t:=115) Tryz.underlying115 (Tryz.zeroValue4 W) (plainElem_bool Tryz.underlying4 false) hk;rw [h2 s kl hs hk] at hv
 have hv':v = .bool (decide (s ∈ S)):=by
  unfold plainElem at hv;cases v <;> simp_all [Tryz.underlying4]
 rw [hrun,hv']
theorem SetS.put {W:World} {b n:Nat} {S:List (Int × Int)} (h:SetS W b n S) {s:Int × Int} (hs:SmallS s) (hn:n < 1000000):∃ w',(Instr.mapUpdate 115 (.map (some b)) (strV s) (.bool true)).run Tryz.prog W = .ok () w' /\ SetS w' b (n + 1) (S ++ [s]) /\ W.grownBy w' (some b):=by
 obtain ⟨D,h1,h2⟩:=h;obtain ⟨kl,hk⟩:=hs.key;obtain ⟨w',hrun,h3,h4⟩:=h1.update strKeyed (e:=4) (t:=115) Tryz.underlying115 (by unfold maxLen;omega) hk (plainElem_bool Tryz.underlying4 true);refine ⟨w',hrun,⟨_,h3,fun s' kl' hs' hk'=>?_⟩,h4⟩;by_cases e:s' = s
 ·subst e;rw [hk] at hk';cases hk';rw [atKey_put_same h1.isMap (strKeyed.key hk)]
  simp
 ·have hne:kl' ≠ kl:=fun e'=>e (by
   subst e';exact strV_inj (strKeyed.inj hk' hk))
  rw [atKey_put_other hne,h2 s' kl' hs' hk'];have:decide (s' ∈ S ++ [s]) = decide (s' ∈ S):=by simp [e]
  rw [this]
end Go.Proofs
end
section
/- Check: its errors in plain words;the closure that asks of a strike. -/
namespace Go.Proofs
open Go.RowKit
def surveysE (N:Int):List (List Int) -> Int
 | []=>0
 | l :: r=>if fromB l.length 1 6 then (if listedE N l = 0 then surveysE N r else listedE N l) else 3
def inB (N:Int) (s:Int × Int):Bool:=Cl s.1 N && Cl s.2 N
def caseE (C:CaseL):Int :=
 if !fromB C.claims 1 14 || decide (60 < C.strikes.length) || decide (6 < C.surveys.length) then 3
 else if !C.strikes.all (inB C.claims) then 2
 else if ¬ C.strikes.Nodup then 6
 else surveysE C.claims C.surveys
theorem fromB_iff {n a b:Int}:fromB n a b = true ↔ a <= n /\ n <= b:=by unfold fromB;simp
theorem Cl_iff {n N:Int}:Cl n N = true ↔ 0 <= n /\ n < N:=by unfold Cl;rw [fromB_iff];omega
theorem inB_iff {N:Int} {s:Int × Int}:inB N s = true ↔ (0 <= s.1 /\ s.1 < N) /\ (0 <= s.2 /\ s.2 < N):=by unfold inB;rw [Bool.and_eq_true,Cl_iff,Cl_iff]
structure CaseOk (C:CaseL):Prop where
 n1:1 <= C.claims
 n2:C.claims <= 14
 few:C.strikes.length <= 60
 fews:C.surveys.length <= 6
 ins:∀ s ∈ C.strikes,(0 <= s.1 /\ s.1 < C.claims) /\ (0 <= s.2 /\ s.2 < C.claims)
 once:C.strikes.Nodup
 svs:∀ l ∈ C.surveys,(1 <= l.length /\ l.length <= 6) /\ listedE C.claims l = 0
theorem surveysE_ok {N:Int}:∀ {L:List (List Int)},surveysE N L = 0 -> ∀ l ∈ L,(1 <= l.length /\ l.length <= 6) /\ listedE N l = 0
 | [],_,l,hl=>by simp at hl
 | l :: r,h,l',hl=>by
  unfold surveysE at h;split at h
  ·rename_i hf
   have hf:=fromB_iff.1 hf;split at h
   ·rename_i he
    rcases List.mem_cons.1 hl with rfl | hl
    ·exact ⟨by omega,he⟩
    ·exact surveysE_ok h l' hl
   ·rename_i he;exact absurd h he
  ·cases h
theorem caseE_ok {C:CaseL} (h:caseE C = 0):CaseOk C:=by
 unfold caseE at h;split at h
 ·cases h
 rename_i h1
 split at h
 ·cases h
 rename_i h2
 split at h
 ·cases h
 rename_i h3
 simp only [Bool.or_eq_true,Bool.not_eq_true',decide_eq_true_eq,not_or,Bool.not_eq_false] at h1 h2;obtain ⟨⟨a,b⟩,c⟩:=h1;have a:=fromB_iff.1 a;refine ⟨a.1,a.2,by omega,by omega,fun s hs=>inB_iff.1 (List.all_eq_true.1 h2 s hs),by simpa using h3,surveysE_ok h⟩
theorem runs_84 (args:Array Value) (w:World):(callFunc 84 args).run Tryz.prog w = .ok (.enter 84 args) w:=by simp [go_sem]
set_option maxHeartbeats 400000 in
theorem check1_any (x y N:Int) (a1 a2:Option Addr) (n1 n2 c1 c2 b:Nat) (w:World) (hN:1 <= N /\ N <= 14) (hb:Blk w b 25 #[.int .i64 N,.slice a1 n1 c1,.slice a2 n2 c2]) :
  Calls Tryz.prog 84 #[.agg #[.int .i64 x,.int .i64 y],.pointer (some ⟨b,0,none⟩)] w fun e w'=>e = .returned (.bool (!Cl x N || !Cl y N)) /\ Aft w w':=by
 have k0:=hb.cell 0;have k1:=hb.cell 1;have k2:=hb.cell 2;have hlt:=hb.lt;simp only [List.getElem?_toArray,List.getElem?_cons_zero,List.getElem?_cons_succ] at k0 k1 k2;have HB:=Lib.hid hb;clear hb;go_enter Tryz.func84,Tryz.ntmps84;cases h1:Cl x N
 ·have H1:=Lib.hid h1;clear h1;go_wp2_with (go_at_call 59;refine (strange_any N x a1 a2 n1 n2 c1 c2 _ hN).mono ?_;rintro e w' ⟨rfl,u,rfl⟩;rw [H1.out])
  go_ret;exact ⟨rfl,(Aft.alloc _ _).then_lat _⟩
 ·have H1:=Lib.hid h1;clear h1;go_wp2_with (first | (go_at_call_of 59 (Value.int IntKind.i64 x);refine (strange_any N x a1 a2 n1 n2 c1 c2 _ hN).mono ?_;rintro e w' ⟨rfl,u,rfl⟩;rw [H1.out]) | (go_at_call_of 59 (Value.int IntKind.i64 y);refine (strange_any N y a1 a2 n1 n2 c1 c2 _ hN).mono ?_;rintro e w' ⟨rfl,u2,rfl⟩))
  go_ret;exact ⟨rfl,((Aft.alloc _ _).then_lat _).then_lat _⟩
theorem check1_asks (x y N:Int) (a1 a2:Option Addr) (n1 n2 c1 c2 b:Nat) (w:World) (hN:1 <= N /\ N <= 14) (hb:Blk w b 25 #[.int .i64 N,.slice a1 n1 c1,.slice a2 n2 c2]) :
  Asks Tryz.prog 84 [.pointer (some ⟨b,0,none⟩)] w (.agg #[.int .i64 x,.int .i64 y]) (!Cl x N || !Cl y N):=fun u=>check1_any x y N a1 a2 n1 n2 c1 c2 b _ hN (hb.lat u)
theorem none_check1 (N:Int) (a1 a2:Option Addr) (n1 n2 c1 c2 b:Nat) (A:Option Addr) (l:List (Int × Int)) (c:Nat) (w:World) (hN:1 <= N /\ N <= 14) (hb:Blk w b 25 #[.int .i64 N,.slice a1 n1 c1,.slice a2 n2 c2]) (hA:Strs w A l) :
  Calls Tryz.prog 83 #[.slice A l.length c,.func (.func 84) #[] #[.pointer (some ⟨b,0,none⟩)]] w fun e w'=>e = .returned (.bool (l.all (inB N))) /\ Aft w w' :=
 (none_strike StrR 84 [.pointer (some ⟨b,0,none⟩)] (fun s=>!Cl s.1 N || !Cl s.2 N) A l c w hA runs_84 (fun s _ v0 v1 hv=>by cases hv;exact check1_asks s.1 s.2 N a1 a2 n1 n2 c1 c2 b w hN hb)).mono
  fun _ _ ⟨h,ha⟩=>⟨by rw [h];exact ret_bool (by
   rw [List.all_eq_not_any_not]
   congr 1
   congr 1
   funext s
   unfold inB;rw [Bool.not_and]),ha⟩
end Go.Proofs
end
