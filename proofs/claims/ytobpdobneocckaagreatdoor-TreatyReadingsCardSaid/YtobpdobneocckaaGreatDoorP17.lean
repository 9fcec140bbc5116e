/- Own texts, merged: Rlg Rpn Rln Rrd. -/
import Derived.Test.YtobpdobneocckaaGreatDoorP16
section
/- Walks: the reference's legs. -/
namespace Go.Proofs
open Go.RowKit
attribute [local go_sem] Oper.semAt_some
theorem own_slice2 {w:World} {base e sz n:Nat} {v:Value} {xs:List Value} (h:w.ownsRow base e sz v n xs):∃ A c,v = .slice A n c:=by
 rcases h.2 with ⟨rfl,h0⟩ | ⟨g,cap,cur,rfl,_⟩
 ·exact ⟨none,0,by rw [h0]⟩
 ·exact ⟨_,_,rfl⟩
theorem LTab.mono {W:World} {base b:Nat} {v:Value} {n P:Nat} {f:Nat -> Nat -> Nat -> Bool} (h:LTab W base v n P f) (hb:b <= base):LTab W b v n P f:=let ⟨vs,h1,h2⟩:=h.ex;⟨vs,World.ownsRow.mono h1 hb,h2⟩
set_option maxRecDepth 100000 in
set_option maxHeartbeats 4000000 in
theorem legsRef_any (w:World) (T:Treaty) (a1 a2 a3 a4:Option Addr) (c1 c2 c3 c4:Nat) (R:List Int) (AR:Option Addr) (cR:Nat) (hT:TRep w T a1 a2 a3 a4) (hR:Ints w AR R) (ok:TOk T) (hro:ReadOk T R) :
  Calls Tryz.prog 115 #[.agg #[.int .i64 T.places,.slice a1 T.ways.length c1,.slice a2 T.words.length c2,.slice a3 T.starts.length c3,.slice a4 T.legs.length c4],.slice AR R.length cR] w fun e w'=>∃ v,e = .returned v /\ Aft w w' /\ LTab w' w.heap.size v T.legs.length T.places.toNat (leadsF T R):=by
 have HCA:=Lib.hid (fun (y:World) (hy:Aft w y) (i:Nat) (hi:i < T.legs.length)=>canRef_any y T a1 a2 a3 a4 c1 c2 c3 c4 R AR cR (hT.aft hy) (hR.aft hy) ok hro hi);have hln:=ok.nlegs;clear hT hR ok hro;go_enter Tryz.func115,Tryz.ntmps115;go_upto_region 1 with fail
 have hb:=Blk.new w 35 #[.int .i64 T.places,.slice a1 T.ways.length c1,.slice a2 T.words.length c2,.slice a3 T.starts.length c3,.slice a4 T.legs.length c4];have ha:=Aft.alloc w (.cells #[.int .i64 T.places,.slice a1 T.ways.length c1,.slice a2 T.words.length c2,.slice a3 T.starts.length c3,.slice a4 T.legs.length c4] 35);generalize w.alloc (.cells #[.int .i64 T.places,.slice a1 T.ways.length c1,.slice a2 T.words.length c2,.slice a3 T.starts.length c3,.slice a4 T.legs.length c4] 35) = X at *;have HB:=Lib.hid hb;have HA:=Lib.hid ha;have hsz:=ha.size;have HL0:Hid (Aft X X /\ LTab X X.heap.size (.slice none 0 0) 0 T.places.toNat (leadsF T R)):=Lib.hid ⟨Aft.refl _,LTab.nil _ _ _ _⟩;clear hb ha;(repeat (first | go_big_skip | go_big_want | go_big_move | go_big_op | go_step | go_upon | go_back));go_loopw [5,6] (fun v i wr=>∃ k:Nat,i = .int .i64 k /\ k <= T.legs.length /\ Aft X wr /\ LTab wr X.heap.size v k T.places.toNat (leadsF T R)) (fun _ i _=>T.legs.length - (intOf i).toNat)
 case atStart=>exact ⟨0,rfl,by omega,HL0.out⟩
 case round =>
  obtain ⟨k,rfl,hk,haX,ht⟩:=hrel;obtain ⟨vs,hown,hts⟩:=ht.ex;obtain ⟨sA,sc,rfl⟩:=own_slice2 hown;have HAX:=Lib.hid haX;have HLT:=Lib.hid ht;have HOW:=Lib.hid hown;have HTS:=Lib.hid hts;have hBw:=HB.out.aft haX;have k0:wr.cell? ⟨w.heap.size,0,none⟩ = some (.int .i64 T.places):=hBw.cell 0;have k1:wr.cell? ⟨w.heap.size,1,none⟩ = some (.slice a1 T.ways.length c1):=hBw.cell 1;have k2':wr.cell? ⟨w.heap.size,2,none⟩ = some (.slice a2 T.words.length c2):=hBw.cell 2;have k3:wr.cell? ⟨w.heap.size,3,none⟩ = some (.slice a3 T.starts.length c3):=hBw.cell 3;have k4:wr.cell? ⟨w.heap.size,4,none⟩ = some (.slice a4 T.legs.length c4):=hBw.cell 4;have hszr:=haX.size;clear haX ht hown hts hBw HL0;by_cases hkn:k < T.legs.length
  ·have hdec:decide (k < T.legs.length) = true:=decide_eq_true hkn;(repeat (first | go_big_skip | go_big_want | go_big_move | go_big_op | go_step | go_upon | go_back));go_at_call 145;refine (HCA.out wr (HA.out.trans HAX.out) k hkn).mono ?_;rintro e z ⟨t,rfl,haz,htz⟩;obtain ⟨bt,ct,rfl,-⟩:=htz.cells;dsimp only;have HTZ:=Lib.hid htz;have HAZ:=Lib.hid haz;have hszz:=haz.size;clear k0 k1 k2' k3 k4 haz htz;go_upto_region 4 with (at_builtin;go_loud (refine wpList_app1 ty135 rfl _ _ rfl (Nat.le_trans hszr (HAZ.out.then_alloc _).size) rfl (own_aft HOW.out (HAZ.out.then_alloc _)) rfl (Blk.new _ _ _) rfl (fun u hu=>by rw [List.mem_singleton] at hu;subst hu;rfl) (by omega) (by decide) ?_;intro v' w6 hown6 hg6 hat6;have HLT6:=Lib.hid (HLT.out.push (HAZ.out.then_alloc _) (HTZ.out.aft (Aft.alloc _ _)) HOW.out HTS.out hown6 hg6);have HA7:=Lib.hid ((HAX.out.trans (HAZ.out.then_alloc _)).grown hg6 (fun q e=>(HOW.out.lt q e).1));clear hown6 hg6 hat6))
   (repeat (first | go_big_skip | go_big_want | go_big_move | go_big_op | go_step | go_upon | go_back));exact ⟨⟨k + 1,by go_num,by omega,HA7.out,HLT6.out⟩,by simp [intOf];omega⟩
  ·have hdec:decide (k < T.legs.length) = false:=decide_eq_false hkn;obtain rfl:k = T.legs.length:=by omega
   (repeat (first | go_big_skip | go_big_want | go_big_move | go_big_op | go_step | go_upon | go_back));go_ret;exact ⟨_,rfl,HA.out.trans HAX.out,HLT.out.mono hsz⟩
end Go.Proofs
end
section
/- Plain: the reference's lines,which grow leg by leg,are all lines. -/
namespace Go.Proofs
def lastN (l:List Int):Nat:=(l.getLastD 0).toNat
def compl (T:Treaty) (f:Nat -> Nat -> Nat -> Bool) (k leg:Nat) (l:List Int):List (List Int):=(linesFrom T f k leg (lastN l)).map (l.dropLast ++ ·)
def growTo (T:Treaty) (f:Nat -> Nat -> Nat -> Bool) (k leg:Nat) (l:List Int) (n:Nat):List (List Int):=((List.range n).filter fun b=>f leg (lastN l) b && ahd T f k (leg + 1) b).map fun b:Nat=>l ++ [(b:Int)]
def growL (T:Treaty) (f:Nat -> Nat -> Nat -> Bool) (k leg:Nat) (l:List Int):List (List Int):=growTo T f k leg l T.places.toNat
theorem growTo_succ (T:Treaty) (f:Nat -> Nat -> Nat -> Bool) (k leg:Nat) (l:List Int) (n:Nat):growTo T f k leg l (n + 1) = growTo T f k leg l n ++ (if (f leg (lastN l) n && ahd T f k (leg + 1) n) = true then [l ++ [(n:Int)]] else []):=by
 unfold growTo;rw [List.range_succ,List.filter_append,List.map_append]
 congr 1
 cases h:(f leg (lastN l) n && ahd T f k (leg + 1) n) <;> (simp only [List.filter_cons,List.filter_nil,h];rfl)
theorem growTo_le (T:Treaty) (f:Nat -> Nat -> Nat -> Bool) (k leg:Nat) (l:List Int) (n:Nat):(growTo T f k leg l n).length <= n:=by
 unfold growTo;rw [List.length_map];have:=List.length_filter_le (fun b=>f leg (lastN l) b && ahd T f k (leg + 1) b) (List.range n);simpa using this
theorem lastN_app (p:List Int) (a:Nat):lastN (p ++ [(a:Int)]) = a:=by unfold lastN;simp
def GoodP (T:Treaty) (f:Nat -> Nat -> Nat -> Bool) (k leg:Nat) (l:List Int):Prop:=∃ p,∃ a:Nat,l = p ++ [(a:Int)] /\ p.length = leg /\ a < T.places.toNat /\ ahd T f k leg a = true
theorem compl_app (T:Treaty) (f:Nat -> Nat -> Nat -> Bool) (k leg:Nat) (p:List Int) (a:Nat):compl T f k leg (p ++ [(a:Int)]) = (linesFrom T f k leg a).map (p ++ ·):=by
 unfold compl;rw [lastN_app];simp
theorem compl_zero {T:Treaty} {f:Nat -> Nat -> Nat -> Bool} {leg:Nat} {l:List Int} (h:GoodP T f 0 leg l):compl T f 0 leg l = [l]:=by
 obtain ⟨p,a,rfl,-⟩:=h;rw [compl_app];rfl
theorem compl_one {T:Treaty} {f:Nat -> Nat -> Nat -> Bool} {k leg:Nat} {l:List Int} (h:GoodP T f k leg l):1 <= (compl T f k leg l).length:=by
 obtain ⟨p,a,rfl,-,-,h⟩:=h;rw [compl_app,List.length_map]
 cases hn:linesFrom T f k leg a with
 | nil=>rw [(linesFrom_nil k leg a).2 hn] at h;cases h
 | cons=>simp
theorem flatMap_filter_if {α β:Type} (l:List α) (p:α -> Bool) (g:α -> List β):(l.filter p).flatMap g = l.flatMap fun a=>if p a = true then g a else []:=by
 induction l with
 | nil=>rfl
 | cons a l ih =>
  rw [List.flatMap_cons,<- ih];cases h:p a <;> simp [List.filter_cons,h]
theorem flatMap_congr' {α β:Type} {l:List α} {g g':α -> List β} (h:∀ a ∈ l,g a = g' a):l.flatMap g = l.flatMap g':=by
 induction l with
 | nil=>rfl
 | cons a l ih=>rw [List.flatMap_cons,List.flatMap_cons,h a (by simp),ih fun b hb=>h b (by simp [hb])]
theorem compl_grow {T:Treaty} {f:Nat -> Nat -> Nat -> Bool} {k leg:Nat} {l:List Int} (h:GoodP T f (k + 1) leg l):(growL T f k leg l).flatMap (compl T f k (leg + 1)) = compl T f (k + 1) leg l:=by
 obtain ⟨p,a,rfl,-,-,-⟩:=h;rw [compl_app,<- linesTo_all];unfold growL growTo linesTo;rw [List.flatMap_map,flatMap_filter_if,lastN_app];refine flatMap_congr' fun b _=>?_
 cases h1:f leg a b with
 | false=>simp
 | true =>
  cases h2:ahd T f k (leg + 1) b with
  | false=>rw [(linesFrom_nil k (leg + 1) b).1 h2];simp
  | true=>simp only [Bool.and_self,if_pos];exact compl_app T f k (leg + 1) _ b
theorem grow_good {T:Treaty} {f:Nat -> Nat -> Nat -> Bool} {k leg:Nat} {l:List Int} (h:GoodP T f (k + 1) leg l):∀ x ∈ growL T f k leg l,GoodP T f k (leg + 1) x:=by
 obtain ⟨p,a,rfl,h1,-,-⟩:=h;intro x hx;unfold growL growTo at hx;rw [List.mem_map] at hx;obtain ⟨b,hb,rfl⟩:=hx;rw [List.mem_filter,List.mem_range,Bool.and_eq_true] at hb;exact ⟨_,b,rfl,by simp [h1],hb.1,hb.2.2⟩
theorem grow_one {T:Treaty} {f:Nat -> Nat -> Nat -> Bool} {k leg:Nat} {l:List Int} (h:GoodP T f (k + 1) leg l):1 <= (growL T f k leg l).length:=by
 cases hg:growL T f k leg l with
 | nil =>
  have h1:=compl_one h;rw [<- compl_grow h,hg] at h1;exact absurd h1 (by simp)
 | cons=>simp
theorem flatMap_len {α β:Type} {l:List α} {g:α -> List β} (h:∀ a ∈ l,1 <= (g a).length):l.length <= (l.flatMap g).length:=by
 induction l with
 | nil=>simp
 | cons a l ih =>
  rw [List.flatMap_cons,List.length_append,List.length_cons];have:=h a (by simp);have:=ih fun b hb=>h b (by simp [hb])
  omega
structure GrowI (T:Treaty) (f:Nat -> Nat -> Nat -> Bool) (i:Nat) (all rest:List (List Int)):Prop where
 eq:linesL T f = (all ++ rest).flatMap (compl T f (T.legs.length - i) i)
 good:∀ l ∈ all ++ rest,GoodP T f (T.legs.length - i) i l
 cut:rest = [] \/ 1000 <= all.length
theorem GrowI.step {T:Treaty} {f:Nat -> Nat -> Nat -> Bool} {i:Nat} {all rest:List (List Int)} (h:GrowI T f i all rest) (hi:i < T.legs.length) {k:Nat}
  (hc:all.length <= k \/ 1000 <= ((all.take k).flatMap (growL T f (T.legs.length - (i + 1)) i)).length) :
  GrowI T f (i + 1) ((all.take k).flatMap (growL T f (T.legs.length - (i + 1)) i)) ((all.drop k ++ rest).flatMap (growL T f (T.legs.length - (i + 1)) i)):=by
 have e:T.legs.length - i = T.legs.length - (i + 1) + 1:=by omega
 have hg:=h.good;have he:=h.eq;rw [e] at hg he;generalize hm:T.legs.length - (i + 1) = m at e hg he hc ⊢
 have hcat:(all.take k).flatMap (growL T f m i) ++ (all.drop k ++ rest).flatMap (growL T f m i) = (all ++ rest).flatMap (growL T f m i):=by
  rw [<- List.flatMap_append,<- List.append_assoc,List.take_append_drop]
 refine ⟨?_,fun l hl=>?_,?_⟩
 ·rw [hcat,List.flatMap_assoc,he,hm];exact (flatMap_congr' fun l hl=>compl_grow (hg l hl)).symm
 ·rw [hcat,List.mem_flatMap] at hl;obtain ⟨x,h1,h2⟩:=hl;rw [hm];exact grow_good (hg x h1) l h2
 ·rcases hc with hk | hk
  ·rw [List.drop_of_length_le hk,List.take_of_length_le hk,List.nil_append];rcases h.cut with h1 | h1
   ·left;rw [h1];rfl
   ·right;exact Nat.le_trans h1 (flatMap_len fun l hl=>grow_one (hg l (by simp [hl])))
  ·exact .inr hk
theorem GrowI.start {T:Treaty} {f:Nat -> Nat -> Nat -> Bool} (hs:∀ x ∈ T.starts,0 <= x /\ x < T.places):GrowI T f 0 ((T.starts.filter fun s=>ahd T f T.legs.length 0 s.toNat).map fun s=>[s]) []:=by
 refine ⟨?_,fun l hl=>?_,.inl rfl⟩
 ·rw [List.append_nil,List.flatMap_map,flatMap_filter_if,Nat.sub_zero];unfold linesL;refine flatMap_congr' fun s h1=>?_
  have h2:=hs s h1;obtain ⟨n,rfl⟩:=Int.eq_ofNat_of_zero_le h2.1
  have e:compl T f T.legs.length 0 [(n:Int)] = linesFrom T f T.legs.length 0 n:=by
   have:=compl_app T f T.legs.length 0 [] n;rw [List.nil_append] at this;rw [this]
   simp
  rw [e,Int.toNat_natCast]
  cases h3:ahd T f T.legs.length 0 n with
  | false=>rw [(linesFrom_nil _ 0 n).1 h3];simp
  | true=>simp
 ·rw [List.append_nil,List.mem_map] at hl;obtain ⟨s,h1,rfl⟩:=hl;rw [List.mem_filter] at h1;have h2:=hs s h1.1;obtain ⟨n,rfl⟩:=Int.eq_ofNat_of_zero_le h2.1;exact ⟨[],n,rfl,rfl,by omega,by simpa using h1.2⟩
theorem GrowI.done {T:Treaty} {f:Nat -> Nat -> Nat -> Bool} {all rest:List (List Int)} (h:GrowI T f T.legs.length all rest):(all.length <= 200 -> linesL T f = all) /\ (200 < all.length -> 200 < (linesL T f).length):=by
 have hg:=h.good;have he:=h.eq;rw [Nat.sub_self] at hg he
 have h1:linesL T f = all ++ rest:=by
  rw [he]
  have:∀ l:List (List Int),(∀ x ∈ l,compl T f 0 T.legs.length x = [x]) -> l.flatMap (compl T f 0 T.legs.length) = l:=by
   intro l
   induction l with
   | nil=>intro _;rfl
   | cons a l ih =>
    intro h;rw [List.flatMap_cons,h a (by simp),ih fun x hx=>h x (by simp [hx])];rfl
  exact this _ fun x hx=>compl_zero (hg x hx)
 refine ⟨fun h2=>?_,fun h2=>?_⟩
 ·rcases h.cut with h3 | h3
  ·rw [h1,h3,List.append_nil]
  ·omega
 ·rw [h1,List.length_append];omega
theorem GrowI.pre {T:Treaty} {f:Nat -> Nat -> Nat -> Bool} {all rest:List (List Int)} (h:GrowI T f T.legs.length all rest):∃ rest,linesL T f = all ++ rest:=by
 have hg:=h.good;have he:=h.eq;rw [Nat.sub_self] at hg he;refine ⟨rest,?_⟩;rw [he]
 have:∀ l:List (List Int),(∀ x ∈ l,compl T f 0 T.legs.length x = [x]) -> l.flatMap (compl T f 0 T.legs.length) = l:=by
  intro l
  induction l with
  | nil=>intro _;rfl
  | cons a l ih =>
   intro h;rw [List.flatMap_cons,h a (by simp),ih fun x hx=>h x (by simp [hx])];rfl
 exact this _ fun x hx=>compl_zero (hg x hx)
end Go.Proofs
end
section
/- Walks: the reference's lines. -/
namespace Go.Proofs
open Go.RowKit
attribute [local go_sem] Oper.semAt_some
def opnF (T:Treaty) (f:Nat -> Nat -> Nat -> Bool) (n k a:Nat) (x:Bool):Nat -> Nat -> Bool:=fun i c=>if k <= i \/ i + 1 = k /\ c < a then ahd T f (n - i) i c else if i + 1 = k /\ c = a then x else false
theorem opnF_set {T:Treaty} {f:Nat -> Nat -> Nat -> Bool} {n i a:Nat} {x y:Bool} (i' c:Nat):upd2 (opnF T f n (i + 1) a x) i a y i' c = opnF T f n (i + 1) a y i' c:=by
 unfold upd2 opnF;by_cases e:i' = i /\ c = a
 ·obtain ⟨rfl,rfl⟩:=e;rw [if_pos ⟨rfl,rfl⟩,if_neg (by omega),if_pos ⟨rfl,rfl⟩]
 ·rw [if_neg e];by_cases e1:i + 1 <= i' \/ i' + 1 = i + 1 /\ c < a
  ·rw [if_pos e1,if_pos e1]
  ·rw [if_neg e1,if_neg e1,if_neg (by omega),if_neg (by omega)]
theorem opnF_next {T:Treaty} {f:Nat -> Nat -> Nat -> Bool} {n i a:Nat} {x:Bool} (hx:x = ahd T f (n - i) i a) (i' c:Nat):opnF T f n (i + 1) a x i' c = opnF T f n (i + 1) (a + 1) false i' c:=by
 unfold opnF;by_cases e1:i + 1 <= i' \/ i' + 1 = i + 1 /\ c < a
 ·rw [if_pos e1,if_pos (by omega)]
 ·rw [if_neg e1];by_cases e2:i' + 1 = i + 1 /\ c = a
  ·have e3:i' = i:=by omega
   obtain ⟨_,rfl⟩:=e2;subst e3;rw [if_pos ⟨rfl,rfl⟩,if_pos (by omega),hx]
  ·rw [if_neg e2,if_neg (by omega)];split <;> rfl
theorem opnF_row {T:Treaty} {f:Nat -> Nat -> Nat -> Bool} {n i P:Nat} (i' c:Nat) (hc:c < P):opnF T f n (i + 1) P false i' c = opnF T f n i 0 false i' c:=by
 unfold opnF;by_cases e1:i <= i'
 ·rw [if_pos (by omega),if_pos (by omega)]
 ·rw [if_neg (by omega),if_neg (by omega),if_neg (by omega)];split <;> rfl
def anyTo (T:Treaty) (f:Nat -> Nat -> Nat -> Bool) (k i a b:Nat):Bool:=(List.range b).any fun b=>f i a b && ahd T f k (i + 1) b
theorem anyTo_succ (T:Treaty) (f:Nat -> Nat -> Nat -> Bool) (k i a b:Nat):anyTo T f k i a (b + 1) = (anyTo T f k i a b || (f i a b && ahd T f k (i + 1) b)):=by
 unfold anyTo;rw [List.range_succ,List.any_append];simp
def CN2' (X:World) (P:Nat) (B:Nat -> Nat) (v:Value) (n:Nat) (g:Nat -> Nat -> Bool) (W:World):Prop:=Aft X W /\ BTab W X.heap.size v B n P g
def sttL (T:Treaty) (f:Nat -> Nat -> Nat -> Bool) (k:Nat):List (List Int):=((T.starts.take k).filter fun s=>ahd T f T.legs.length 0 s.toNat).map fun s=>[s]
theorem sttL_succ {T:Treaty} {f:Nat -> Nat -> Nat -> Bool} {k x:Nat} (hk:k < T.starts.length) (hx:T.starts[k] = (x:Int)):sttL T f (k + 1) = sttL T f k ++ (if ahd T f T.legs.length 0 x then [[(x:Int)]] else []):=by
 unfold sttL;rw [List.take_succ_eq_append_getElem hk,List.filter_append,List.map_append,hx]
 congr 1
 cases h:ahd T f T.legs.length 0 x <;> simp [List.filter_cons,h]
theorem sttL_le (T:Treaty) (f:Nat -> Nat -> Nat -> Bool) (k:Nat):(sttL T f k).length <= k:=by
 unfold sttL;rw [List.length_map];exact Nat.le_trans (List.length_filter_le _ _) (by rw [List.length_take];omega)
theorem own_one' (u:World) (x:Int):(u.alloc (.cells #[.int .i64 x] 3)).ownsRow u.heap.size 3 1 (.slice (some ⟨u.heap.size,0,none⟩) 1 1) [x].length ([x].map (Value.int .i64)) :=
 blk_own (l:=[x]) (Nat.le_refl _) (Blk.new u 3 #[.int .i64 x]) ⟨by simp,fun t h=>by simp at h;subst h;rfl⟩ rfl (by simp) (by decide)
def GS4 (T:Treaty) (f:Nat -> Nat -> Nat -> Bool) (Z:World) (v:Value) (k:Nat) (W:World):Prop:=∃ all rest,Aft Z W /\ OwnLists W Z.heap.size v all /\ GrowI T f k all rest /\ all.length <= 1011
theorem own_zero (u:World):(u.alloc (.cells #[] 3)).ownsRow u.heap.size 3 1 (.slice (some ⟨u.heap.size,0,none⟩) 0 0) 0 []:=by
 have:=blk_own (l:=[]) (c:=0) (Nat.le_refl u.heap.size) (Blk.new u 3 #[]) ⟨by simp,fun t h=>by simp at h⟩ rfl (by simp) (by decide);simpa using this
theorem ints_src2 {w:World} {b o:Nat} {l:List Int} (h:Ints w (some ⟨b,o,none⟩) l):∀ ad,(some ⟨b,o,none⟩:Option Addr) = some ad -> ∀ j u,(l.map (Value.int .i64))[j]? = some u -> w.cell? (ad.add j) = some u:=by
 intro ad e j u hu;cases e;have hj:j < l.length:=by have:=(List.getElem?_eq_some_iff.1 hu).1;simpa using this
 obtain ⟨b',o',e,-,hc⟩:=h.at hj;cases e;rw [Addr.add_lit];have:=hc j hj;rw [List.getElem?_map,List.getElem?_eq_getElem hj] at hu;rw [this];exact hu
theorem starts_le {T:Treaty} (h:checkE T = 0):T.starts.length <= 12:=by
 have hp:=(checkE_ok h).p2;unfold checkE at h;split at h;· exact absurd h (by decide)
 rename_i h1
 simp only [cntBad,Bool.or_eq_true,Bool.not_eq_true',not_or,decide_eq_true_eq,Bool.not_eq_false,fromB_iff] at h1;omega
def LN1 (X:World) (P k:Nat) (v:Value) (W:World):Prop:=∃ B,Aft X W /\ BTab W X.heap.size v B k P (fun _ _=>false)
set_option maxRecDepth 100000 in
set_option maxHeartbeats 8000000 in
theorem linesRef2_any (w:World) (T:Treaty) (a1 a2 a3 a4:Option Addr) (c1 c2 c3 c4:Nat) (R:List Int) (AR:Option Addr) (cR:Nat) (hT:TRep w T a1 a2 a3 a4) (hR:Ints w AR R) (hc:checkE T = 0) (hro:ReadOk T R) :
  Calls Tryz.prog 55 #[.agg #[.int .i64 T.places,.slice a1 T.ways.length c1,.slice a2 T.words.length c2,.slice a3 T.starts.length c3,.slice a4 T.legs.length c4],.slice AR R.length cR] w fun e w'=>∃ v all,e = .returned v /\ Aft w w' /\ OwnLists w' w.heap.size v all /\ (all.length <= 200 -> linesL T (leadsF T R) = all) /\ (200 < all.length -> 200 < (linesL T (leadsF T R)).length) /\ all.length <= 2000 /\ ∃ rest,linesL T (leadsF T R) = all ++ rest:=by
 have ok:=checkE_ok hc;have hls:=starts_le hc;have hLG:=fun (y:World) (hy:Aft w y)=>legsRef_any y T a1 a2 a3 a4 c1 c2 c3 c4 R AR cR (hT.aft hy) (hR.aft hy) ok hro
 have HT:=Lib.hid hT;have HOK:=Lib.hid ok;obtain ⟨P,hP⟩:=Int.eq_ofNat_of_zero_le (show 0 <= T.places from by have:=ok.p1;omega);have hP1:1 <= P:=by have:=ok.p1;omega
 have hP2:P <= 12:=by have:=ok.p2;omega
 have HP:=Lib.hid hP;have hPt:T.places.toNat = P:=by omega
 have HPT:=Lib.hid hPt;have hln:=ok.nlegs;rw [hPt,hP] at hLG;rw [hP];have HLG:=Lib.hid hLG;clear hT hR ok hro hP hPt hLG hc;generalize leadsF T R = f at *;go_enter Tryz.func55,Tryz.ntmps55;go_upto_region 1 with fail
 have hb:=Blk.new w 35 #[.int .i64 P,.slice a1 T.ways.length c1,.slice a2 T.words.length c2,.slice a3 T.starts.length c3,.slice a4 T.legs.length c4];have ha:=Aft.alloc w (.cells #[.int .i64 P,.slice a1 T.ways.length c1,.slice a2 T.words.length c2,.slice a3 T.starts.length c3,.slice a4 T.legs.length c4] 35);generalize w.alloc (.cells #[.int .i64 P,.slice a1 T.ways.length c1,.slice a2 T.words.length c2,.slice a3 T.starts.length c3,.slice a4 T.legs.length c4] 35) = X at *;have k0:X.cell? ⟨w.heap.size,0,none⟩ = some (.int .i64 P):=hb.cell 0;have k1:X.cell? ⟨w.heap.size,1,none⟩ = some (.slice a1 T.ways.length c1):=hb.cell 1;have k2':X.cell? ⟨w.heap.size,2,none⟩ = some (.slice a2 T.words.length c2):=hb.cell 2;have k3:X.cell? ⟨w.heap.size,3,none⟩ = some (.slice a3 T.starts.length c3):=hb.cell 3;have k4:X.cell? ⟨w.heap.size,4,none⟩ = some (.slice a4 T.legs.length c4):=hb.cell 4;have HB:=Lib.hid hb;have HA:=Lib.hid ha;have hsz:=ha.size;clear hb ha;(repeat (first | go_big_skip | go_big_want | go_big_move | go_big_op | go_step | go_upon | go_back));go_at_call 115;refine (HLG.out X HA.out).mono ?_;rintro e Y ⟨v,rfl,haY,hL⟩;obtain ⟨vs,hown,-⟩:=hL.ex;obtain ⟨vA,vc,rfl⟩:=own_slice2 hown;dsimp only;have HAY:=Lib.hid haY;have HL:=Lib.hid hL;have hszY:=haY.size;have HBY:=Lib.hid (HB.out.aft haY);have HM0:Hid (LN1 Y P 0 (.slice none 0 0) Y):=Lib.hid ⟨fun _=>0,Aft.refl _,BTab.nil _ _ _ _ _⟩;clear k0 k1 k2' k3 k4 haY hL hown;(repeat (first | go_big_skip | go_big_want | go_big_move | go_big_op | go_step | go_upon | go_back));go_loopw [6,7] (fun v i wr=>∃ k:Nat,i = .int .i64 k /\ k <= T.legs.length + 1 /\ LN1 Y P k v wr) (fun _ i _=>T.legs.length + 1 - (intOf i).toNat)
 case atStart=>exact ⟨0,rfl,by omega,HM0.out⟩
 case round =>
  obtain ⟨k,rfl,hk,B,haX,ht⟩:=hrel;have HAX:=Lib.hid haX;have HTB:=Lib.hid ht;have hBw:=HBY.out.aft haX;have k0:wr.cell? ⟨w.heap.size,0,none⟩ = some (.int .i64 P):=hBw.cell 0;have k4:wr.cell? ⟨w.heap.size,4,none⟩ = some (.slice a4 T.legs.length c4):=hBw.cell 4;have hszr:=haX.size;clear haX ht hBw HM0;by_cases hkP:k <= T.legs.length
  ·have hdec:decide (k <= T.legs.length) = true:=decide_eq_true hkP;go_upto_region 5 with (first | (at_make;refine wpList_make_bools rfl _ _ rfl rfl rfl (by omega) ?_;have HM:=Lib.hid (BRow.made wr P);have HAM:=Lib.hid (Aft.alloc wr (.cells (madeCells #[.bool false] P) 4));generalize wr.alloc (.cells (madeCells #[.bool false] P) 4) = w5 at *) | (at_builtin;go_loud (refine wpList_app1 ty137 rfl _ _ rfl (Nat.le_trans hszr (HAM.out.then_alloc _).size) rfl (own_aft HTB.out.own (HAM.out.then_alloc _)) rfl (Blk.new _ _ _) rfl (fun u hu=>by rw [List.mem_singleton] at hu;subst hu;rfl) (by omega) (by decide) ?_;intro v' w6 hown6 hg6 hat6;have HBT:=Lib.hid (HTB.out.push (HAM.out.then_alloc _) (Nat.le_refl _) (HM.out.aft (Aft.alloc _ _)) hszr hown6 hg6);have HA6:=Lib.hid ((HAX.out.trans (HAM.out.then_alloc _)).grown hg6 (fun q e=>(HTB.out.own.lt q e).1));clear hown6 hg6 hat6)))
   (repeat (first | go_big_skip | go_big_want | go_big_move | go_big_op | go_step | go_upon | go_back));have hcn:LN1 Y P (k + 1) v' w6:=⟨_,HA6.out,HBT.out.congr fun a c _ _=>by unfold addF;split <;> rfl⟩;exact ⟨⟨k + 1,by go_num,by omega,hcn⟩,by simp [intOf];omega⟩
  ·have hdec:decide (k <= T.legs.length) = false:=decide_eq_false hkP;have hkn1:T.legs.length + 1 <= k:=by omega
   obtain ⟨kn,hkn⟩:∃ x,x = k:=⟨k,rfl⟩;subst hkn;obtain ⟨bv,cv,rfl,hcv,hbv,hslots⟩:=HTB.out.slot (i:=0) (by omega);clear hslots;(repeat (first | go_big_skip | go_big_want | go_big_move | go_big_op | go_step | go_upon | go_back));have HM2:Hid (CN2' Y P B (.slice (some ⟨bv,0,none⟩) kn cv) kn (opnF T f T.legs.length (T.legs.length + 1) 0 false) wr):=Lib.hid ⟨HAX.out,HTB.out.congr fun i c h1 _=>by unfold opnF;rw [if_neg (by omega)];split <;> rfl⟩;clear HAX HTB k0 k4 hszr hdec;go_loopw [8] (fun i2 wq=>∃ k2:Nat,i2 = .int .i64 ((k2:Int) - 1) /\ k2 <= T.legs.length + 1 /\ CN2' Y P B (.slice (some ⟨bv,0,none⟩) kn cv) kn (opnF T f T.legs.length k2 0 false) wq) (fun i2 _=>(intOf i2 + 1).toNat)
   case atStart=>exact ⟨T.legs.length + 1,by simp,by omega,HM2.out⟩
   case round =>
    rename World=>wq
    obtain ⟨k2,rfl,hk2,haQ,htQ⟩:=hrel;have HAQ:=Lib.hid haQ;have HTQ:=Lib.hid htQ;clear haQ htQ HM2
    cases k2 with
    | zero =>
     have hdec:decide ((0:Int) <= ((0:Nat):Int) - 1) = false:=by decide
     have e0:(((0:Nat):Int) - 1) = -1:=by decide
     rw [e0];have HOP:Hid (BTab wq Y.heap.size (.slice (some ⟨bv,0,none⟩) kn cv) B kn P fun i c=>ahd T f (T.legs.length - i) i c):=Lib.hid (HTQ.out.congr fun i c _ _=>by unfold opnF;rw [if_pos (by omega)]);have hszq:=HAQ.out.size;have HS0:Hid (Aft wq wq /\ OwnLists wq wq.heap.size (.slice none 0 0) (sttL T f 0)):=Lib.hid ⟨Aft.refl _,OwnLists.nil⟩;have HBQ:=Lib.hid (HBY.out.aft HAQ.out);have HLQ:=Lib.hid (HL.out.aft HAQ.out);have HAWQ:=Lib.hid (HA.out.trans (HAY.out.trans HAQ.out));clear HTQ hdec e0 HBY HL;(repeat (first | go_big_skip | go_big_want | go_big_move | go_big_op | go_step | go_upon | go_back));go_loopw [11,12] (fun v i3 w3=>∃ k:Nat,i3 = .int .i64 k /\ k <= T.starts.length /\ Aft wq w3 /\ OwnLists w3 wq.heap.size v (sttL T f k)) (fun _ i3 _=>T.starts.length - (intOf i3).toNat)
     case atStart=>exact ⟨0,rfl,by omega,HS0.out⟩
     case round =>
      rename World=>w3
      obtain ⟨k,rfl,hk,haW,hoW⟩:=hrel;obtain ⟨vs3,hls3⟩:=hoW;obtain ⟨sA,sc,rfl⟩:=own_slice2 hls3.own;have HAW:=Lib.hid haW;have HLS:=Lib.hid hls3;have hBw:=HBQ.out.aft haW;have k3:w3.cell? ⟨w.heap.size,3,none⟩ = some (.slice a3 T.starts.length c3):=hBw.cell 3;have hsz3:=haW.size;clear haW hls3 hBw HS0;by_cases hks:k < T.starts.length
      ·have hdec:decide (k < T.starts.length) = true:=decide_eq_true hks;obtain ⟨b3,o3,rfl,hb3,hc3⟩:=(HT.out.aft (HAWQ.out.trans HAW.out)).starts.at hks;have g1:=hc3 k hks;have hx:=HOK.out.starts _ (List.getElem_mem hks);obtain ⟨x,hxe⟩:=Int.eq_ofNat_of_zero_le hx.1;have hxP:x < P:=by have:=HP.out;omega
       have HST:=Lib.hid (sttL_succ (T:=T) (f:=f) hks hxe);rw [hxe] at g1;have hOW:=HOP.out.aft HAW.out;have s1:=cells_slot hOW (show 0 < kn by omega);have v1:=(hOW.row 0 (by omega)).cell hxP;have i1:(0:Int) <= (k:Int) /\ (k:Int) < (T.starts.length:Int):=by omega
       have i2:(0:Int) <= (x:Int) /\ (x:Int) < (P:Int):=by omega
       have i3:(0:Int) <= (0:Int) /\ (0:Int) < (kn:Int):=by omega
       have HLE:=Lib.hid (sttL_le T f k);have HXE:=Lib.hid hxe;clear hc3 hx hxe hOW;rw [Nat.sub_zero] at v1
       cases hav:ahd T f T.legs.length 0 x with
       | false =>
        rw [hav] at v1 HST;clear hav;(repeat (first | go_big_skip | go_big_want | go_big_move | go_big_op | go_step | go_upon | go_back));go_quiet (fail);(repeat (first | go_big_skip | go_big_want | go_big_move | go_big_op | go_step | go_upon | go_back));exact ⟨⟨k + 1,by go_num,by omega,HAW.out.then_drewN _,by rw [HST.out,if_neg (by decide),List.append_nil];exact ⟨_,HLS.out.aft (Aft.drewN _ _)⟩⟩,by simp [intOf];omega⟩
       | true =>
        rw [hav] at v1 HST;clear hav;(repeat (first | go_big_skip | go_big_want | go_big_move | go_big_op | go_step | go_upon | go_back));go_quiet (fail);generalize hu:w3.drewN _ = u at *;have hAu:Aft w3 u:=by rw [<- hu];exact Aft.drewN _ _
        have HAU:=Lib.hid hAu;have HLU:=Lib.hid (HLS.out.aft hAu);have hszu:=hAu.size;have hBw:=HBQ.out.aft (HAW.out.trans hAu);clear hu k3 g1 s1 v1;have k3:u.cell? ⟨w.heap.size,3,none⟩ = some (.slice (some ⟨b3,o3,none⟩) T.starts.length c3):=hBw.cell 3
        have g1:u.cell? ⟨b3,o3 + k,none⟩ = some (.int .i64 x):=by
         obtain ⟨b3',o3',e3,-,hc3⟩:=(HT.out.aft (HAWQ.out.trans (HAW.out.trans hAu))).starts.at hks;cases e3;exact (hc3 k hks).trans (by rw [HXE.out])
        have hle:=HLE.out;clear hBw hAu;go_upto_region 22 with (at_builtin;go_loud (refine wpList_app_list rfl _ _ rfl HLU.out (Nat.le_trans hsz3 hszu) rfl rfl (by simp) rfl ((Aft.alloc _ _).then_alloc _) (own_aft (own_one' u x) (Aft.alloc _ _)) (by omega) ?_;intro v' vs' w6 hls6 hg6;have HL6:=Lib.hid hls6;have HA6:=Lib.hid (((HAW.out.trans HAU.out).trans ((Aft.alloc _ _).then_alloc _)).grown hg6 (fun q e=>(HLU.out.own.lt q e).1));clear hls6 hg6))
        (repeat (first | go_big_skip | go_big_want | go_big_move | go_big_op | go_step | go_upon | go_back));exact ⟨⟨k + 1,by go_num,by omega,HA6.out,by rw [HST.out,if_pos rfl];exact ⟨_,HL6.out⟩⟩,by simp [intOf];omega⟩
      ·have hdec:decide (k < T.starts.length) = false:=decide_eq_false hks;have htk:sttL T f k = (T.starts.filter fun s=>ahd T f T.legs.length 0 s.toNat).map fun s=>[s]:=by unfold sttL;rw [List.take_of_length_le (by omega)]
       have hGI:GrowI T f 0 (sttL T f k) []:=by rw [htk];exact GrowI.start HOK.out.starts
       have hle:=sttL_le T f k;have HG0:Hid (GS4 T f wq (.slice sA (sttL T f k).length sc) 0 w3):=Lib.hid ⟨_,[],HAW.out,⟨_,HLS.out⟩,hGI,by omega⟩;clear HAW HLS htk hGI hle;(repeat (first | go_big_skip | go_big_want | go_big_move | go_big_op | go_step | go_upon | go_back));go_loopw [11,13] (fun v i4 w4=>∃ k:Nat,i4 = .int .i64 k /\ k <= T.legs.length /\ GS4 T f wq v k w4) (fun _ i4 _=>T.legs.length - (intOf i4).toNat)
       case atStart=>exact ⟨0,rfl,by omega,HG0.out⟩
       case round =>
        rename World=>w4
        obtain ⟨k4r,rfl,hk4r,all,rest,haW,⟨vs4,hls4⟩,hgi,hlen4⟩:=hrel;obtain ⟨tA,tc,rfl⟩:=own_slice2 hls4.own;have HAW:=Lib.hid haW;have HL4:=Lib.hid hls4;have HGI:=Lib.hid hgi;have hBw:=HBQ.out.aft haW;have k4:w4.cell? ⟨w.heap.size,4,none⟩ = some (.slice a4 T.legs.length c4):=hBw.cell 4;have hsz4:=haW.size;clear haW hls4 hgi hBw HG0;by_cases hkl:k4r < T.legs.length
        ·have hdec:decide (k4r < T.legs.length) = true:=decide_eq_true hkl;have HN0:Hid (Aft w4 w4 /\ OwnLists w4 w4.heap.size (.slice none 0 0) ((all.take 0).flatMap (growL T f (T.legs.length - (k4r + 1)) k4r))):=Lib.hid ⟨Aft.refl _,OwnLists.nil⟩;(repeat (first | go_big_skip | go_big_want | go_big_move | go_big_op | go_step | go_upon | go_back));go_loopw [14,15] (fun v i5 w5=>∃ j:Nat,i5 = .int .i64 j /\ j <= all.length /\ Aft w4 w5 /\ OwnLists w5 w4.heap.size v ((all.take j).flatMap (growL T f (T.legs.length - (k4r + 1)) k4r)) /\ ((all.take j).flatMap (growL T f (T.legs.length - (k4r + 1)) k4r)).length <= 1011) (fun _ i5 _=>all.length - (intOf i5).toNat)
         case atStart=>exact ⟨0,rfl,by omega,HN0.out.1,HN0.out.2,by simp⟩
         case round =>
          rename World=>w5
          obtain ⟨j,rfl,hj,haV,⟨vs5,hls5⟩,hlen5⟩:=hrel;obtain ⟨uA,uc,rfl⟩:=own_slice2 hls5.own;have HAV:=Lib.hid haV;have HL5:=Lib.hid hls5;have hBw:=HBQ.out.aft (HAW.out.trans haV);have k0:w5.cell? ⟨w.heap.size,0,none⟩ = some (.int .i64 P):=hBw.cell 0;have hsz5:=haV.size;clear haV hls5 hBw HN0 k4;by_cases hjl:j < all.length
          ·have hdj:decide (j < all.length) = true:=decide_eq_true hjl;by_cases hlt:((all.take j).flatMap (growL T f (T.legs.length - (k4r + 1)) k4r)).length < 1000
           ·have hdl:decide ((((all.take j).flatMap (growL T f (T.legs.length - (k4r + 1)) k4r)).length:Int) < 1000) = true:=decide_eq_true (by omega);have hdl2:decide (((all.take j).flatMap (growL T f (T.legs.length - (k4r + 1)) k4r)).length < 1000) = true:=decide_eq_true (by omega)
            have htk:(all.take (j + 1)).flatMap (growL T f (T.legs.length - (k4r + 1)) k4r) = (all.take j).flatMap (growL T f (T.legs.length - (k4r + 1)) k4r) ++ growTo T f (T.legs.length - (k4r + 1)) k4r all[j] P:=by
             rw [List.take_succ_eq_append_getElem hjl,List.flatMap_append];unfold growL;simp [HPT.out]
            have HTK:=Lib.hid htk;have HB0:Hid (Aft w5 w5 /\ OwnLists w5 w4.heap.size (.slice uA ((all.take j).flatMap (growL T f (T.legs.length - (k4r + 1)) k4r)).length uc) ((all.take j).flatMap (growL T f (T.legs.length - (k4r + 1)) k4r) ++ growTo T f (T.legs.length - (k4r + 1)) k4r all[j] 0)):=Lib.hid ⟨Aft.refl _,by unfold growTo;rw [List.range_zero,List.filter_nil,List.map_nil,List.append_nil];exact ⟨_,HL5.out⟩⟩;obtain ⟨pp,a,hpa,hpl,haP,-⟩:=HGI.out.good all[j] (by simp);have HPA:=Lib.hid hpa;have hlast:lastN all[j] = a:=by rw [hpa];exact lastN_app pp a
            have hjlen:all[j].length = k4r + 1:=by rw [hpa];simp [hpl]
            have hjk:all[j][k4r]'(by omega) = (a:Int):=by simp only [hpa];simp [hpl]
            have HJK:=Lib.hid hjk;have HJL:=Lib.hid hjlen;have haPP:a < P:=by have:=HPT.out;omega
            have hrl:∀ l ∈ all,l.length <= 17592186043904:=fun l hl=>by
             obtain ⟨p',a',e',hp',-,-⟩:=HGI.out.good l (by simp [hl]);rw [e'];simp;omega
            obtain ⟨Aal,cal,eal,-,hLi⟩:=HL4.out.lists (by omega) hrl;cases eal;obtain ⟨bA,oA,rfl,hbA,hcA⟩:=hLi.at hjl;obtain ⟨Aj,cj,hvj,hij⟩:=hcA j hjl;obtain ⟨bj,oj,rfl,hbj,hcj⟩:=hij.at (show k4r < all[j].length by omega);have CA:Hid (w4.cell? ⟨bA,oA + j,none⟩ = some (.slice (some ⟨bj,oj,none⟩) all[j].length cj)):=Lib.hid hvj;have CJ:Hid (w4.cell? ⟨bj,oj + k4r,none⟩ = some (.int .i64 a)):=Lib.hid ((hcj k4r (by omega)).trans (by rw [hjk]));have HIJ:=Lib.hid hij;clear hpa htk hjk hrl hcA hvj hcj hij;have HLA:=Lib.hid hlast;clear hlast;have hnk:k4r < all[j].length:=by omega
            have hnk2:all[j].length <= 11:=by omega
            have HJ0:=HB0.out.2;have HJ:=Lib.hid HJ0;clear hjlen HJK HPA HB0 HJ0;generalize all[j] = lj at *;generalize hlgn:(all.take j).flatMap (growL T f (T.legs.length - (k4r + 1)) k4r) = lg at *;have HLGN:=Lib.hid hlgn;clear hlgn HLGN;(repeat (first | go_big_skip | go_big_want | go_big_move | go_big_op | go_step | go_upon | go_back));go_loopw [14,16] (fun v i6 w6=>∃ b:Nat,i6 = .int .i64 b /\ b <= P /\ Aft w4 w6 /\ OwnLists w6 w4.heap.size v (lg ++ growTo T f (T.legs.length - (k4r + 1)) k4r lj b)) (fun _ i6 _=>P - (intOf i6).toNat)
            case atStart=>exact ⟨0,rfl,by omega,HAV.out,HJ.out⟩
            case round =>
             rename World=>w6
             obtain ⟨b,rfl,hbP,haU,⟨vs6,hls6⟩⟩:=hrel;have hll5:(lg ++ growTo T f (T.legs.length - (k4r + 1)) k4r lj b).length <= lg.length + P:=by rw [List.length_append];have:=growTo_le T f (T.legs.length - (k4r + 1)) k4r lj b;omega
             generalize hll:lg ++ growTo T f (T.legs.length - (k4r + 1)) k4r lj b = ll at *;have HLL:=Lib.hid hll;clear hll;obtain ⟨xA,xc,rfl⟩:=own_slice2 hls6.own;have HAU:=Lib.hid haU;have HL6:=Lib.hid hls6;have hBw:=HBQ.out.aft (HAW.out.trans haU);have k0:w6.cell? ⟨w.heap.size,0,none⟩ = some (.int .i64 P):=hBw.cell 0;have hsz6:=haU.size;clear haU hls6 hBw HJ;by_cases hbk:b < P
             ·have hdb:decide (b < P) = true:=decide_eq_true hbk;have hQ6:=HAW.out.trans HAU.out;obtain ⟨bvL,cvL,bt,ct,ev,cT,hrows⟩:=(HLQ.out.aft hQ6).cells hkl;cases ev;obtain ⟨br,r1,hr2⟩:=hrows a haPP;have r2:=hr2 b hbk;have hOW:=HOP.out.aft hQ6;have s2:=cells_slot hOW (show k4r + 1 < kn by omega);have v2:=(hOW.row (k4r + 1) (by omega)).cell hbk;have ca:=cells_aft HAU.out CA.out;have cjj:=cells_aft HAU.out CJ.out;have i1:(0:Int) <= (k4r:Int) /\ (k4r:Int) < (T.legs.length:Int):=by omega
              have i2:(0:Int) <= (j:Int) /\ (j:Int) < (all.length:Int):=by omega
              have i3:(0:Int) <= (k4r:Int) /\ (k4r:Int) < (lj.length:Int):=by omega
              have i4:(0:Int) <= (a:Int) /\ (a:Int) < (P:Int):=by omega
              have i5:(0:Int) <= (b:Int) /\ (b:Int) < (P:Int):=by omega
              have i6:(0:Int) <= ((k4r + 1:Nat):Int) /\ ((k4r + 1:Nat):Int) < (kn:Int):=by omega
              have e1:IntKind.i64.wrap ((k4r:Int) + 1) = ((k4r + 1:Nat):Int):=by rw [IntWalk.i64_in _ (by omega)];omega
              have HGT:=Lib.hid (growTo_succ T f (T.legs.length - (k4r + 1)) k4r lj b);have HGL:=Lib.hid (growTo_le T f (T.legs.length - (k4r + 1)) k4r lj b);rw [HLA.out] at HGT;clear hrows hr2 hOW hQ6
              cases hfv:f k4r a b with
              | false =>
               rw [hfv] at r2 HGT;have HE:Hid (growTo T f (T.legs.length - (k4r + 1)) k4r lj (b + 1) = growTo T f (T.legs.length - (k4r + 1)) k4r lj b):=Lib.hid (by rw [HGT.out,Bool.false_and,if_neg (by decide),List.append_nil]);clear hfv v2 s2 HGT;(repeat (first | go_big_skip | go_big_want | go_big_move | go_big_op | go_step | go_upon | go_back));go_quiet (fail);(repeat (first | go_big_skip | go_big_want | go_big_move | go_big_op | go_step | go_upon | go_back));exact ⟨⟨b + 1,by go_num,by omega,HAU.out.then_drewN _,by rw [HE.out,HLL.out];exact ⟨_,HL6.out.aft (Aft.drewN _ _)⟩⟩,by simp [intOf] <;> omega⟩
              | true =>
               rw [hfv] at r2 HGT
               cases hav:ahd T f (T.legs.length - (k4r + 1)) (k4r + 1) b with
               | false =>
                rw [hav] at v2 HGT;have HE:Hid (growTo T f (T.legs.length - (k4r + 1)) k4r lj (b + 1) = growTo T f (T.legs.length - (k4r + 1)) k4r lj b):=Lib.hid (by rw [HGT.out,Bool.true_and,if_neg (by decide),List.append_nil]);clear hfv hav HGT;(repeat (first | go_big_skip | go_big_want | go_big_move | go_big_op | go_step | go_upon | go_back));go_quiet (fail);(repeat (first | go_big_skip | go_big_want | go_big_move | go_big_op | go_step | go_upon | go_back));exact ⟨⟨b + 1,by go_num,by omega,HAU.out.then_drewN _,by rw [HE.out,HLL.out];exact ⟨_,HL6.out.aft (Aft.drewN _ _)⟩⟩,by simp [intOf] <;> omega⟩
               | true =>
                rw [hav] at v2 HGT;have HE:Hid (growTo T f (T.legs.length - (k4r + 1)) k4r lj (b + 1) = growTo T f (T.legs.length - (k4r + 1)) k4r lj b ++ [lj ++ [(b:Int)]]):=Lib.hid (by rw [HGT.out,Bool.true_and,if_pos rfl]);clear hfv hav HGT;(repeat (first | go_big_skip | go_big_want | go_big_move | go_big_op | go_step | go_upon | go_back));go_quiet (fail);clear e1;have hgl:=HGL.out;generalize hu:w6.drewN _ = u at *;have hAu:Aft w6 u:=by rw [<- hu];exact Aft.drewN _ _
                have HUU:=Lib.hid hAu;have HLU:=Lib.hid (HL6.out.aft hAu);have hszu:=hAu.size;have ca0:=cells_aft ((HAU.out.trans hAu).then_alloc (.cells #[] 3)) CA.out;have HIU:=Lib.hid (HIJ.out.aft (HAU.out.trans hAu));clear hu hAu k0 r1 r2 cT s2 v2 cjj HL6 ca;go_upto_region 34 with (first | (at_builtin;(refine wpList_app_at (m:=lj.length) (n:=0) (xs:=[]) ty24 rfl _ _ rfl (Aft.alloc u _).size rfl (own_zero u) rfl (news:=lj.map (Value.int .i64)) (by simp) (by intro h;cases h) (ints_src2 (HIU.out.aft (Aft.alloc u _))) (fun q hq=>by obtain ⟨z,-,rfl⟩:=List.mem_map.1 hq;rfl) (by omega) (by decide) ?_);intro v7 w7 hown7 hg7;have ho7:w7.ownsRow u.heap.size 3 1 v7 lj.length (lj.map (Value.int .i64)):=(by simpa using hown7);obtain ⟨yA,yc,rfl⟩:=own_slice2 ho7;have hA7:Aft u w7:=(Aft.alloc u _).grown hg7 (fun q e=>by cases e;exact Nat.le_refl _);have HA7:=Lib.hid hA7;have HO7:=Lib.hid ho7;have hsz7:=hA7.size;clear hown7 hg7 ho7 hA7 ca0) | (at_builtin;refine wpList_push rfl _ _ rfl (own_aft HO7.out (Aft.alloc w7 _)) (Nat.le_trans hsz7 (Aft.alloc w7 _).size) rfl rfl (cell_new1 _ _ _) (by omega) ?_;intro v8 w8 hown8 hg8;generalize hl8:lj ++ [(b:Int)] = l8 at *;clear hl8;obtain ⟨yA,yc,rfl⟩:=own_slice2 hown8;have hA8:Aft u w8:=(HA7.out.trans (Aft.alloc w7 _)).grown hg8 (fun q e=>(HO7.out.lt q e).1);have HA8:=Lib.hid hA8;have HO8:=Lib.hid hown8;have hsz8:=hA8.size;clear hown8 hg8 hA8) | (at_builtin;refine wpList_app_list rfl _ _ rfl HLU.out (Nat.le_trans hsz6 hszu) rfl rfl (cell_new1 _ _ _) rfl (HA8.out.trans (Aft.alloc w8 _)) (own_aft HO8.out (Aft.alloc w8 _)) (by omega) ?_;intro v9 vs9 w9 hls9 hg9;have HL9:=Lib.hid hls9;have HA9:=Lib.hid (((HAU.out.trans HUU.out).trans (HA8.out.trans (Aft.alloc w8 _))).grown hg9 (fun q e=>(HLU.out.own.lt q e).1));clear hls9 hg9))
                (repeat (first | go_big_skip | go_big_want | go_big_move | go_big_op | go_step | go_upon | go_back));exact ⟨⟨b + 1,by go_num,by omega,HA9.out,by rw [HE.out,<- List.append_assoc,HLL.out];exact ⟨_,HL9.out⟩⟩,by simp [intOf] <;> omega⟩
             ·have hdb:decide (b < P) = false:=decide_eq_false hbk;have e:b = P:=by omega
              have HFI:Hid (OwnLists w6 w4.heap.size (.slice xA ll.length xc) ((all.take (j + 1)).flatMap (growL T f (T.legs.length - (k4r + 1)) k4r))):=Lib.hid (by rw [HTK.out,<- e,HLL.out];exact ⟨_,HL6.out⟩);have HFL:Hid (((all.take (j + 1)).flatMap (growL T f (T.legs.length - (k4r + 1)) k4r)).length <= 1011):=Lib.hid (by rw [HTK.out,<- e,HLL.out];omega);clear e;(repeat (first | go_big_skip | go_big_want | go_big_move | go_big_op | go_step | go_upon | go_back));exact ⟨⟨j + 1,by go_num,by omega,HAU.out,HFI.out,HFL.out⟩,by simp [intOf] <;> omega⟩
           ·have hdl:decide ((((all.take j).flatMap (growL T f (T.legs.length - (k4r + 1)) k4r)).length:Int) < 1000) = false:=decide_eq_false (by omega);have hdl2:decide (((all.take j).flatMap (growL T f (T.legs.length - (k4r + 1)) k4r)).length < 1000) = false:=decide_eq_false (by omega);have hgs:=HGI.out.step hkl (k:=j) (.inr (by omega));have HG5:Hid (GS4 T f wq (.slice uA ((all.take j).flatMap (growL T f (T.legs.length - (k4r + 1)) k4r)).length uc) (k4r + 1) w5):=Lib.hid ⟨_,_,HAW.out.trans HAV.out,(show OwnLists _ _ _ _ from ⟨_,HL5.out⟩).mono hsz4,hgs,by omega⟩;clear hgs;generalize (all.take j).flatMap (growL T f (T.legs.length - (k4r + 1)) k4r) = lg at *;(repeat (first | go_big_skip | go_big_want | go_big_move | go_big_op | go_step | go_upon | go_back));exact ⟨⟨k4r + 1,by go_num,by omega,HG5.out⟩,by simp [intOf] <;> omega⟩
          ·have hdj:decide (j < all.length) = false:=decide_eq_false hjl;have hgs:=HGI.out.step hkl (k:=j) (.inl (by omega));have HG5:Hid (GS4 T f wq (.slice uA ((all.take j).flatMap (growL T f (T.legs.length - (k4r + 1)) k4r)).length uc) (k4r + 1) w5):=Lib.hid ⟨_,_,HAW.out.trans HAV.out,(show OwnLists _ _ _ _ from ⟨_,HL5.out⟩).mono hsz4,hgs,by omega⟩;clear hgs;(repeat (first | go_big_skip | go_big_want | go_big_move | go_big_op | go_step | go_upon | go_back));exact ⟨⟨k4r + 1,by go_num,by omega,HG5.out⟩,by simp [intOf] <;> omega⟩
        ·have hdec:decide (k4r < T.legs.length) = false:=decide_eq_false hkl;obtain rfl:k4r = T.legs.length:=by omega
         (repeat (first | go_big_skip | go_big_want | go_big_move | go_big_op | go_step | go_upon | go_back));go_ret;exact ⟨_,all,rfl,HAWQ.out.trans HAW.out,(show OwnLists _ _ _ _ from ⟨_,HL4.out⟩).mono (Nat.le_trans hsz (Nat.le_trans hszY hszq)),HGI.out.done.1,HGI.out.done.2,by omega,HGI.out.pre⟩
    | succ m =>
     have e0:(((m + 1:Nat):Int) - 1) = (m:Int):=by omega
     rw [e0];have hdec:decide ((0:Int) <= (m:Int)) = true:=by simp
     (repeat (first | go_big_skip | go_big_want | go_big_move | go_big_op | go_step | go_upon | go_back));have HM3:Hid (CN2' Y P B (.slice (some ⟨bv,0,none⟩) kn cv) kn (opnF T f T.legs.length (m + 1) 0 false) wq):=Lib.hid ⟨HAQ.out,HTQ.out⟩;clear HAQ HTQ hdec e0;go_loopw [9] (fun i3 w3=>∃ a:Nat,i3 = .int .i64 a /\ a <= P /\ CN2' Y P B (.slice (some ⟨bv,0,none⟩) kn cv) kn (opnF T f T.legs.length (m + 1) a false) w3) (fun i3 _=>P - (intOf i3).toNat)
     case atStart=>exact ⟨0,rfl,by omega,HM3.out⟩
     case round =>
      rename World=>w3
      obtain ⟨a,rfl,haP,haW,htW⟩:=hrel;have HAW:=Lib.hid haW;have HTW:=Lib.hid htW;have hBw:=HBY.out.aft haW;have k0:w3.cell? ⟨w.heap.size,0,none⟩ = some (.int .i64 P):=hBw.cell 0;have k4:w3.cell? ⟨w.heap.size,4,none⟩ = some (.slice a4 T.legs.length c4):=hBw.cell 4;clear haW htW hBw HM3;by_cases hak:a < P
      ·have hdec:decide (a < P) = true:=decide_eq_true hak;have s1:=cells_slot HTW.out (show m < kn by omega);have v1:=(HTW.out.row m (by omega)).cell hak;have f1:=(HTW.out.row m (by omega)).frozen a;have l1:=(HTW.out.row m (by omega)).lt;have i1:(0:Int) <= (m:Int) /\ (m:Int) < (kn:Int):=by omega
       have i2:(0:Int) <= (a:Int) /\ (a:Int) < (P:Int):=by omega
       by_cases hmn:m = T.legs.length
       ·have hq:((m:Int) == (T.legs.length:Int)) = true:=by rw [hmn];simp
        have hml:decide (m < T.legs.length) = false:=decide_eq_false (by omega);have HMN:=Lib.hid hmn;clear hmn;(repeat (first | go_big_skip | go_big_want | go_big_move | go_big_op | go_step | go_upon | go_back));refine wp_region_tail 10 (by kernel_rfl) (by kernel_rfl) ?_;simp only [List.take_succ_cons,List.take_zero,List.drop_succ_cons,List.drop_zero];repeat (first | go_big_quiet_skip | (go_big_quiet_want;go_big_quiet_op;go_big_quiet_on))
        refine wpQuiet_nil ?_;(repeat (first | go_big_skip | go_big_want | go_big_move | go_big_op | go_step | go_upon | go_back));have hTU:=((HTW.out.set (show m < kn by omega) hak true).aft (Aft.drew _)).congr fun i' c _ _=>(opnF_set (T:=T) (f:=f) (n:=T.legs.length) (x:=false) i' c).trans (opnF_next (by have:=HMN.out;subst this;rw [Nat.sub_self];rfl) i' c)
        have hAU:=(HAW.out.then_setCell (p:=⟨B m,a,none⟩) (HTW.out.far m (by omega)) (.bool true)).then_drew;have hBU:=HBY.out.aft hAU;have HTU:=Lib.hid hTU;have HAU:=Lib.hid hAU;clear k0 k4 s1 v1 f1 l1 hTU hAU;generalize (w3.setCell ⟨B m,a,none⟩ (.bool true)).drew = u3 at *;have k0:u3.cell? ⟨w.heap.size,0,none⟩ = some (.int .i64 P):=hBU.cell 0;have k4:u3.cell? ⟨w.heap.size,4,none⟩ = some (.slice a4 T.legs.length c4):=hBU.cell 4;clear hBU;go_loopw [10] (fun i4 w4=>i4 = .int .i64 0 /\ w4 = u3) (fun _ _=>0)
        case atStart=>exact ⟨rfl,rfl⟩
        case round =>
         obtain ⟨rfl,rfl⟩:=hrel;(repeat (first | go_big_skip | go_big_want | go_big_move | go_big_op | go_step | go_upon | go_back));exact ⟨⟨a + 1,by go_num,by omega,HAU.out,HTU.out⟩,by simp [intOf];omega⟩
       ·have hq:((m:Int) == (T.legs.length:Int)) = false:=by rw [beq_eq_false_iff_ne];omega
        have hmn':m < T.legs.length:=by omega
        have hml:decide (m < T.legs.length) = true:=decide_eq_true hmn';clear hmn;(repeat (first | go_big_skip | go_big_want | go_big_move | go_big_op | go_step | go_upon | go_back));refine wp_region_tail 10 (by kernel_rfl) (by kernel_rfl) ?_;simp only [List.take_succ_cons,List.take_zero,List.drop_succ_cons,List.drop_zero];repeat (first | go_big_quiet_skip | (go_big_quiet_want;go_big_quiet_op;go_big_quiet_on))
        refine wpQuiet_nil ?_;(repeat (first | go_big_skip | go_big_want | go_big_move | go_big_op | go_step | go_upon | go_back));have hTU:=((HTW.out.aft (Aft.drew _)).set (show m < kn by omega) hak false).congr fun i' c _ _=>(opnF_set (T:=T) (f:=f) (n:=T.legs.length) (x:=false) i' c)
        have hAU:=(HAW.out.then_drew).then_setCell (p:=⟨B m,a,none⟩) (HTW.out.far m (by omega)) (.bool false);have HM4:Hid (CN2' Y P B (.slice (some ⟨bv,0,none⟩) kn cv) kn (opnF T f T.legs.length (m + 1) a (anyTo T f (T.legs.length - (m + 1)) m a 0)) (w3.drew.setCell ⟨B m,a,none⟩ (.bool false))):=Lib.hid ⟨hAU,hTU⟩;clear k0 k4 s1 v1 f1 l1 hTU hAU HAW HTW hq;go_loopw [10] (fun i4 w4=>∃ b:Nat,i4 = .int .i64 b /\ b <= P /\ CN2' Y P B (.slice (some ⟨bv,0,none⟩) kn cv) kn (opnF T f T.legs.length (m + 1) a (anyTo T f (T.legs.length - (m + 1)) m a b)) w4) (fun i4 _=>P - (intOf i4).toNat)
        case atStart=>exact ⟨0,rfl,by omega,HM4.out⟩
        case round =>
         rename World=>w4
         obtain ⟨b,rfl,hbP,haW,htW⟩:=hrel;have HAW:=Lib.hid haW;have HTW:=Lib.hid htW;have hBw:=HBY.out.aft haW;have k0:w4.cell? ⟨w.heap.size,0,none⟩ = some (.int .i64 P):=hBw.cell 0;have k4:w4.cell? ⟨w.heap.size,4,none⟩ = some (.slice a4 T.legs.length c4):=hBw.cell 4;clear hBw haW htW HM4;by_cases hbk:b < P
         ·have hdb:decide (b < P) = true:=decide_eq_true hbk;obtain ⟨bvL,cvL,bt,ct,ev,cT,hrows⟩:=(HL.out.aft HAW.out).cells hmn';cases ev;obtain ⟨br,r1,hr2⟩:=hrows a hak;have r2:=hr2 b hbk;have s1:=cells_slot HTW.out (show m < kn by omega);have s2:=cells_slot HTW.out (show m + 1 < kn by omega);have v1:=(HTW.out.row m (by omega)).cell hak;have v2:=(HTW.out.row (m + 1) (by omega)).cell hbk;have f1:=(HTW.out.row m (by omega)).frozen a;have l1:=(HTW.out.row m (by omega)).lt;have i3:(0:Int) <= (b:Int) /\ (b:Int) < (P:Int):=by omega
          have i4:(0:Int) <= (m:Int) /\ (m:Int) < (T.legs.length:Int):=by omega
          have i5:(0:Int) <= ((m + 1:Nat):Int) /\ ((m + 1:Nat):Int) < (kn:Int):=by omega
          have e1:IntKind.i64.wrap ((m:Int) + 1) = ((m + 1:Nat):Int):=by rw [IntWalk.i64_in _ (by omega)];omega
          have hv2:opnF T f T.legs.length (m + 1) a (anyTo T f (T.legs.length - (m + 1)) m a b) (m + 1) b = ahd T f (T.legs.length - (m + 1)) (m + 1) b:=by unfold opnF;rw [if_pos (by omega)]
          rw [hv2] at v2;have HS:=Lib.hid (anyTo_succ T f (T.legs.length - (m + 1)) m a b);clear hv2 hrows hr2
          cases hfv:f m a b with
          | false =>
           rw [hfv] at r2 HS;have HN:=Lib.hid HTW.out;clear v2 hfv HN;(repeat (first | go_big_skip | go_big_want | go_big_move | go_big_op | go_step | go_upon | go_back));exact ⟨⟨b + 1,by go_num,by omega,HAW.out,by rw [HS.out,Bool.false_and,Bool.or_false];exact HTW.out⟩,by simp [intOf];omega⟩
          | true =>
           rw [hfv] at r2 HS
           cases hav:ahd T f (T.legs.length - (m + 1)) (m + 1) b with
           | false =>
            rw [hav] at v2 HS;clear hfv hav;(repeat (first | go_big_skip | go_big_want | go_big_move | go_big_op | go_step | go_upon | go_back));exact ⟨⟨b + 1,by go_num,by omega,HAW.out,by rw [HS.out,Bool.true_and,Bool.or_false];exact HTW.out⟩,by simp [intOf];omega⟩
           | true =>
            rw [hav] at v2 HS;clear hfv hav;(repeat (first | go_big_skip | go_big_want | go_big_move | go_big_op | go_step | go_upon | go_back));exact ⟨⟨b + 1,by go_num,by omega,HAW.out.then_setCell (p:=⟨B m,a,none⟩) (HTW.out.far m (by omega)) _,by rw [HS.out,Bool.true_and,Bool.or_true];exact (HTW.out.set (show m < kn by omega) hak true).congr fun i' c _ _=>opnF_set i' c⟩,by simp [intOf];omega⟩
         ·have hdb:decide (b < P) = false:=decide_eq_false hbk;(repeat (first | go_big_skip | go_big_want | go_big_move | go_big_op | go_step | go_upon | go_back));have e:b = P:=by omega
          exact ⟨⟨a + 1,by go_num,by omega,HAW.out,HTW.out.congr fun i' c _ _=>opnF_next (by rw [show T.legs.length - m = T.legs.length - (m + 1) + 1 by omega];unfold ahd anyTo;rw [HPT.out,e]) i' c⟩,by simp [intOf];omega⟩
      ·have hdec:decide (a < P) = false:=decide_eq_false hak;have e:a = P:=by omega
       (repeat (first | go_big_skip | go_big_want | go_big_move | go_big_op | go_step | go_upon | go_back));exact ⟨⟨m,by first | rfl | go_num,by omega,HAW.out,HTW.out.congr fun i' c _ hc=>by rw [e];exact opnF_row i' c hc⟩,by simp [intOf] <;> omega⟩
theorem linesRef_any (w:World) (T:Treaty) (a1 a2 a3 a4:Option Addr) (c1 c2 c3 c4:Nat) (R:List Int) (AR:Option Addr) (cR:Nat) (hT:TRep w T a1 a2 a3 a4) (hR:Ints w AR R) (hc:checkE T = 0) (hro:ReadOk T R) :
  Calls Tryz.prog 55 #[.agg #[.int .i64 T.places,.slice a1 T.ways.length c1,.slice a2 T.words.length c2,.slice a3 T.starts.length c3,.slice a4 T.legs.length c4],.slice AR R.length cR] w fun e w'=>∃ v all,e = .returned v /\ Aft w w' /\ OwnLists w' w.heap.size v all /\ (all.length <= 200 -> linesL T (leadsF T R) = all) /\ (200 < all.length -> 200 < (linesL T (leadsF T R)).length) /\ all.length <= 2000 :=
 (linesRef2_any w T a1 a2 a3 a4 c1 c2 c3 c4 R AR cR hT hR hc hro).mono fun e w' ⟨v,all,h1,h2,h3,h4,h5,h6,_⟩=>⟨v,all,h1,h2,h3,h4,h5,h6⟩
end Go.Proofs
end
section
/- Walks: the reference: Reading,Lines,Breaks. -/
namespace Go.Proofs
open Go.RowKit
attribute [local go_sem] Oper.semAt_some
theorem word_cell2 {w:World} {a2:Option Addr} {ws:List (List Mean)} (h:RowsP w a2 1 WordR ws) {n:Nat} (hn:n < ws.length) :
  ∃ b2 o2 Am cm,a2 = some ⟨b2,o2,none⟩ /\ w.cell? ⟨b2,o2 + n,none⟩ = some (.slice Am ws[n].length cm) /\ RowsP w Am 2 MeanR ws[n]:=by
 obtain ⟨b2,o2,e,hb,hc⟩:=h.at hn;obtain ⟨vs,_,⟨Am,cm,rfl,hms⟩,hv⟩:=hc n hn;refine ⟨b2,o2,Am,cm,e,?_,hms⟩;have:=hv 0 (by simp);simpa using this
end Go.Proofs
end
