/- Own texts, merged: Dfs Lim2 WkL Ok Own2 Own3 Tail Xh Sc Xk Xm Rgf. -/
import Derived.Test.YtobpdobneocckaaGreatDoorP02
import Derived.Laws.EntriesVeiled
import Derived.Maps.AppendAt
import Derived.Deep.Onto
import Derived.StillTailTactics
import Derived.Deep.RegionLaw
import Derived.Great.Frames
section
/- Plain: where one can go,by a search that follows each way once. -/
namespace Go.Proofs
def joins (kinds:List Int) (w:Way) (a b:Int):Bool:=hasB kinds w.kind && (decide (w.a = a) && decide (w.b = b) || decide (w.b = a) && decide (w.a = b))
def edgeB (ws:List Way) (kinds:List Int) (a b:Int):Bool:=ws.any fun w=>joins kinds w a b
inductive ReachP (E:Int -> Int -> Bool):Int -> Int -> Prop
 | one {a b:Int}:E a b = true -> ReachP E a b
 | step {a b c:Int}:E a b = true -> ReachP E b c -> ReachP E a c
structure DfsOk (E:Int -> Int -> Bool) (s:Int) (xs ys:List Int):Prop where
 len:xs.length <= ys.length
 sub:∀ x ∈ xs,x ∈ ys
 nodup:ys.Nodup
 reach:∀ y ∈ ys,y ∉ xs -> ReachP E s y
 closed:∀ y ∈ ys,y ∉ xs -> ∀ z,E y z = true -> z ∈ ys
theorem DfsOk.refl {E:Int -> Int -> Bool} {s:Int} {xs:List Int} (h:xs.Nodup):DfsOk E s xs xs:=⟨Nat.le_refl _,fun _ h=>h,h,fun _ h1 h2=>absurd h1 h2,fun _ h1 h2=>absurd h1 h2⟩
theorem DfsOk.grow {E:Int -> Int -> Bool} {s b:Int} {xs ys zs:List Int} (h:DfsOk E s xs ys) (he:E s b = true) (k:DfsOk E b (ys ++ [b]) zs) (hb:∀ z,E b z = true -> z ∈ zs):DfsOk E s xs zs:=by
 have hsub:∀ y ∈ ys,y ∈ zs:=fun y hy=>k.sub y (by simp [hy])
 refine ⟨by have:=h.len;have:=k.len;simp at this;omega,fun x hx=>hsub x (h.sub x hx),k.nodup,fun y hy hyx=>?_,fun y hy hyx z hz=>?_⟩
 ·by_cases e:y ∈ ys ++ [b]
  ·rw [List.mem_append,List.mem_singleton] at e;rcases e with e | rfl
   ·exact h.reach y e hyx
   ·exact .one he
  ·exact .step he (k.reach y hy e)
 ·by_cases e:y ∈ ys ++ [b]
  ·rw [List.mem_append,List.mem_singleton] at e;rcases e with e | rfl
   ·exact hsub z (h.closed y e hyx z hz)
   ·exact hb z hz
  ·exact k.closed y hy e z hz
theorem DfsOk.all {E:Int -> Int -> Bool} {s:Int} {ys:List Int} (h:DfsOk E s [] ys) (hs:∀ z,E s z = true -> z ∈ ys) (y:Int):y ∈ ys ↔ ReachP E s y:=by
 refine ⟨fun hy=>h.reach y hy (by simp),fun hr=>?_⟩
 have gen:∀ a b,ReachP E a b -> (∀ z,E a z = true -> z ∈ ys) -> b ∈ ys:=by
  intro a b hr
  induction hr with
  | one he=>exact fun hh=>hh _ he
  | step he _ ih=>exact fun hh=>ih fun z hz=>h.closed _ (hh _ he) (by simp) z hz
 exact gen s y hr hs
theorem nodup_le_nat (p:Nat) (l:List Nat) (hn:l.Nodup) (hr:∀ x ∈ l,x < p):l.length <= p:=by
 induction p generalizing l with
 | zero =>
  cases l with
  | nil=>simp
  | cons a r=>exact absurd (hr a (by simp)) (by omega)
 | succ p ih =>
  by_cases hp:p ∈ l
  ·have h1:=ih (l.erase p) (hn.erase p) (fun x hx=>by
    rw [hn.mem_erase_iff] at hx;have:=hr x hx.2;omega)
   rw [List.length_erase_of_mem hp] at h1;omega
  ·have:=ih l hn (fun x hx=>by
    have:=hr x hx;have:x ≠ p:=fun e=>hp (e ▸ hx)
    omega)
   omega
theorem nodup_le {p:Nat} {l:List Int} (hn:l.Nodup) (hr:∀ x ∈ l,0 <= x /\ x < p):l.length <= p:=by
 have h1:(l.map Int.toNat).Nodup:=by
  rw [List.Nodup,List.pairwise_map];exact hn.imp_of_mem fun {a b} ha hb hab e=>hab (by have:=hr a ha;have:=hr b hb;omega)
 have:=nodup_le_nat p (l.map Int.toNat) h1 (fun x hx=>by
  obtain ⟨y,hy,rfl⟩:=List.mem_map.1 hx;have:=hr y hy;omega)
 simpa using this
theorem edgeB_take_succ (ws:List Way) (kinds:List Int) (a b:Int) (k:Nat) (h:k < ws.length):edgeB (ws.take (k + 1)) kinds a b = (edgeB (ws.take k) kinds a b || joins kinds ws[k] a b):=by
 unfold edgeB;rw [any_take_succ _ _ _ h]
theorem edgeB_of_joins (ws:List Way) (kinds:List Int) (a b:Int) (k:Nat) (h:k < ws.length) (hj:joins kinds ws[k] a b = true):edgeB ws kinds a b = true:=any_of_get _ _ k h hj
end Go.Proofs
end
section
/- More words for memory. -/
namespace Go
open Go.RowKit
theorem wpList_app_at {P:Program} {w:World} {ops:Array Oper} {rest:List Oper} {o:Oper} {a:Act} {Q:Exit -> Act -> World -> Prop} {t e:TypeId} {size bytes:Nat} (hT:SliceTy P t e size bytes)
  (hgd:o.guard = none) (s x:Operand) (ho:o.op = .call { callee:=.builtin .append,args:=#[s,x],argTypes:=#[t,t] })
  {base:Nat} (hbase:base <= w.heap.size) {v:Value} {n:Nat} {xs:List Value} (hs:a.eval s = v) (hown:w.ownsRow base e size v n xs)
  {A:Option Addr} {m c:Nat} {news:List Value} (hx:a.eval x = .slice A m c) (hl:news.length = m * size) (hA:A = none -> m = 0)
  (hnews:∀ ad,A = some ad -> ∀ j u,news[j]? = some u -> w.cell? (ad.add j) = some u) (h1:∀ u ∈ news,u.oneCell' = true)
  (hbytes:(n + m) * bytes <= 140737488355328) (hpos:0 < bytes)
  (h:∀ v' w',w'.ownsRow base e size v' (n + m) (xs ++ news) -> w.grownBy w' v.ownBlock -> wpList P ops Q rest (a.put o.dst v') w'):wpList P ops Q (o :: rest) a w:=by
 obtain ⟨ht,⟨i,z,hi,hz,hsize,hby,hzs⟩,hsz⟩:=hT
 have h63:n + m <= maxLen:=by
  have:(n + m) * 1 <= (n + m) * bytes:=Nat.mul_le_mul_left _ hpos;unfold maxLen;omega
 cases A with
 | some ad =>
  exact wpList_append_own w hgd s x t ho base e i z size bytes ht hi hz hsize hby hzs hsz v n xs hs hown ad m c news hx hl (hnews ad rfl) h1 h63 hbytes hbase
   fun v' w' h2 h3 _=>h v' w' h2 h3
 | none =>
  have hm:=hA rfl;subst hm;have hn:news = []:=List.eq_nil_of_length_eq_zero (by simpa using hl);subst hn;refine wpList_plain hgd fun K hK=>?_
  have hr:=run_app_none (ty:=o.type) ht hi hown c;unfold Oper.wp execOp;simp only [ho,resolve,invoke,builtin,Sem.run_bind,Sem.run_pure,Result.andThen_ok,List.map_toArray,List.map_cons,List.map_nil,hs,hx,hr];exact hK _ _ (h v w (by simpa using hown) (World.grownBy.refl w _))
theorem src_one (W:World) (v:Value) (t:TypeId):∀ ad,some (⟨W.heap.size,0,none⟩:Addr) = some ad -> ∀ j u,[v][j]? = some u -> (W.alloc (.cells #[v] t)).cell? (ad.add j) = some u:=by
 intro ad e j u h;cases e;exact src_new W #[v] t j u h
theorem src_at (W:World) (v:Value) (t:TypeId) (b:Nat) (hb:b = W.heap.size):∀ ad,some (⟨b,0,none⟩:Addr) = some ad -> ∀ j u,[v][j]? = some u -> (W.alloc (.cells #[v] t)).cell? (ad.add j) = some u:=by
 subst hb;exact src_one W v t
theorem one_int (x:Int):∀ u ∈ [Value.int .i64 x],u.oneCell' = true:=by intro u hu;rw [List.mem_singleton] at hu;subst hu;rfl
theorem cell_grown9 {w w':World} {row:Option Nat} (hg:w.grownBy w' row) {b i:Nat} (hb:b < w.heap.size) (hr:some b ≠ row):w'.cell? ⟨b,i,none⟩ = w.cell? ⟨b,i,none⟩:=World.cell?_of_block (hg.block b hb hr)
theorem frozen_grown {w w':World} {row:Option Nat} (hg:w.grownBy w' row) {b i:Nat} (hb:b < w.heap.size) (hr:some b ≠ row):w'.frozen? ⟨b,i,none⟩ = w.frozen? ⟨b,i,none⟩:=World.frozen?_of_block (hg.block b hb hr)
end Go
end
section
/- Walks: where one can go. -/
namespace Go.Proofs
open Go.RowKit
structure FInv (w0:World) (D:Nat) (Ak:Option Addr) (ck:Nat) (kinds:List Int) (W:World) (ys:List Int):Prop where
 aft:Aft w0 W
 size:w0.heap.size + 4 <= W.heap.size
 kd:W.cell? ⟨w0.heap.size,0,none⟩ = some (.pointer (some ⟨D,0,none⟩))
 kk:W.cell? ⟨w0.heap.size + 1,0,none⟩ = some (.slice Ak kinds.length ck)
 kf:W.cell? ⟨w0.heap.size + 3,0,none⟩ = some (.func (.func 144) #[] #[.pointer (some ⟨w0.heap.size,0,none⟩),.pointer (some ⟨w0.heap.size + 1,0,none⟩),.pointer (some ⟨w0.heap.size + 2,0,none⟩),.pointer (some ⟨w0.heap.size + 3,0,none⟩)])
 ko:∃ A c,W.cell? ⟨w0.heap.size + 2,0,none⟩ = some (.slice A ys.length c) /\ W.ownsRow (w0.heap.size + 4) 3 1 (.slice A ys.length c) ys.length (ys.map (Value.int .i64))
 kz:W.frozen? ⟨w0.heap.size + 2,0,none⟩ = false
section
variable {w0:World} {D:Nat} {Ak:Option Addr} {ck:Nat} {kinds:List Int} {W W':World} {ys:List Int}
theorem FInv.later (h:FInv w0 D Ak ck kinds W ys) (ha:Aft W W'):FInv w0 D Ak ck kinds W' ys:=by
 have hs:=h.size;obtain ⟨A,c,h1,h2⟩:=h.ko;obtain ⟨u,rfl⟩:=ha;exact ⟨h.aft.then_lat u,Nat.le_trans hs (World.lat_size _ _),(World.lat_cell _ _ _ _ (by omega)).trans h.kd,(World.lat_cell _ _ _ _ (by omega)).trans h.kk,(World.lat_cell _ _ _ _ (by omega)).trans h.kf,
  ⟨A,c,(World.lat_cell _ _ _ _ (by omega)).trans h1,own_lat h2 u⟩,(World.lat_frozen _ _ _ _ (by omega)).trans h.kz⟩
theorem FInv.push (h:FInv w0 D Ak ck kinds W ys) {v v':Value} {x:Int} (hv:W.cell? ⟨w0.heap.size + 2,0,none⟩ = some v) (hown:W'.ownsRow (w0.heap.size + 4) 3 1 v' (ys.length + 1) (ys.map (Value.int .i64) ++ [Value.int .i64 x])) (hg:W.grownBy W' v.ownBlock) (hb:∀ k,v.ownBlock = some k -> w0.heap.size + 4 <= k) (hl:ys.length + 1 <= 100) :
  FInv w0 D Ak ck kinds (W'.setCell ⟨w0.heap.size + 2,0,none⟩ v') (ys ++ [x]):=by
 have hs:=h.size;have hne:∀ b,b < w0.heap.size + 4 -> some b ≠ v.ownBlock:=fun b hlt e=>by have:=hb b e.symm;omega
 have hs':=hg.size;have hc2:W'.cell? ⟨w0.heap.size + 2,0,none⟩ = some v:=(cell_grown9 hg (by omega) (hne _ (by omega))).trans hv;have hown':W'.ownsRow (w0.heap.size + 4) 3 1 v' (ys ++ [x]).length ((ys ++ [x]).map (Value.int .i64)):=by simpa using hown
 obtain ⟨A,c,rfl,_,_⟩:=own_ints hown' (by simp;omega);refine ⟨(h.aft.grown hg (fun k hk=>by have:=hb k hk;omega)).then_setCell (by simp) _,by simp [World.setCell];omega,?_,?_,?_,⟨A,c,World.cell?_setCell_same _ _ _ hc2,ownsRow_setCell_below hown' (by simp) _⟩,?_⟩
 ·rw [World.cell?_setCell_other _ _ _ _ (by simp),cell_grown9 hg (by omega) (hne _ (by omega))];exact h.kd
 ·rw [World.cell?_setCell_other _ _ _ _ (by simp),cell_grown9 hg (by omega) (hne _ (by omega))];exact h.kk
 ·rw [World.cell?_setCell_other _ _ _ _ (by simp),cell_grown9 hg (by omega) (hne _ (by omega))];exact h.kf
 ·rw [World.frozen?_setCell,frozen_grown hg (by omega) (hne _ (by omega))];exact h.kz
end
theorem own_pushed {w:World} {base:Nat} {v:Value} {ys:List Int} {x:Int} (h:w.ownsRow base 3 1 v (ys.length + 1) (ys.map (Value.int .i64) ++ [Value.int .i64 x])) (hl:ys.length + 1 <= 100):∃ A c,v = .slice A (ys.length + 1) c:=by
 have h':w.ownsRow base 3 1 v (ys ++ [x]).length ((ys ++ [x]).map (Value.int .i64)):=by simpa using h
 obtain ⟨A,c,e,_,_⟩:=own_ints h' (by simp;omega);exact ⟨A,c,by simpa using e⟩
def InR (p:Int) (l:List Int):Prop:=∀ x ∈ l,0 <= x /\ x < p
theorem InR.push {p x:Int} {ys:List Int} (h:InR p ys) (hx:0 <= x /\ x < p):InR p (ys ++ [x]):=by
 intro z hz;rw [List.mem_append,List.mem_singleton] at hz;rcases hz with hz | rfl
 ·exact h z hz
 ·exact hx
theorem nodup_push {x:Int} {ys:List Int} (h:ys.Nodup) (hb:hasB ys x = false):(ys ++ [x]).Nodup:=by
 rw [List.nodup_append];refine ⟨h,by simp,fun a ha b hb' e=>?_⟩;rw [List.mem_singleton] at hb';subst hb' e;rw [hasB_iff.2 ha] at hb;exact Bool.noConfusion hb
def Followed (w0:World) (D:Nat) (Ak:Option Addr) (ck:Nat) (kinds:List Int) (T:Treaty) (s:Int) (xs:List Int) (e:Ending) (W':World):Prop :=
 e = .returned (.tuple #[]) /\ ∃ ys,FInv w0 D Ak ck kinds W' ys /\ DfsOk (edgeB T.ways kinds) s xs ys /\ InR T.places ys /\ ∀ z,edgeB T.ways kinds s z = true -> z ∈ ys
set_option maxRecDepth 100000 in
set_option maxHeartbeats 2000000 in
theorem follow_any (w0:World) (D:Nat) (Ak:Option Addr) (ck:Nat) (kinds:List Int) (T:Treaty) (a1 a2 a3 a4:Option Addr) (c1 c2 c3 c4:Nat) (f:Nat -> Nat -> Nat -> Bool) (hd:Desk w0 D T a1 a2 a3 a4 c1 c2 c3 c4 f) (hways:RowsP w0 a1 3 WayR T.ways) (hkinds:Ints w0 Ak kinds)
  (hp:T.places <= 12) (hw:∀ x ∈ T.ways,0 <= x.a /\ x.a < T.places /\ 0 <= x.b /\ x.b < T.places) (n:Nat) :
  ∀ (s:Int) (xs:List Int) (W:World),13 - xs.length <= n -> FInv w0 D Ak ck kinds W xs -> xs.Nodup -> InR T.places xs ->
   Calls Tryz.prog 144 #[.int .i64 s,.pointer (some ⟨w0.heap.size,0,none⟩),.pointer (some ⟨w0.heap.size + 1,0,none⟩),.pointer (some ⟨w0.heap.size + 2,0,none⟩),.pointer (some ⟨w0.heap.size + 3,0,none⟩)] W (Followed w0 D Ak ck kinds T s xs):=by
 have HD:=Lib.hid hd;have HW:=Lib.hid hw;have hwl:=hways.len (by decide);clear hd hw
 induction n with
 | zero =>
  intro s xs W hn hI hnd hr;have:=nodup_le (p:=T.places.toNat) hnd (fun y hy=>by have:=hr y hy;omega);omega
 | succ n ih =>
  intro s xs W hn hI hnd hr;have IH:=Lib.hid ih;clear ih;have k1:=(HD.out.aft hI.aft).k1;have kd:=hI.kd;have HND:=Lib.hid hnd;have HR:=Lib.hid hr;clear hnd hr;go_enter Tryz.func144,Tryz.ntmps144;go_wp2_with fail
  go_loopw [16] (fun i wr=>∃ k:Nat,i = .int .i64 k /\ k <= T.ways.length /\ ∃ ys,FInv w0 D Ak ck kinds wr ys /\ DfsOk (edgeB T.ways kinds) s xs ys /\ InR T.places ys /\ ∀ z,edgeB (T.ways.take k) kinds s z = true -> z ∈ ys) (fun i _=>T.ways.length - (intOf i).toNat)
  case atStart=>exact ⟨0,rfl,by omega,xs,hI,DfsOk.refl HND.out,HR.out,fun z hz=>by simp [edgeB] at hz⟩
  case round =>
   clear kd k1 hI;obtain ⟨k,rfl,hk,ys,hI,hdo,hr,hdone⟩:=hrel;have HDO:=Lib.hid hdo;have HR2:=Lib.hid hr;have HDN:=Lib.hid hdone;clear hdo hr hdone;by_cases hlk:k < T.ways.length
   ·obtain ⟨bw,ow,rfl,hbw,hc⟩:=(hways.aft WayR.mono hI.aft).at hlk;obtain ⟨vs,hv1,hv2,hv3⟩:=hc k hlk;cases hv2;have cA:wr.cell? ⟨bw,ow + k * 3,none⟩ = some (.int .i64 T.ways[k].a):=hv3 0 (by simp);have cB:wr.cell? ⟨bw,ow + k * 3 + 1,none⟩ = some (.int .i64 T.ways[k].b):=hv3 1 (by simp);have cK:wr.cell? ⟨bw,ow + k * 3 + 2,none⟩ = some (.int .i64 T.ways[k].kind):=hv3 2 (by simp);have hes:=Lib.hid (fun z=>edgeB_take_succ T.ways kinds s z k hlk);have hej:=Lib.hid (fun z=>edgeB_of_joins T.ways kinds s z k hlk);have hwr:=HW.out _ (List.getElem_mem hlk);clear hc hv1 hv3;generalize T.ways[k] = x at *;have kk:=hI.kk;have hsz:=hI.size;have z1:w0.heap.size + 1 < wr.heap.size:=by omega
    have z0:w0.heap.size < wr.heap.size:=by omega
    have z2:w0.heap.size + 2 < wr.heap.size:=by omega
    have z3:w0.heap.size + 3 < wr.heap.size:=by omega
    have hki:Ints (wr.alloc (.cells #[.int .i64 x.a,.int .i64 x.b,.int .i64 x.kind] 65)) Ak kinds:=(hkinds.aft hI.aft).aft (Aft.alloc _ _);cases hkd:hasB kinds x.kind
    ·have HK:=Lib.hid hkd;clear hkd;go_wp2_with (go_at_call 60;refine (contains_any _ _ _ _ _ hki).mono ?_;rintro e w' ⟨rfl,rfl⟩;rw [HK.out])
     go_roundw
     case rel =>
      refine ⟨k + 1,by go_num,by omega,ys,hI.later (Aft.alloc _ _),HDO.out,HR2.out,fun z hz=>HDN.out z ?_⟩;rw [hes.out] at hz;simpa [joins,HK.out] using hz
     case measure=>simp [intOf];omega
    ·have HK:=Lib.hid hkd;clear hkd;go_wp2_with (go_at_call 60;refine (contains_any _ _ _ _ _ hki).mono ?_;rintro e w' ⟨rfl,rfl⟩;rw [HK.out])
     have hI0:=hI.later (Aft.alloc wr (.cells #[.int .i64 x.a,.int .i64 x.b,.int .i64 x.kind] 65));clear kk hsz z0 z1 z2 z3 hki cA cB cK hI hbw;generalize wr.alloc (.cells #[.int .i64 x.a,.int .i64 x.b,.int .i64 x.kind] 65) = w5 at *;go_loopw [34] (fun i wr=>∃ r:Nat,i = .int .i64 r /\ r <= 2 /\ ∃ ys,FInv w0 D Ak ck kinds wr ys /\ DfsOk (edgeB T.ways kinds) s xs ys /\ InR T.places ys /\ (∀ z,edgeB (T.ways.take k) kinds s z = true -> z ∈ ys) /\ (1 <= r -> x.a = s -> x.b ∈ ys) /\ (2 <= r -> x.b = s -> x.a ∈ ys)) (fun i _=>2 - (intOf i).toNat)
     case atStart=>exact ⟨0,rfl,by decide,ys,hI0,HDO.out,HR2.out,HDN.out,fun h=>absurd h (by decide),fun h=>absurd h (by decide)⟩
     case round =>
      clear hI0 HDO HR2 HDN ys;obtain ⟨r,rfl,hr2,ys,hI,hdo,hr,hdone,hda,hdb⟩:=hrel;have HDO:=Lib.hid hdo;have HR2:=Lib.hid hr;have HDN:=Lib.hid hdone;have HDA:=Lib.hid hda;have HDB:=Lib.hid hdb;clear hdo hr hdone hda hdb;obtain ⟨wo,hwo⟩:∃ wo:World,wo = wr:=⟨_,rfl⟩;subst hwo;obtain ⟨A,c,ko1,ko2⟩:=hI.ko;have hsz:=hI.size;have z0:w0.heap.size < wo.heap.size:=by omega
      have z1:w0.heap.size + 1 < wo.heap.size:=by omega
      have z2:w0.heap.size + 2 < wo.heap.size:=by omega
      have z3:w0.heap.size + 3 < wo.heap.size:=by omega
      have hylen:ys.length <= 12:=by
       have:=nodup_le (p:=T.places.toNat) HDO.out.nodup (fun y hy=>by have:=HR2.out y hy;omega);omega
      have hints:Ints wo A ys:=by
       obtain ⟨A',c',e,_,h⟩:=own_ints ko2 (by omega);cases e;exact h
      match r,hr2 with
      | 0,_ =>
       have hix:∀ w,(Instr.index 180 (.agg #[.int .i64 x.a,.int .i64 x.b,.int .i64 x.kind,.int .i64 x.b,.int .i64 x.a,.int .i64 x.kind]) (.int .i64 0)).run Tryz.prog w = .ok (.agg #[.int .i64 x.a,.int .i64 x.b,.int .i64 x.kind]) w:=fun _=>by kernel_rfl
       by_cases hs:x.a = s
       ·have hsb:(x.a == s) = true:=by rw [beq_iff_eq];exact hs
        have HS:=Lib.hid hs;clear hs;have hin:Ints (wo.alloc (.cells #[.int .i64 x.a,.int .i64 x.b,.int .i64 x.kind] 65)) A ys:=hints.aft (Aft.alloc _ _);cases hm:hasB ys x.b
        ·have HM:=Lib.hid hm;clear hm;have hI3:=hI.later ((Aft.alloc wo (.cells #[.int .i64 x.a,.int .i64 x.b,.int .i64 x.kind] 65)).then_alloc (.cells #[.int .i64 x.b] 3));have ko3:((wo.alloc (.cells #[.int .i64 x.a,.int .i64 x.b,.int .i64 x.kind] 65)).alloc (.cells #[.int .i64 x.b] 3)).cell? ⟨w0.heap.size + 2,0,none⟩ = some (.slice A ys.length c):=by simp [go_sem,z2,ko1]
         have k9:((wo.alloc (.cells #[.int .i64 x.a,.int .i64 x.b,.int .i64 x.kind] 65)).alloc (.cells #[.int .i64 x.b] 3)).cell? ⟨wo.heap.size,1,none⟩ = some (.int .i64 x.b):=by simp [go_sem]
         have HI3:=Lib.hid hI3;have K3:=Lib.hid ko3;have K9:=Lib.hid k9;have hz3:=hI3.kz;have HZ3:=Lib.hid hz3;clear hI3 ko3 k9 hz3
         go_wp2_with (first
          | (go_at_call 60;refine (contains_any _ _ _ _ _ hin).mono ?_;rintro e w' ⟨rfl,rfl⟩;rw [HM.out])
          | (at_builtin;refine wpList_app_at ty24 rfl _ _ rfl (base:=w0.heap.size + 4) (by simp;omega) rfl (v:=.slice A ys.length c) (xs:=ys.map (Value.int .i64)) (n:=ys.length) (by exact (ko2.alloc _).alloc _) rfl (news:=[.int .i64 x.b]) (by rfl) (by intro h;cases h) (by exact src_at _ _ _ _ (by simp)) (one_int _) (by omega) (by decide) ?_;intro v' w1 hown' hgrow;obtain ⟨A',c',rfl⟩:=own_pushed hown' (by omega);have hI4:=HI3.out.push K3.out hown' hgrow (fun k hk=>(ko2.lt k hk).1) (by omega);have c2:=(cell_grown9 hgrow (i:=0) (b:=w0.heap.size + 2) (by simp;omega) (fun e=>by have:=(ko2.lt _ e.symm).1;omega)).trans K3.out;have f2:=(frozen_grown hgrow (i:=0) (b:=w0.heap.size + 2) (by simp;omega) (fun e=>by have:=(ko2.lt _ e.symm).1;omega)).trans HZ3.out;have c9:=(cell_grown9 hgrow (i:=1) (b:=wo.heap.size) (by simp;omega) (fun e=>by have:=(ko2.lt _ e.symm).2;omega)).trans K9.out;have kf2:=hI4.kf;have zz:wo.heap.size ≠ w0.heap.size + 2:=(by omega);clear hown' hgrow)
          | (refine (IH.out x.b (ys ++ [x.b]) _ (by have:=HDO.out.len;simp;omega) hI4 (nodup_push HDO.out.nodup HM.out) (HR2.out.push (by omega))).mono ?_;rintro e w' ⟨rfl,zs,hJ,hdz,hrz,hez⟩))
         go_roundw
         case rel=>exact ⟨1,by go_num,by decide,zs,hJ,DfsOk.grow HDO.out (hej.out x.b (by simp [joins,HK.out,HS.out])) hdz hez,hrz,fun z h=>hdz.sub z (List.mem_append_left _ (HDN.out z h)),fun _ _=>hdz.sub _ (by simp),fun h=>absurd h (by decide)⟩
         case measure=>simp [intOf]
        ·have HM:=Lib.hid hm;clear hm;go_wp2_with (go_at_call 60;refine (contains_any _ _ _ _ _ hin).mono ?_;rintro e w' ⟨rfl,rfl⟩;rw [HM.out])
         go_roundw
         case rel=>exact ⟨1,by go_num,by decide,ys,hI.later (Aft.alloc _ _),HDO.out,HR2.out,HDN.out,fun _ _=>hasB_iff.1 HM.out,fun h=>absurd h (by decide)⟩
         case measure=>simp [intOf]
       ·have hsb:(x.a == s) = false:=by rw [beq_eq_false_iff_ne];exact hs
        have HS:=Lib.hid hs;clear hs;go_wp2_with fail
        go_roundw
        case rel=>exact ⟨1,by go_num,by decide,ys,hI.later (Aft.alloc _ _),HDO.out,HR2.out,HDN.out,fun _ h=>absurd h HS.out,fun h=>absurd h (by decide)⟩
        case measure=>simp [intOf]
      | 1,_ =>
       have hix:∀ w,(Instr.index 180 (.agg #[.int .i64 x.a,.int .i64 x.b,.int .i64 x.kind,.int .i64 x.b,.int .i64 x.a,.int .i64 x.kind]) (.int .i64 1)).run Tryz.prog w = .ok (.agg #[.int .i64 x.b,.int .i64 x.a,.int .i64 x.kind]) w:=fun _=>by kernel_rfl
       by_cases hs:x.b = s
       ·have hsb:(x.b == s) = true:=by rw [beq_iff_eq];exact hs
        have HS:=Lib.hid hs;clear hs;have hin:Ints (wo.alloc (.cells #[.int .i64 x.b,.int .i64 x.a,.int .i64 x.kind] 65)) A ys:=hints.aft (Aft.alloc _ _);cases hm:hasB ys x.a
        ·have HM:=Lib.hid hm;clear hm;have hI3:=hI.later ((Aft.alloc wo (.cells #[.int .i64 x.b,.int .i64 x.a,.int .i64 x.kind] 65)).then_alloc (.cells #[.int .i64 x.a] 3));have ko3:((wo.alloc (.cells #[.int .i64 x.b,.int .i64 x.a,.int .i64 x.kind] 65)).alloc (.cells #[.int .i64 x.a] 3)).cell? ⟨w0.heap.size + 2,0,none⟩ = some (.slice A ys.length c):=by simp [go_sem,z2,ko1]
         have k9:((wo.alloc (.cells #[.int .i64 x.b,.int .i64 x.a,.int .i64 x.kind] 65)).alloc (.cells #[.int .i64 x.a] 3)).cell? ⟨wo.heap.size,1,none⟩ = some (.int .i64 x.a):=by simp [go_sem]
         have HI3:=Lib.hid hI3;have K3:=Lib.hid ko3;have K9:=Lib.hid k9;have hz3:=hI3.kz;have HZ3:=Lib.hid hz3;clear hI3 ko3 k9 hz3
         go_wp2_with (first
          | (go_at_call 60;refine (contains_any _ _ _ _ _ hin).mono ?_;rintro e w' ⟨rfl,rfl⟩;rw [HM.out])
          | (at_builtin;refine wpList_app_at ty24 rfl _ _ rfl (base:=w0.heap.size + 4) (by simp;omega) rfl (v:=.slice A ys.length c) (xs:=ys.map (Value.int .i64)) (n:=ys.length) (by exact (ko2.alloc _).alloc _) rfl (news:=[.int .i64 x.a]) (by rfl) (by intro h;cases h) (by exact src_at _ _ _ _ (by simp)) (one_int _) (by omega) (by decide) ?_;intro v' w1 hown' hgrow;obtain ⟨A',c',rfl⟩:=own_pushed hown' (by omega);have hI4:=HI3.out.push K3.out hown' hgrow (fun k hk=>(ko2.lt k hk).1) (by omega);have c2:=(cell_grown9 hgrow (i:=0) (b:=w0.heap.size + 2) (by simp;omega) (fun e=>by have:=(ko2.lt _ e.symm).1;omega)).trans K3.out;have f2:=(frozen_grown hgrow (i:=0) (b:=w0.heap.size + 2) (by simp;omega) (fun e=>by have:=(ko2.lt _ e.symm).1;omega)).trans HZ3.out;have c9:=(cell_grown9 hgrow (i:=1) (b:=wo.heap.size) (by simp;omega) (fun e=>by have:=(ko2.lt _ e.symm).2;omega)).trans K9.out;have kf2:=hI4.kf;have zz:wo.heap.size ≠ w0.heap.size + 2:=(by omega);clear hown' hgrow)
          | (refine (IH.out x.a (ys ++ [x.a]) _ (by have:=HDO.out.len;simp;omega) hI4 (nodup_push HDO.out.nodup HM.out) (HR2.out.push (by omega))).mono ?_;rintro e w' ⟨rfl,zs,hJ,hdz,hrz,hez⟩))
         go_roundw
         case rel=>exact ⟨2,by go_num,by decide,zs,hJ,DfsOk.grow HDO.out (hej.out x.a (by simp [joins,HK.out,HS.out])) hdz hez,hrz,fun z h=>hdz.sub z (List.mem_append_left _ (HDN.out z h)),fun _ e=>hdz.sub _ (List.mem_append_left _ (HDA.out (by decide) e)),fun _ _=>hdz.sub _ (by simp)⟩
         case measure=>simp [intOf]
        ·have HM:=Lib.hid hm;clear hm;go_wp2_with (go_at_call 60;refine (contains_any _ _ _ _ _ hin).mono ?_;rintro e w' ⟨rfl,rfl⟩;rw [HM.out])
         go_roundw
         case rel=>exact ⟨2,by go_num,by decide,ys,hI.later (Aft.alloc _ _),HDO.out,HR2.out,HDN.out,fun _=>HDA.out (by decide),fun _ _=>hasB_iff.1 HM.out⟩
         case measure=>simp [intOf]
       ·have hsb:(x.b == s) = false:=by rw [beq_eq_false_iff_ne];exact hs
        have HS:=Lib.hid hs;clear hs;go_wp2_with fail
        go_roundw
        case rel=>exact ⟨2,by go_num,by decide,ys,hI.later (Aft.alloc _ _),HDO.out,HR2.out,HDN.out,fun _=>HDA.out (by decide),fun _ h=>absurd h HS.out⟩
        case measure=>simp [intOf]
      | 2,_ =>
       go_wp2_with fail
       go_roundw
       case rel =>
        refine ⟨k + 1,by go_num,by omega,ys,hI,HDO.out,HR2.out,fun z hz=>?_⟩;rw [hes.out,Bool.or_eq_true] at hz;rcases hz with hz | hz
        ·exact HDN.out z hz
        ·simp only [joins,Bool.and_eq_true,Bool.or_eq_true,decide_eq_true_eq] at hz;rcases hz.2 with ⟨h1,h2⟩ | ⟨h1,h2⟩
         ·rw [<- h2];exact HDA.out (by decide) h1
         ·rw [<- h2];exact HDB.out (by decide) h1
       case measure=>simp [intOf];omega
   ·go_wp2_with fail
    go_end0;refine ⟨rfl,ys,hI,HDO.out,HR2.out,fun z hz=>HDN.out z ?_⟩;rw [List.take_of_length_le (by omega)];exact hz
end Go.Proofs
end
section
/- Plain: what a right treaty has,and where its legs lead in a reading. -/
namespace Go.Proofs
structure TOk (T:Treaty):Prop where
 p1:1 <= T.places
 p2:T.places <= 12
 nways:T.ways.length <= 40
 nwords:T.words.length <= 6
 nstarts:1 <= T.starts.length
 nlegs:T.legs.length <= 10
 wlen:∀ l ∈ T.words,1 <= l.length /\ l.length <= 4
 ways:∀ x ∈ T.ways,0 <= x.a /\ x.a < T.places /\ 0 <= x.b /\ x.b < T.places
 kinds:∀ l ∈ T.words,∀ m ∈ l,∀ x ∈ m.kinds,0 <= x /\ x <= 7
 ends:∀ l ∈ T.words,∀ m ∈ l,∀ x ∈ m.ends,0 <= x /\ x < T.places
 starts:∀ x ∈ T.starts,0 <= x /\ x < T.places
 legs:∀ l ∈ T.legs,0 <= l.word /\ l.word < T.words.length /\ (l.other = -1 \/ 0 <= l.other /\ l.other < T.words.length)
 rkinds:∀ l ∈ T.words,∀ m ∈ l,risesB m.kinds = true
 rends:∀ l ∈ T.words,∀ m ∈ l,risesB m.ends = true
 rstarts:risesB T.starts = true
 prod:prodLen T.words <= 256
theorem wayErr_zero {p:Int} {x:Way} (h:wayErr p x = 0):0 <= x.a /\ x.a < p /\ 0 <= x.b /\ x.b < p:=by
 unfold wayErr at h;split at h
 ·exact absurd h (by decide)
 ·rename_i h1
  simp only [Bool.or_eq_true,Bool.not_eq_true',not_or,decide_eq_true_eq,Bool.not_eq_false,fromB_iff] at h1;omega
theorem checkE_ok {T:Treaty} (h:checkE T = 0):TOk T:=by
 unfold checkE at h;split at h;· exact absurd h (by decide)
 rename_i h1
 split at h;· exact absurd h (by decide)
 rename_i h2
 split at h;· rename_i h3;exact absurd h h3
 rename_i h3
 split at h;· exact absurd h (by decide)
 rename_i h4
 split at h;· exact absurd h (by decide)
 rename_i h5
 split at h;· exact absurd h (by decide)
 rename_i h6
 split at h;· exact absurd h (by decide)
 rename_i h7
 split at h;· exact absurd h (by decide)
 rename_i h8
 split at h;· exact absurd h (by decide)
 rename_i h9
 clear h;simp only [cntBad,Bool.or_eq_true,Bool.not_eq_true',not_or,decide_eq_true_eq,Bool.not_eq_false,fromB_iff] at h1;simp only [Bool.not_eq_false,List.all_eq_true,fromB_iff,Bool.and_eq_true,legOk,Bool.or_eq_true,decide_eq_true_eq] at h2 h4 h5 h6 h7 h8;rw [Decidable.not_not,waysErr_zero] at h3;refine ⟨by omega,by omega,by omega,by omega,by omega,by omega,fun l hl=>?_,fun x hx=>wayErr_zero (h3 x hx),fun l hl m hm x hx=>?_,fun l hl m hm x hx=>?_,fun x hx=>?_,fun l hl=>?_,fun l hl m hm=>(h8.1 l hl m hm).1,fun l hl m hm=>(h8.1 l hl m hm).2,h8.2,by omega⟩
 ·have:=h2 l hl;omega
 ·have:=h4 l hl m hm x hx;omega
 ·have:=h5 l hl m hm x hx;omega
 ·have:=h6 x hx;omega
 ·have:=h7 l hl;omega
def ReadOk (T:Treaty) (R:List Int):Prop:=R.length = T.words.length /\ ∀ k,(h:k < R.length) -> (h':k < T.words.length) -> 0 <= R[k] /\ R[k] < T.words[k].length
def meanAt (T:Treaty) (R:List Int) (n:Int):Mean:=(T.words.getD n.toNat []).getD (R.getD n.toNat 0).toNat ⟨[],[]⟩
def kindsAt (T:Treaty) (R:List Int) (l:Leg):List Int:=if l.other = -1 then (meanAt T R l.word).kinds else commonL (meanAt T R l.word).kinds [(meanAt T R l.other).kinds]
def endsAt (T:Treaty) (R:List Int) (l:Leg):List Int:=if l.other = -1 then (meanAt T R l.word).ends else commonL (meanAt T R l.word).ends [(meanAt T R l.other).ends]
def LeadsP (T:Treaty) (R:List Int) (i a b:Nat):Prop :=
 ∃ h:i < T.legs.length,a < T.places.toNat /\ ReachP (edgeB T.ways (kindsAt T R T.legs[i])) a b /\ hasB (endsAt T R T.legs[i]) b = true
theorem meanAt_eq {T:Treaty} {R:List Int} {n:Nat} (h:n < T.words.length) (h':n < R.length) {k:Nat} (hk:R[n] = k) (hk':k < T.words[n].length):meanAt T R n = T.words[n][k]:=by
 unfold meanAt;rw [Int.toNat_natCast,List.getD_eq_getElem?_getD,List.getD_eq_getElem?_getD,List.getD_eq_getElem?_getD,List.getElem?_eq_getElem h,List.getElem?_eq_getElem h'];simp only [Option.getD_some];rw [hk,Int.toNat_natCast,List.getElem?_eq_getElem hk'];rfl
end Go.Proofs
end
section
/- Words for memory: a slice of slices of the call's own. -/
namespace Go.Proofs
open Go.RowKit
theorem ty41:SliceTy Tryz.prog 37 24 1 24:=.mk' (z:=.slice none 0 0) Tryz.underlying37 (by kernel_rfl) rfl (by decide)
structure OwnLs (W:World) (base:Nat) (v:Value) (vs:List Value) (ls:List (List Int)):Prop where
 own:W.ownsRow base 24 1 v ls.length vs
 rows:∀ i,(h:i < ls.length) -> (h':i < vs.length) -> W.ownsRow base 3 1 vs[i] ls[i].length (ls[i].map (Value.int .i64))
 apart:∀ i,(h:i < vs.length) -> ∀ g,vs[i].ownBlock = some g -> v.ownBlock ≠ some g /\ ∀ j,(h':j < vs.length) -> j ≠ i -> vs[j].ownBlock ≠ some g
def OwnLists (W:World) (base:Nat) (v:Value) (ls:List (List Int)):Prop:=∃ vs,OwnLs W base v vs ls
section
variable {W W':World} {base:Nat} {v:Value} {vs:List Value} {ls:List (List Int)}
theorem OwnLs.len (h:OwnLs W base v vs ls):vs.length = ls.length:=by simpa using h.own.1
theorem OwnLs.nil:OwnLs W base (.slice none 0 0) [] []:=⟨World.ownsRow_nil _ _ 24 1,fun i h=>by simp at h,fun i h=>by simp at h⟩
theorem OwnLists.nil:OwnLists W base (.slice none 0 0) []:=⟨[],OwnLs.nil⟩
theorem OwnLs.aft (h:OwnLs W base v vs ls) (ha:Aft W W'):OwnLs W' base v vs ls :=
 ⟨own_aft h.own ha,fun i hi hi'=>own_aft (h.rows i hi hi') ha,h.apart⟩
theorem OwnLists.aft (h:OwnLists W base v ls) (ha:Aft W W'):OwnLists W' base v ls:=let ⟨vs,h⟩:=h;⟨vs,h.aft ha⟩
theorem OwnLs.mono (h:OwnLs W base v vs ls) {b:Nat} (hb:b <= base):OwnLs W b v vs ls :=
 ⟨World.ownsRow.mono h.own hb,fun i hi hi'=>World.ownsRow.mono (h.rows i hi hi') hb,h.apart⟩
theorem OwnLists.mono (h:OwnLists W base v ls) {b:Nat} (hb:b <= base):OwnLists W b v ls:=let ⟨vs,h⟩:=h;⟨vs,h.mono hb⟩
theorem OwnLs.push (h:OwnLs W base v vs ls) {W2 W3:World} (ha:Aft W W2) {r v':Value} {l:List Int} (hr:W2.ownsRow W.heap.size 3 1 r l.length (l.map (Value.int .i64))) (hbase:base <= W.heap.size)
  (hown:W3.ownsRow base 24 1 v' (ls.length + 1) (vs ++ [r])) (hg:W2.grownBy W3 v.ownBlock) (hat:v'.ownBlock = v.ownBlock \/ v'.ownBlock = some W2.heap.size):OwnLs W3 base v' (vs ++ [r]) (ls ++ [l]):=by
 have hlen:=h.len;have old:∀ i,(hi:i < vs.length) -> ∀ g,vs[i].ownBlock = some g -> g < W.heap.size:=fun i hi g hg=>((h.rows i (by omega) hi).lt g hg).2
 have vold:∀ g,v.ownBlock = some g -> g < W.heap.size:=fun g hg=>(h.own.lt g hg).2
 have rnew:∀ g,r.ownBlock = some g -> W.heap.size <= g /\ g < W2.heap.size:=fun g hg=>hr.lt g hg
 have hs:=ha.size;refine ⟨by simpa using hown,fun i hi hi'=>?_,fun i hi g hgi=>?_⟩
 ·by_cases e:i < vs.length
  ·rw [List.getElem_append_left e];have e':i < ls.length:=by omega
   simp only [List.getElem_append_left e'];refine (own_aft (h.rows i e' e) ha).kept hg ?_
   cases hb:vs[i].ownBlock with
   | none=>left;rfl
   | some g=>right;intro e2;exact (h.apart i e g hb).1 e2.symm
  ·have e2:i = vs.length:=by simp at hi';omega
   subst e2;have e3:vs.length = ls.length:=hlen;rw [List.getElem_append_right (Nat.le_refl _)];simp only [Nat.sub_self,List.getElem_cons_zero];have:(ls ++ [l])[vs.length]'hi = l:=by simp [e3]
   rw [this];refine World.ownsRow.mono (hr.kept hg ?_) hbase
   cases hb:r.ownBlock with
   | none=>left;rfl
   | some g=>right;intro e2;have:=vold g e2.symm;have:=(rnew g hb).1;omega
 ·by_cases e:i < vs.length
  ·rw [List.getElem_append_left e] at hgi;have hlt:=old i e g hgi;refine ⟨fun e2=>?_,fun j hj hne=>?_⟩
   ·rcases hat with h1 | h1
    ·rw [h1] at e2;exact (h.apart i e g hgi).1 e2
    ·rw [h1] at e2;cases e2;omega
   ·by_cases ej:j < vs.length
    ·rw [List.getElem_append_left ej];exact (h.apart i e g hgi).2 j ej hne
    ·have e2:j = vs.length:=by simp at hj;omega
     subst e2;rw [List.getElem_append_right (Nat.le_refl _)];simp only [Nat.sub_self,List.getElem_cons_zero];intro e2;have:=(rnew g e2).1;omega
  ·have e2:i = vs.length:=by simp at hi;omega
   subst e2;rw [List.getElem_append_right (Nat.le_refl _)] at hgi;simp only [Nat.sub_self,List.getElem_cons_zero] at hgi;have:=rnew g hgi;refine ⟨fun e2=>?_,fun j hj hne=>?_⟩
   ·rcases hat with h1 | h1
    ·rw [h1] at e2;have:=vold g e2;omega
    ·rw [h1] at e2;cases e2;omega
   ·have ej:j < vs.length:=by simp at hj;omega
    rw [List.getElem_append_left ej];intro e2;have:=old j ej g e2;omega
theorem OwnLs.lists (h:OwnLs W base v vs ls) (hl:ls.length <= 17592186043904) (hr:∀ l ∈ ls,l.length <= 17592186043904):∃ A c,v = .slice A ls.length c /\ ls.length <= c /\ Lists W A ls:=by
 rcases h.own.2 with ⟨rfl,h0⟩ | ⟨g,cap,cur,rfl,hg,hh,hc,hm,hs,ht⟩
 ·have:ls = []:=List.eq_nil_of_length_eq_zero h0;subst this;exact ⟨none,0,rfl,Nat.le_refl _,by simp,.inl rfl⟩
 ·refine ⟨_,cap,rfl,hc,by omega,.inr ⟨g,0,rfl,(Array.getElem?_eq_some_iff.1 hh).1,fun i hi=>?_⟩⟩;have hiv:i < vs.length:=by rw [h.len];exact hi
  obtain ⟨A,c,e,_,hi2⟩:=own_ints (h.rows i hi hiv) (hr _ (List.getElem_mem hi));refine ⟨[vs[i]],rfl,⟨A,c,by rw [e],hi2⟩,fun j hj=>?_⟩;have:=h.own.cells (g:=g) rfl i vs[i] (by simp [hiv]);rw [Addr.add_lit] at this;simp at hj;subst hj;simpa using this
theorem OwnLists.lists (h:OwnLists W base v ls) (hl:ls.length <= 17592186043904) (hr:∀ l ∈ ls,l.length <= 17592186043904):∃ A c,v = .slice A ls.length c /\ ls.length <= c /\ Lists W A ls:=let ⟨_,h⟩:=h;h.lists hl hr
end
theorem wpList_app_list {w:World} {ops:Array Oper} {rest:List Oper} {o:Oper} {a:Act} {Q:Exit -> Act -> World -> Prop}
  (hgd:o.guard = none) (s x:Operand) (ho:o.op = .call { callee:=.builtin .append,args:=#[s,x],argTypes:=#[37,37] })
  {base:Nat} {v:Value} {vs:List Value} {ls:List (List Int)} {W:World} (h:OwnLs W base v vs ls) (hbase:base <= W.heap.size) (hs:a.eval s = v)
  {r:Value} {l:List Int} {c:Nat} {b:Nat} (hx:a.eval x = .slice (some ⟨b,0,none⟩) 1 c) (hb:w.cell? ⟨b,0,none⟩ = some r) (h1:r.oneCell' = true)
  (ha:Aft W w) (hr:w.ownsRow W.heap.size 3 1 r l.length (l.map (Value.int .i64))) (hl:ls.length <= 1000000)
  (hn:∀ v' vs' w',OwnLs w' base v' vs' (ls ++ [l]) -> w.grownBy w' v.ownBlock -> wpList Tryz.prog ops Q rest (a.put o.dst v') w'):wpList Tryz.prog ops Q (o :: rest) a w:=by
 obtain ⟨ht,⟨i,z,hi,hz,hsize,hby,hzs⟩,hsz⟩:=ty41;refine wpList_append_own_at (w:=w) hgd s x 37 ho base 24 i z 1 24 ht hi hz hsize hby hzs hsz v ls.length vs hs (own_aft h.own ha) ⟨b,0,none⟩ 1 c [r] hx rfl (fun j u hj=>?_) (fun u hu=>by rw [List.mem_singleton] at hu;subst hu;exact h1)
  (by unfold maxLen;omega) (by omega) (Nat.le_trans hbase ha.size) fun v' w' h2 h3 _ h5=>hn v' _ w' (h.push ha hr hbase h2 h3 h5) h3
 match j,hj with
 | 0,hj=>simp at hj;subst hj;rw [Addr.add_lit];simpa using hb
theorem step_app_list2 {w:World} {ops:Array Oper} {o:Oper} {a:Act} {K:Act -> World -> Prop} {Q:Exit -> Act -> World -> Prop} {E:Prop}
  (hgd:o.guard = none) (s x:Operand) (ho:o.op = .call { callee:=.builtin .append,args:=#[s,x],argTypes:=#[37,37] })
  {base:Nat} {v:Value} {vs:List Value} {ls:List (List Int)} {W:World} (h:OwnLs W base v vs ls) (hbase:base <= W.heap.size) (hs:a.eval s = v)
  {r:Value} {l:List Int} {c:Nat} {b:Nat} (hx:a.eval x = .slice (some ⟨b,0,none⟩) 1 c) (hb:w.cell? ⟨b,0,none⟩ = some r) (h1:r.oneCell' = true)
  (ha:Aft W w) (hr:w.ownsRow W.heap.size 3 1 r l.length (l.map (Value.int .i64))) (hl:ls.length <= 1000000)
  (hn:∀ v' w',OwnLs w' base v' (vs ++ [r]) (ls ++ [l]) -> w.grownBy w' v.ownBlock -> (v'.ownBlock = v.ownBlock \/ v'.ownBlock = some w.heap.size) -> K (a.put o.dst v') w') :
  if Region.wanted o (yielded ops a.tmps) = true then Oper.wp Tryz.prog o a w K Q else E:=by
 have hw:Region.wanted o (yielded ops a.tmps) = true:=by simp [Region.wanted,hgd]
 rw [if_pos hw];obtain ⟨ht,⟨i,z,hi,hz,hsize,hby,hzs⟩,hsz⟩:=ty41
 obtain ⟨v',w',hr',h2,h3,_,h5⟩:=run_append_own_at (P:=Tryz.prog) w base 37 o.type 24 i z 1 24 ht hi hz hsize hby hzs hsz v ls.length vs (own_aft h.own ha) ⟨b,0,none⟩ 1 c [r] rfl (fun j u hj=>by
   match j,hj with
   | 0,hj=>simp at hj;subst hj;rw [Addr.add_lit];simpa using hb) (fun u hu=>by rw [List.mem_singleton] at hu;subst hu;exact h1) (by unfold maxLen;omega) (by omega) (Nat.le_trans hbase ha.size)
 unfold Oper.wp execOp;simp only [ho,resolve,invoke,builtin,Sem.run_bind,Sem.run_pure,Result.andThen_ok,List.map_toArray,List.map_cons,List.map_nil,hs,hx,hr',Oper.upon];exact hn v' w' (h.push ha hr hbase h2 h3 h5) h3 h5
theorem own_cell1 {w:World} {base:Nat} {v:Value} {l:List Int} (h:w.ownsRow base 3 1 v l.length (l.map (Value.int .i64))):v.oneCell' = true:=by
 rcases h.2 with ⟨rfl,_⟩ | ⟨g,cap,cur,rfl,_⟩ <;> rfl
end Go.Proofs
end
section
/- Words for memory: append of one number to a list of the call's own. -/
namespace Go.Proofs
open Go.RowKit
theorem keep_grown {W W' w':World} {row:Option Nat} {b i:Nat} {x:Value} (ha:Aft W W') (hg:W'.grownBy w' row) (hb:b < W.heap.size) (hne:some b ≠ row) (h:W.cell? ⟨b,i,none⟩ = some x):w'.cell? ⟨b,i,none⟩ = some x:=by
 obtain ⟨u,rfl⟩:=ha;exact (cell_grown9 hg (Nat.lt_of_lt_of_le hb (W.lat_size u)) hne).trans ((World.lat_cell _ _ _ _ hb).trans h)
theorem keep_grown_z {W W' w':World} {row:Option Nat} {b i:Nat} {x:Bool} (ha:Aft W W') (hg:W'.grownBy w' row) (hb:b < W.heap.size) (hne:some b ≠ row) (h:W.frozen? ⟨b,i,none⟩ = x):w'.frozen? ⟨b,i,none⟩ = x:=by
 obtain ⟨u,rfl⟩:=ha;exact (frozen_grown hg (Nat.lt_of_lt_of_le hb (W.lat_size u)) hne).trans ((World.lat_frozen _ _ _ _ hb).trans h)
theorem cell_new1 (w:World) (v:Value) (t:TypeId):(w.alloc (.cells #[v] t)).cell? ⟨w.heap.size,0,none⟩ = some v:=by simp
theorem wpList_push {w:World} {ops:Array Oper} {rest:List Oper} {o:Oper} {a:Act} {Q:Exit -> Act -> World -> Prop}
  (hgd:o.guard = none) (s x:Operand) (ho:o.op = .call { callee:=.builtin .append,args:=#[s,x],argTypes:=#[24,24] })
  {base:Nat} {v:Value} {l:List Int} (hown:w.ownsRow base 3 1 v l.length (l.map (Value.int .i64))) (hbase:base <= w.heap.size) (hs:a.eval s = v)
  {y:Int} {c:Nat} {b:Nat} (hx:a.eval x = .slice (some ⟨b,0,none⟩) 1 c) (hb:w.cell? ⟨b,0,none⟩ = some (.int .i64 y)) (hl:l.length <= 1000000)
  (hn:∀ v' w',w'.ownsRow base 3 1 v' (l ++ [y]).length ((l ++ [y]).map (Value.int .i64)) -> w.grownBy w' v.ownBlock -> wpList Tryz.prog ops Q rest (a.put o.dst v') w'):wpList Tryz.prog ops Q (o :: rest) a w:=by
 refine wpList_app_at ty24 hgd s x ho hbase hs hown hx (news:=[.int .i64 y]) rfl (by intro h;cases h) (fun ad e j u h=>?_) (one_int y) (by omega) (by decide) fun v' w' h1 h2=>hn v' w' (by simpa using h1) h2
 cases e
 match j,h with
 | 0,h=>simp at h;subst h;rw [Addr.add_lit];simpa using hb
end Go.Proofs
end
section
/- A region that draws its order and ends in a store,by the quick step of a quiet walk. -/
namespace Go
theorem Oper.still_of_quiet {P:Program} {o:Oper} {a:Act} {w:World} {K:Act -> Prop} (h:o.quiet P a (fun w'=>w' = w) K):o.still P a w K:=by
 obtain ⟨v,h1,h2⟩:=h;have h3:=h1 w rfl;unfold Oper.quietAt at h3;unfold Oper.still;generalize (execOp a.eval o).run P w = r at *
 cases r with
 | ok n w' =>
  cases n <;> simp only [Oper.quietUpon] at h3 <;> simp only [Oper.stillUpon]
  case value u=>obtain ⟨e1,e2⟩:=h3;exact ⟨e1,by rw [e2];exact h2⟩
  case skip=>obtain ⟨e1,e2⟩:=h3;exact ⟨e1,by rw [<- e2];exact h2⟩
  case enter f args=>obtain ⟨e1,hc⟩:=h3;exact ⟨e1,v,hc,h2⟩
 | halt x w'=>simp only [Oper.quietUpon] at h3
theorem wpStill_of_quiet {P:Program} {ops:Array Oper} {w:World} {Q:Act -> Prop}:∀ (l:List Oper) (a:Act),wpQuiet P ops (fun w'=>w' = w) Q l a -> wpStill P ops w Q l a
 | [],_,h=>h
 | o :: rest,a,h=>by
  unfold wpQuiet at h;unfold wpStill;split
  ·rename_i hw
   rw [if_pos hw] at h;exact Oper.still_mono (fun a' h'=>wpStill_of_quiet rest a' h') (Oper.still_of_quiet h)
  ·rename_i hw
   rw [if_neg hw] at h;exact wpStill_of_quiet rest _ h
theorem wp_region_tail {P:Program} {id:Nat} {Q:Exit -> Act -> World -> Prop} {a:Act} {w:World} {l:List Oper} (n:Nat) (hm:P.follows .mixedOrders = true) (hB:Region.lexTailB .any l.toArray n = true)
  (h:wpQuiet P l.toArray (fun w'=>w' = w.drew) (fun a'=>wpList P l.toArray Q (l.drop n) a' w.drew) (l.take n) a):(Code.region id l.toArray true).wp P Q a w :=
 wp_region_still_tail n hm hB (wpStill_of_quiet _ _ h)
end Go
end
section
/- Walks: some numbers out of a deck. -/
namespace Go.Proofs
open Go.RowKit
theorem only_grown {a w w':World} {row row':Option Nat} (h:a.grownBy w row) (hg:w.grownBy w' row') (hr:∀ k,row' = some k -> a.heap.size <= k):a.grownBy w' row :=
 ⟨hg.os.trans h.os,hg.tape.trans h.tape,hg.output.trans h.output,Nat.le_trans h.size hg.size,fun k hk hne=>(hg.block k (Nat.lt_of_lt_of_le hk h.size) (fun e=>by have:=hr k e.symm;omega)).trans (h.block k hk hne)⟩
end Go.Proofs
end
section
/- A call at a step of a region that draws its order. -/
namespace Go.Proofs
open Go.RowKit
theorem run_enters {f:Nat} {fn:Func} (h:Tryz.prog.funcs[f]? = some fn) (hn:(fn.name == "runtime.NumGoroutine") = false) (hb:fn.body.isNone = false) (args:Array Value) (w:World) :
  (callFunc f args).run Tryz.prog w = .ok (.enter f args) w:=by
 unfold callFunc;have h1:¬ fn.name = "runtime.NumGoroutine":=by simpa using hn
 have h2:¬ fn.body = none:=by intro e;rw [e] at hb;cases hb
 simp [go_sem,h,h1,h2]
end Go.Proofs
end
section
/- Walks: slices of records,cloned. -/
namespace Go.Proofs
open Go.RowKit
section
variable {α:Type} {enc:α -> List Value} {sz:Nat}
theorem flat_len (hs:∀ x,(enc x).length = sz):∀ l:List α,(l.flatMap enc).length = l.length * sz
 | []=>by simp
 | x :: r=>by rw [List.flatMap_cons,List.length_append,hs,flat_len hs r,List.length_cons,Nat.succ_mul];omega
theorem flat_get (hs:∀ x,(enc x).length = sz):∀ (l:List α) (i j:Nat) (hi:i < l.length),j < sz -> (l.flatMap enc)[i * sz + j]? = (enc l[i])[j]?
 | x :: r,0,j,hi,hj=>by
  rw [List.flatMap_cons,List.getElem?_append_left (by rw [hs];omega)]
  simp
 | x :: r,i + 1,j,hi,hj=>by
  rw [List.flatMap_cons,List.getElem?_append_right (by rw [hs,Nat.succ_mul];omega),hs];have:(i + 1) * sz + j - sz = i * sz + j:=by rw [Nat.succ_mul];omega
  rw [this,flat_get hs r i j (by simpa using hi) hj]
  simp
theorem own_rows {R:World -> α -> List Value -> Prop} (hR:∀ w x,R w x (enc x)) (hs:∀ x,(enc x).length = sz) (_hz:0 < sz) {w:World} {base:Nat} {e:TypeId} {v:Value} {l:List α}
  (h:w.ownsRow base e sz v l.length (l.flatMap enc)) (hl:l.length * sz <= 17592186043904):∃ A c,v = .slice A l.length c /\ l.length <= c /\ RowsP w A sz R l:=by
 rcases h.2 with ⟨rfl,h0⟩ | ⟨g,cap,cur,rfl,hg,hh,hc,hm,hs',ht⟩
 ·have:l = []:=List.eq_nil_of_length_eq_zero h0;subst this;exact ⟨none,0,rfl,Nat.le_refl _,.nil⟩
 ·refine ⟨_,cap,rfl,hc,hl,.inr ⟨g,0,rfl,(Array.getElem?_eq_some_iff.1 hh).1,fun i hi=>⟨enc l[i],hs _,hR _ _,fun j hj=>?_⟩⟩⟩;have hj':j < sz:=by rw [hs] at hj;exact hj
  have:=h.cells (g:=g) rfl (i * sz + j) (enc l[i])[j] (by rw [flat_get hs l i j hi hj',List.getElem?_eq_getElem hj]);rw [Addr.add_lit] at this;simpa [Nat.add_assoc] using this
theorem rows_src {R:World -> α -> List Value -> Prop} (hR:∀ w x vs,R w x vs -> vs = enc x) (hs:∀ x,(enc x).length = sz) (hz:0 < sz) {w:World} {A:Option Addr} {l:List α} (h:RowsP w A sz R l) :
  ∀ ad,A = some ad -> ∀ j u,(l.flatMap enc)[j]? = some u -> w.cell? (ad.add j) = some u:=by
 intro ad e j u hj;have hlt:j < l.length * sz:=by have:=(List.getElem?_eq_some_iff.1 hj).1;rwa [flat_len hs] at this
 have hi:j / sz < l.length:=Nat.div_lt_of_lt_mul (by rwa [Nat.mul_comm] at hlt);obtain ⟨b,o,e2,_,hc⟩:=h.at hi;rw [e] at e2;cases e2;obtain ⟨vs,h1,h2,h3⟩:=hc (j / sz) hi;have:=hR _ _ _ h2;subst this;have hr:j % sz < sz:=Nat.mod_lt _ hz;have hjj:j / sz * sz + j % sz = j:=by rw [Nat.mul_comm];exact Nat.div_add_mod j sz
 rw [<- hjj,flat_get hs l _ _ hi hr] at hj;have hk:j % sz < (enc l[j / sz]).length:=by rw [hs];exact hr
 have h4:=h3 (j % sz) (by simpa using hk);rw [List.getElem?_eq_getElem hk] at hj;cases hj;rw [Addr.add_lit];have h5:o + j / sz * sz + j % sz = o + j:=by omega
 rw [<- h5];simpa using h4
theorem rows_nil {R:World -> α -> List Value -> Prop} {w:World} {A:Option Addr} {l:List α} (h:RowsP w A sz R l) (e:A = none):l.length = 0:=by
 rcases Nat.eq_zero_or_pos l.length with h0 | h0
 ·exact h0
 ·obtain ⟨b,o,e2,_⟩:=h.at h0;rw [e] at e2;cases e2
end
def encWay (x:Way):List Value:=[.int .i64 x.a,.int .i64 x.b,.int .i64 x.kind]
def encLeg (x:Leg):List Value:=[.int .i64 x.word,.int .i64 x.other]
theorem ty22:SliceTy Tryz.prog 22 65 3 24:=.mk' (z:=.agg #[.int .i64 0,.int .i64 0,.int .i64 0]) Tryz.underlying22 (by kernel_rfl) rfl (by decide)
theorem ty25:SliceTy Tryz.prog 25 70 2 16:=.mk' (z:=.agg #[.int .i64 0,.int .i64 0]) Tryz.underlying25 (by kernel_rfl) rfl (by decide)
def OwnRows {α:Type} (e:TypeId) (sz:Nat) (enc:α -> List Value) (w0:World) (l:List α) (en:Ending) (w':World):Prop:=∃ v,en = .returned v /\ w'.ownsRow w0.heap.size e sz v l.length (l.flatMap enc) /\ Aft w0 w'
theorem cloneWays (A:Option Addr) (l:List Way) (c:Nat) (w:World) (hA:RowsP w A 3 WayR l) (hl:l.length <= 100000) :
  Calls Tryz.prog 45 #[.slice A l.length c] w (OwnRows 65 3 encWay w l):=by
 go_enter Tryz.func45,Tryz.ntmps45;go_wp2_with (at_builtin;refine wpList_app ty22 rfl _ _ rfl (Aft.refl w) rfl (World.ownsRow_nil w _ 65 3) rfl (by rw [flat_len (sz:=3) (fun _=>rfl)]) (rows_nil hA) (rows_src (enc:=encWay) (fun _ _ _ h=>h) (fun _=>rfl) (by decide) hA) (fun u hu=>by obtain ⟨x,_,hx⟩:=List.mem_flatMap.1 hu;simp [encWay] at hx;rcases hx with rfl | rfl | rfl <;> rfl) (by omega) (by decide) ?_;intro v' w1 hown' hgrow haft)
 go_ret;exact ⟨_,rfl,by simpa using hown',haft⟩
theorem cloneLegs (A:Option Addr) (l:List Leg) (c:Nat) (w:World) (hA:RowsP w A 2 LegR l) (hl:l.length <= 100000) :
  Calls Tryz.prog 47 #[.slice A l.length c] w (OwnRows 70 2 encLeg w l):=by
 go_enter Tryz.func47,Tryz.ntmps47;go_wp2_with (at_builtin;refine wpList_app ty25 rfl _ _ rfl (Aft.refl w) rfl (World.ownsRow_nil w _ 70 2) rfl (by rw [flat_len (sz:=2) (fun _=>rfl)]) (rows_nil hA) (rows_src (enc:=encLeg) (fun _ _ _ h=>h) (fun _=>rfl) (by decide) hA) (fun u hu=>by obtain ⟨x,_,hx⟩:=List.mem_flatMap.1 hu;simp [encLeg] at hx;rcases hx with rfl | rfl <;> rfl) (by omega) (by decide) ?_;intro v' w1 hown' hgrow haft)
 go_ret;exact ⟨_,rfl,by simpa using hown',haft⟩
end Go.Proofs
end
section
/- Words for memory: what stands as long as some blocks are as they are. -/
namespace Go.Proofs
open Go.RowKit
def Sup (W:World) (S:Nat -> Prop) (P:World -> Prop):Prop :=
 (∀ k,S k -> k < W.heap.size) /\ ∀ W':World,(∀ k,S k -> W'.heap[k]? = W.heap[k]?) -> W.heap.size <= W'.heap.size -> P W'
section
variable {W W':World} {S S':Nat -> Prop} {P P':World -> Prop}
theorem Sup.self (h:Sup W S P):P W:=h.2 W (fun _ _=>rfl) (Nat.le_refl _)
theorem Sup.grown (h:Sup W S P) {row:Option Nat} (hg:W.grownBy W' row) (hr:∀ k,row = some k -> ¬ S k):Sup W' S P :=
 ⟨fun k hk=>Nat.lt_of_lt_of_le (h.1 k hk) hg.size,fun W'' h1 h2=>h.2 W'' (fun k hk=>(h1 k hk).trans (hg.block k (h.1 k hk) (fun e=>hr k e.symm hk))) (Nat.le_trans hg.size h2)⟩
theorem Sup.and (h:Sup W S P) (h':Sup W S' P'):Sup W (fun k=>S k \/ S' k) (fun W=>P W /\ P' W) :=
 ⟨fun k hk=>hk.elim (h.1 k) (h'.1 k),fun W' h1 h2=>⟨h.2 W' (fun k hk=>h1 k (.inl hk)) h2,h'.2 W' (fun k hk=>h1 k (.inr hk)) h2⟩⟩
theorem Sup.mono (h:Sup W S P) (hp:∀ W',P W' -> P' W'):Sup W S P':=⟨h.1,fun W' h1 h2=>hp W' (h.2 W' h1 h2)⟩
theorem Sup.wide (h:Sup W S P) (hs:∀ k,S k -> S' k) (hl:∀ k,S' k -> k < W.heap.size):Sup W S' P:=⟨hl,fun W' h1 h2=>h.2 W' (fun k hk=>h1 k (hs k hk)) h2⟩
theorem RowsP.sup {α:Type} {sz:Nat} {R:World -> α -> List Value -> Prop} {A:Option Addr} {l:List α} (h:RowsP W A sz R l) (S:Nat -> Prop) (hS1:∀ k,S k -> k < W.heap.size)
  (hS:∀ x ∈ l,∀ vs,R W x vs -> Sup W S (fun W'=>R W' x vs)):Sup W (fun k=>S k \/ (l ≠ [] /\ ∃ o,A = some ⟨k,o,none⟩)) (fun W'=>RowsP W' A sz R l):=by
 obtain ⟨h0,h | ⟨b,o,rfl,hb,hc⟩⟩:=h
 ·subst h;exact ⟨fun k hk=>hk.elim (hS1 k) (fun e=>absurd rfl e.1),fun W' _ _=>⟨h0,.inl rfl⟩⟩
 ·refine ⟨fun k hk=>hk.elim (hS1 k) (fun ⟨_,o,e⟩=>by cases e;exact hb),fun W' h1 h2=>⟨h0,.inr ⟨b,o,rfl,Nat.lt_of_lt_of_le hb h2,fun i hi=>?_⟩⟩⟩;have hne:l ≠ []:=fun e=>by subst e;simp at hi
  obtain ⟨vs,g1,g2,g3⟩:=hc i hi;exact ⟨vs,g1,(hS _ (List.getElem_mem hi) vs g2).2 W' (fun k hk=>h1 k (.inl hk)) h2,fun j hj=>(World.cell?_of_block (h1 b (.inr ⟨hne,o,rfl⟩))).trans (g3 j hj)⟩
theorem Ints.sup {A:Option Addr} {l:List Int} (h:Ints W A l):Sup W (fun k=>l ≠ [] /\ ∃ o,A = some ⟨k,o,none⟩) (fun W'=>Ints W' A l):=by
 have:=RowsP.sup h (fun _=>False) (fun _ h=>h.elim) (fun x _ vs hv=>⟨fun _ h=>h.elim,fun _ _ _=>hv⟩);exact this.wide (fun k hk=>hk.elim (fun h=>h.elim) id) (fun k hk=>this.1 k (.inr hk))
end
end Go.Proofs
end
section
/- A region that draws its order,by facts: what each operation yields,in whatever order they come up. -/
namespace Go
def Region.preds (o:Oper):List Nat:=(o.after.toList.filter (Region.binds .any)).map (·.on)
def dn (listed:Array Bool) (i:Nat):Bool:=listed.getD i false
def upd (done:Nat -> Bool) (i:Nat):Nat -> Bool:=fun j=>if j = i then true else done j
structure Held (ops:Array Oper) (Fact:Nat -> Value -> World -> Prop) (Wd:(Nat -> Bool) -> World -> Prop) (a0:Act) (done:Nat -> Bool) (a:Act) (w:World):Prop where
 wd:Wd done w
 size:a.tmps.size = a0.tmps.size
 defers:a.defers = a0.defers
 closed:∀ i o,ops[i]? = some o -> done i = true -> ∀ j ∈ Region.preds o,done j = true
 old:∀ s,(∀ i o,ops[i]? = some o -> o.dst = some s -> done i = false) -> a.eval (.tmp s) = a0.eval (.tmp s)
 fact:∀ (i:Nat) (o:Oper) (s:Nat),ops[i]? = some o -> o.dst = some s -> done i = true -> Fact i (a.eval (.tmp s)) w
theorem mem_ready' {md:Region.Mode} {ops:Array Oper} {listed:Array Bool} {i:Nat} (hm:md = .any) (hs:listed.size = ops.size) (h:i ∈ Region.ready md ops listed) :
  ∃ o,ops[i]? = some o /\ dn listed i = false /\ ∀ j ∈ Region.preds o,dn listed j = true:=by
 subst hm;unfold Region.ready at h;rw [List.mem_filter,List.mem_range,Bool.and_eq_true] at h;obtain ⟨h1,h2,h3⟩:=h;have ho:ops[i]? = some ops[i]:=Array.getElem?_eq_getElem h1;refine ⟨_,ho,?_,fun j hj=>?_⟩
 ·unfold dn;rw [Array.getD_eq_getD_getElem?] at h2 ⊢;rw [Array.getElem?_eq_getElem (by omega)] at h2 ⊢;simpa using h2
 ·rw [ho,Option.map_some,Option.getD_some] at h3;unfold Region.preds at hj;rw [List.mem_map] at hj;obtain ⟨e,he,rfl⟩:=hj;rw [List.mem_filter] at he;have:=Array.all_eq_true'.1 h3 e (by simpa using he.1);rw [he.2] at this;simpa [dn] using this
theorem all_done {ops:Array Oper} {listed:Array Bool} (hs:listed.size = ops.size) (hlt:∀ (i:Nat) (o:Oper),ops[i]? = some o -> ∀ j ∈ Region.preds o,j < i) (h:Region.ready .any ops listed = []):∀ i,i < ops.size -> dn listed i = true:=by
 intro i
 induction i using Nat.strongRecOn with
 | _ i ih =>
  intro hi
  cases hd:dn listed i with
  | true=>rfl
  | false =>
   exfalso;have ho:ops[i]? = some ops[i]:=Array.getElem?_eq_getElem hi
   have:i ∈ Region.ready .any ops listed:=by
    unfold Region.ready;rw [List.mem_filter,List.mem_range,Bool.and_eq_true];refine ⟨hi,?_,?_⟩
    ·unfold dn at hd;rw [Array.getD_eq_getD_getElem?] at hd ⊢;rw [Array.getElem?_eq_getElem (by omega)] at hd ⊢;simpa using hd
    ·rw [ho,Option.map_some,Option.getD_some,Array.all_eq_true'];intro e he
     cases hb:Region.binds .any e with
     | false=>rfl
     | true =>
      have hm:e.on ∈ Region.preds ops[i]:=List.mem_map.2 ⟨e,List.mem_filter.2 ⟨by simpa using he,hb⟩,rfl⟩;have h1:=hlt i _ ho _ hm;have h2:=ih e.on h1 (by omega);simpa [dn] using h2
   rw [h] at this;cases this
def unl (ops:Array Oper) (done:Nat -> Bool):List Nat:=(List.range ops.size).filter fun i=>!done i
theorem unl_lt {ops:Array Oper} {done:Nat -> Bool} {i:Nat} (hi:i < ops.size) (hd:done i = false):(unl ops (upd done i)).length < (unl ops done).length:=by
 have e:unl ops (upd done i) = (unl ops done).filter fun j=>!upd done i j:=by
  unfold unl;rw [List.filter_filter];apply List.filter_congr;intro j _;unfold upd;split <;> simp
 rw [e,List.length_filter_lt_length_iff_exists];exact ⟨i,List.mem_filter.2 ⟨List.mem_range.2 hi,by simp [hd]⟩,by simp [upd]⟩
section
variable {P:Program} {ops:Array Oper} {Q:Exit -> Act -> World -> Prop} {Fact:Nat -> Value -> World -> Prop} {Wd:(Nat -> Bool) -> World -> Prop} {a0:Act}
theorem dn_set {listed:Array Bool} {i:Nat} (hi:i < listed.size):dn (listed.setIfInBounds i true) = upd (dn listed) i:=by
 funext j
 unfold dn upd;rw [Array.getD_eq_getD_getElem?,Array.getElem?_setIfInBounds];by_cases e:i = j
 ·subst e;simp [hi]
 ·rw [if_neg e,if_neg (fun h=>e h.symm)];exact (Array.getD_eq_getD_getElem? ..).symm
theorem Held.put {done:Nat -> Bool} {a:Act} {w w':World} {i:Nat} {o:Oper} {v:Value} (h:Held ops Fact Wd a0 done a w) (ho:ops[i]? = some o) (hd:done i = false) (hp:∀ j ∈ Region.preds o,done j = true)
  (hdst:∀ (i j:Nat) (oi oj:Oper) (s:Nat),ops[i]? = some oi -> ops[j]? = some oj -> oi.dst = some s -> oj.dst = some s -> i = j) (hin:∀ (i:Nat) (o:Oper) (s:Nat),ops[i]? = some o -> o.dst = some s -> s < a0.tmps.size)
  (hf:Fact i v w') (hw:Wd (upd done i) w') (hk:∀ j,done j = true -> ∀ u,Fact j u w -> Fact j u w'):Held ops Fact Wd a0 (upd done i) (a.put o.dst v) w':=by
 refine ⟨hw,?_,?_,fun k ok hk' hdk j hj=>?_,fun s hs=>?_,fun k ok s hk' hs hdk=>?_⟩
 ·rw [<- h.size];unfold Act.put;split <;> simp
 ·rw [<- h.defers];unfold Act.put;split <;> rfl
 ·unfold upd at hdk ⊢;by_cases e:j = i
  ·rw [if_pos e]
  ·rw [if_neg e];by_cases e2:k = i
   ·subst e2;rw [ho] at hk';cases hk';exact hp j hj
   ·rw [if_neg e2] at hdk;exact h.closed k ok hk' hdk j hj
 ·have hne:∀ d,o.dst = some d -> (Operand.tmp s) ≠ .tmp d:=fun d hd' e=>by
   cases e;have:=hs i o ho hd';simp [upd] at this
  rw [Act.eval_put hne];refine h.old s fun k ok hk' hs'=>?_
  have:=hs k ok hk' hs';unfold upd at this;split at this
  ·cases this
  ·exact this
 ·by_cases e:k = i
  ·subst e;rw [ho] at hk';cases hk';rw [hs,Act.eval_put_same _ _ _ (by rw [h.size];exact hin k o s ho hs)];exact hf
  ·unfold upd at hdk;rw [if_neg e] at hdk
   have hne:∀ d,o.dst = some d -> (Operand.tmp s) ≠ .tmp d:=fun d hd' e2=>by
    cases e2;exact e (hdst k i ok o s hk' ho hs hd')
   rw [Act.eval_put hne];exact hk k hdk _ (h.fact k ok s hk' hs hdk)
theorem wpAny_facts (hg:∀ (i:Nat) (o:Oper),ops[i]? = some o -> o.guard = none) (hdst:∀ (i j:Nat) (oi oj:Oper) (s:Nat),ops[i]? = some oi -> ops[j]? = some oj -> oi.dst = some s -> oj.dst = some s -> i = j) (hin:∀ (i:Nat) (o:Oper) (s:Nat),ops[i]? = some o -> o.dst = some s -> s < a0.tmps.size)
  (hlt:∀ (i:Nat) (o:Oper),ops[i]? = some o -> ∀ j ∈ Region.preds o,j < i)
  (step:∀ (i:Nat) (o:Oper),ops[i]? = some o -> ∀ (done:Nat -> Bool) (a:Act) (w:World),Held ops Fact Wd a0 done a w -> done i = false -> (∀ j ∈ Region.preds o,done j = true) -> ∀ K:Act -> World -> Prop,
   (∀ (v:Value) (w':World),Fact i v w' -> Wd (upd done i) w' -> (∀ j,done j = true -> ∀ u,Fact j u w -> Fact j u w') -> K (a.put o.dst v) w') -> Oper.wp P o a w K Q)
  (fin:∀ (done:Nat -> Bool) (a:Act) (w:World),(∀ i,i < ops.size -> done i = true) -> Held ops Fact Wd a0 done a w -> Q .normal a w) :
  ∀ (fuel:Nat) (listed:Array Bool) (a:Act) (w:World),listed.size = ops.size -> Held ops Fact Wd a0 (dn listed) a w -> (unl ops (dn listed)).length <= fuel -> wpAny P .any ops Q fuel listed a w
 | 0,listed,a,w,hs,h,hf=>by
  have hd:∀ i,i < ops.size -> dn listed i = true:=fun i hi=>by
   cases hd:dn listed i with
   | true=>rfl
   | false =>
    have:i ∈ unl ops (dn listed):=List.mem_filter.2 ⟨List.mem_range.2 hi,by simp [hd]⟩;have hz:unl ops (dn listed) = []:=List.eq_nil_of_length_eq_zero (by omega);rw [hz] at this;cases this
  refine ⟨?_,fin _ a w hd h⟩
  cases hr:Region.ready .any ops listed with
  | nil=>rfl
  | cons i r =>
   obtain ⟨o,ho,h1,_⟩:=mem_ready' rfl hs (show i ∈ Region.ready .any ops listed by rw [hr];simp);rw [hd i (Array.getElem?_eq_some_iff.1 ho).1] at h1;cases h1
 | fuel + 1,listed,a,w,hs,h,hf=>by
  refine ⟨fun hr=>fin _ a w (all_done hs hlt hr) h,fun i hi=>?_⟩;obtain ⟨o,ho,h1,h2⟩:=mem_ready' rfl hs hi;have hio:=(Array.getElem?_eq_some_iff.1 ho).1;unfold wpOp;simp only [ho];have hw:Region.wanted o (yielded ops a.tmps) = true:=by simp [Region.wanted,hg i o ho]
  rw [if_pos hw];refine .inl (step i o ho _ a w h h1 h2 _ fun v w' hf' hw' hk=>?_);refine wpAny_facts hg hdst hin hlt step fin fuel _ _ _ (by simpa using hs) ?_ ?_
  ·rw [dn_set (by omega)];exact h.put ho h1 h2 hdst hin hf' hw' hk
  ·rw [dn_set (by omega)];have:=unl_lt (ops:=ops) hio h1;omega
theorem Held.same {done:Nat -> Bool} {a:Act} {w:World} (h:Held ops Fact Wd a0 done a w) {s:Nat} (hs:s ∉ ops.toList.filterMap (·.dst)):a.eval (.tmp s) = a0.eval (.tmp s) :=
 h.old s fun k ok hk he=>absurd (List.mem_filterMap.2 ⟨ok,by rw [<- Array.getElem?_toList] at hk;exact List.mem_of_getElem? hk,he⟩) hs
def factsB (xs:List Oper) (n:Nat):Bool :=
 (xs.all fun o=>o.guard.isNone) && decide ((xs.filterMap (·.dst)).Nodup) && (xs.all fun o=>match o.dst with | some s=>decide (s < n) | none=>true) && ((List.range xs.length).all fun i=>match xs[i]? with | some o=>(Region.preds o).all fun j=>decide (j < i) | none=>true)
theorem nodup_dst:∀ {xs:List Oper},(xs.filterMap (·.dst)).Nodup -> ∀ (i j:Nat) (oi oj:Oper) (s:Nat),xs[i]? = some oi -> xs[j]? = some oj -> oi.dst = some s -> oj.dst = some s -> i = j
 | [],_,i,_,_,_,_,h,_,_,_=>by simp at h
 | o :: xs,hn,i,j,oi,oj,s,hi,hj,h1,h2=>by
  rw [List.filterMap_cons] at hn
  have hsub:(xs.filterMap (·.dst)).Nodup:=by
   cases hd:o.dst with
   | none=>simpa [hd] using hn
   | some d=>simp [hd] at hn;exact hn.2
  have hmem:∀ (k:Nat) (ok:Oper),xs[k]? = some ok -> ok.dst = some s -> s ∈ xs.filterMap (·.dst):=fun k ok hk he=>List.mem_filterMap.2 ⟨ok,List.mem_of_getElem? hk,he⟩
  cases i with
  | zero =>
   cases j with
   | zero=>rfl
   | succ j =>
    simp at hi hj;subst hi;rw [h1] at hn;simp at hn;exact absurd (hmem j oj hj h2) (by simpa using hn.1)
  | succ i =>
   cases j with
   | zero =>
    simp at hi hj;subst hj;rw [h2] at hn;simp at hn;exact absurd (hmem i oi hi h1) (by simpa using hn.1)
   | succ j =>
    simp at hi hj;rw [nodup_dst hsub i j oi oj s hi hj h1 h2]
theorem wp_region_facts {id:Nat} {xs:List Oper} {w:World} (hm:P.follows .mixedOrders = true) (n:Nat) (hn:a0.tmps.size = n) (hB:factsB xs n = true)
  (Fact:Nat -> Value -> World -> Prop) (Wd:(Nat -> Bool) -> World -> Prop) (h0:Wd (fun _=>false) w.drew)
  (step:∀ (i:Nat) (o:Oper),xs[i]? = some o -> ∀ (done:Nat -> Bool) (a:Act) (w:World),Held xs.toArray Fact Wd a0 done a w -> done i = false -> (∀ j ∈ Region.preds o,done j = true) -> ∀ K:Act -> World -> Prop,
   (∀ (v:Value) (w':World),Fact i v w' -> Wd (upd done i) w' -> (∀ j,done j = true -> ∀ u,Fact j u w -> Fact j u w') -> K (a.put o.dst v) w') -> Oper.wp P o a w K Q)
  (fin:∀ (done:Nat -> Bool) (a:Act) (w:World),(∀ i,i < xs.length -> done i = true) -> Held xs.toArray Fact Wd a0 done a w -> Q .normal a w):(Code.region id xs.toArray true).wp P Q a0 w:=by
 unfold factsB at hB;rw [Bool.and_eq_true,Bool.and_eq_true,Bool.and_eq_true] at hB;obtain ⟨⟨⟨h1,h2⟩,h3⟩,h4⟩:=hB;refine wp_region_any hm ?_
 have e0:dn (Array.replicate xs.toArray.size false) = fun _=>false:=by
  funext i
  unfold dn;rw [Array.getD_eq_getD_getElem?,Array.getElem?_replicate];split <;> rfl
 refine wpAny_facts (Fact:=Fact) (Wd:=Wd) (a0:=a0) (fun i o ho=>?_) (fun i j oi oj s hi hj=>nodup_dst (of_decide_eq_true h2) i j oi oj s (by simpa using hi) (by simpa using hj)) (fun i o s ho hs=>?_) (fun i o ho j hj=>?_)
  (fun i o ho=>step i o (by simpa using ho)) (fun done a w hd=>fin done a w (by simpa using hd)) _ _ _ _ (by simp) ?_ ?_
 ·have:=List.all_eq_true.1 h1 o (List.mem_of_getElem? (by simpa using ho));simpa using this
 ·have:=List.all_eq_true.1 h3 o (List.mem_of_getElem? (by simpa using ho));rw [hs] at this;rw [hn];simpa using this
 ·have ho':xs[i]? = some o:=by simpa using ho
  have:=List.all_eq_true.1 h4 i (List.mem_range.2 (List.getElem?_eq_some_iff.1 ho').1);rw [ho'] at this;have:=List.all_eq_true.1 this j hj;simpa using this
 ·rw [e0];exact ⟨h0,rfl,rfl,(fun i o _ h=>by cases h),(fun s _=>rfl),(fun i o s _ _ h=>by cases h)⟩
 ·have:(unl xs.toArray (dn (Array.replicate xs.toArray.size false))).length <= (List.range xs.toArray.size).length:=List.length_filter_le _ _;simpa using this
end
end Go
end
