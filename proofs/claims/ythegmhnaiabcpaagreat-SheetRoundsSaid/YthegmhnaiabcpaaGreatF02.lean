/- Own texts, merged: WkA WkB Lst Lim2 Fl Sc Rgf Rgj. -/
import Derived.Test.YthegmhnaiabcpaaGreatF01
import Derived.Test.YthegmhnaiabcpaaGreatProg
import Derived.Deep.RegionHeld3
import Derived.Deep.RegionLaw
import Derived.Laws.EntriesVeiled
import Derived.Deep.CutBlock
import Derived.Deep.LoopGhost
import Derived.Deep.Cut
import Derived.LoopIn
import Derived.BigGuard
import Derived.StillTailTactics
import Derived.Great.Frames
set_option linter.unusedSimpArgs false
set_option linter.unusedVariables false
set_option linter.unnecessarySimpa false
section
/- Walks: the library's searches of slices,and every,at each element type of package sheet. -/
namespace Go.Proofs
open Go.RowKit
def fromB (n a b:Int):Bool:=decide (a <= n) && decide (n <= b)
theorem fromB_iff {n a b:Int}:fromB n a b = true ↔ a <= n /\ n <= b:=by unfold fromB;simp
set_option maxHeartbeats 400000 in
theorem in_any (n a b:Int) (w:World) :
  Calls Tryz.prog 33 #[.int .i64 n,.int .i64 a,.int .i64 b] w fun e w'=>e = .returned (.bool (fromB n a b)) /\ w = w':=by
 go_enter Tryz.func33,Tryz.ntmps33;go_wp2
 all_goals go_ret
 ·exact ⟨ret_bool (by unfold fromB;simp;omega),rfl⟩
 ·exact ⟨ret_bool (by unfold fromB;simp;omega),rfl⟩
def IdxSign (b:Bool) (e:Ending):Prop:=∃ n:Int,e = .returned (.int .i64 n) /\ decide (n < 0) = !b
theorem IdxSign.yes {b:Bool} (hb:b = true) (k:Nat):IdxSign b (.returned (.int .i64 k)):=⟨k,rfl,by rw [hb];simp⟩
theorem IdxSign.no {b:Bool} (hb:b = false):IdxSign b (.returned (.int .i64 (-1))):=⟨-1,rfl,by rw [hb];rfl⟩
def IdxRes {α:Type} (p:α -> Bool) (l:List α) (e:Ending):Prop :=
 (e = .returned (.int .i64 (-1)) /\ l.any p = false) \/ ∃ k,∃ h:k < l.length,e = .returned (.int .i64 (k:Nat)) /\ p l[k] = true /\ (l.take k).any p = false
theorem IdxRes.sign {α:Type} {p:α -> Bool} {l:List α} {e:Ending} (h:IdxRes p l e):IdxSign (l.any p) e:=by
 rcases h with ⟨rfl,h⟩ | ⟨k,h,rfl,h1,_⟩
 ·exact IdxSign.no h
 ·exact IdxSign.yes (any_of_get _ _ _ h h1) _
theorem all_not_any {α:Type} (p:α -> Bool) (l:List α):(!l.any fun x=>!p x) = l.all p:=by rw [List.all_eq_not_any_not]
set_option maxHeartbeats 1000000 in
theorem indexFuncPair {α:Type} (R:World -> α -> List Value -> Prop) (K:FuncId) (cap:List Value) (p:α -> Bool) (A:Option Addr) (l:List α) (c:Nat) (w:World) (hA:RowsP w A 2 R l)
  (hK:∀ args w,(callFunc K args).run Tryz.prog w = .ok (.enter K args) w)
  (hp:∀ x ∈ l,∀ v0 v1,R w x [v0,v1] -> Asks Tryz.prog K cap w (.agg #[v0,v1]) (p x)) :
  Calls Tryz.prog 128 #[.slice A l.length c,.func (.func K) #[] cap.toArray] w fun e w'=>IdxRes p l e /\ Aft w w':=by
 have hl:=hA.len (by decide);have HP:=Lib.hid hp;clear hp;go_enter Tryz.func128,Tryz.ntmps128;go_wp2;go_loopw [8] (fun i wr=>∃ k:Nat,i = .int .i64 k /\ k <= l.length /\ (l.take k).any p = false /\ Aft w wr) (fun i _=>l.length - (intOf i).toNat)
 case atStart=>exact ⟨0,rfl,by omega,by simp,Aft.refl _⟩
 case round =>
  obtain ⟨k,rfl,hk,hany,u,rfl⟩:=hrel;have HA:=Lib.hid hany;clear hany;by_cases hlt:k < l.length
  ·obtain ⟨b,o,rfl,hbw,hc⟩:=hA.at hlt;obtain ⟨vs,hv1,hv2,hv3⟩:=hc k hlt;obtain ⟨v0,v1,rfl⟩:∃ v0 v1,vs = [v0,v1]:=by match vs,hv1 with | [v0,v1],_=>exact ⟨v0,v1,rfl⟩
   have hc0:=hv3 0 (by simp);have hc1:=hv3 1 (by simp);simp only [Nat.add_zero,List.getElem_cons_zero,List.getElem_cons_succ] at hc0 hc1;have hpk:=HP.out l[k] (List.getElem_mem hlt) v0 v1 hv2 u;clear hc hv3 hv2;cases hb:p l[k]
   ·have HB:=Lib.hid hb;clear hb;rw [HB.out] at hpk;go_wp2_with (refine hpk.mono ?_;rintro e w' ⟨rfl,u1,rfl⟩;clear hpk)
    go_roundw
    case rel=>exact ⟨k + 1,by go_num,by omega,by rw [any_take_succ _ _ _ hlt,HA.out,HB.out];rfl,_,rfl⟩
    case measure=>simp [intOf];omega
   ·have HB:=Lib.hid hb;clear hb;rw [HB.out] at hpk;go_wp2_with (refine hpk.mono ?_;rintro e w' ⟨rfl,u1,rfl⟩;clear hpk)
    go_ret;exact ⟨.inr ⟨k,hlt,rfl,HB.out,HA.out⟩,_,rfl⟩
  ·go_wp2;go_ret;exact ⟨.inl ⟨rfl,by have:=HA.out;rwa [List.take_of_length_le (by omega)] at this⟩,_,rfl⟩
set_option maxHeartbeats 400000 in
theorem containsPair {α:Type} (R:World -> α -> List Value -> Prop) (K:FuncId) (cap:List Value) (p:α -> Bool) (A:Option Addr) (l:List α) (c:Nat) (w:World) (hA:RowsP w A 2 R l)
  (hK:∀ args w,(callFunc K args).run Tryz.prog w = .ok (.enter K args) w)
  (hp:∀ x ∈ l,∀ v0 v1,R w x [v0,v1] -> Asks Tryz.prog K cap w (.agg #[v0,v1]) (p x)) :
  Calls Tryz.prog 112 #[.slice A l.length c,.func (.func K) #[] cap.toArray] w fun e w'=>e = .returned (.bool (l.any p)) /\ Aft w w':=by
 go_enter Tryz.func112,Tryz.ntmps112;go_wp2_with (go_at_call 128;refine (indexFuncPair R K cap p A l c w hA hK hp).mono ?_;rintro e w' ⟨hr,u,rfl⟩;obtain ⟨n,rfl,hn⟩:=hr.sign;clear hr;have HN:=Lib.hid hn;clear hn)
 go_ret;exact ⟨ret_bool (by have:=HN.out;cases h:l.any p <;> simp_all),u,rfl⟩
theorem runs_92 (args:Array Value) (w:World):(callFunc 113 args).run Tryz.prog w = .ok (.enter 113 args) w:=by simp [go_sem]
set_option maxHeartbeats 400000 in
theorem notPair_any (K:FuncId) (cap:List Value) (b:Nat) (v0 v1:Value) (q:Bool) (w:World) (hb:Blk w b 166 #[.func (.func K) #[] cap.toArray])
  (hK:∀ args w,(callFunc K args).run Tryz.prog w = .ok (.enter K args) w) (hp:Asks Tryz.prog K cap w (.agg #[v0,v1]) q) :
  Calls Tryz.prog 113 #[.agg #[v0,v1],.pointer (some ⟨b,0,none⟩)] w fun e w'=>e = .returned (.bool (!q)) /\ Aft w w':=by
 have k0:w.cell? ⟨b,0,none⟩ = some (.func (.func K) #[] cap.toArray):=hb.cell 0;have hlt:=hb.lt;have hpk:=hp.at (W:=w.alloc (.cells #[v0,v1] 67)) (Aft.alloc _ _);clear hp hb;go_enter Tryz.func113,Tryz.ntmps113;go_wp2_with (refine hpk.mono ?_;rintro e w' ⟨rfl,u1,rfl⟩;clear hpk)
 go_ret;exact ⟨rfl,(Aft.alloc _ _).then_lat _⟩
set_option maxHeartbeats 400000 in
theorem everyPair {α:Type} (R:World -> α -> List Value -> Prop) (hR:MonoR R) (K:FuncId) (cap:List Value) (p:α -> Bool) (A:Option Addr) (l:List α) (c:Nat) (w:World) (hA:RowsP w A 2 R l)
  (hK:∀ args w,(callFunc K args).run Tryz.prog w = .ok (.enter K args) w)
  (hp:∀ x ∈ l,∀ W,Aft w W -> ∀ v0 v1,R W x [v0,v1] -> Asks Tryz.prog K cap W (.agg #[v0,v1]) (p x)) :
  Calls Tryz.prog 85 #[.slice A l.length c,.func (.func K) #[] cap.toArray] w fun e w'=>e = .returned (.bool (l.all p)) /\ Aft w w':=by
 have ha:=Aft.alloc w (.cells #[.func (.func K) #[] cap.toArray] 166)
 have H:=Lib.hid (containsPair R 113 [.pointer (some ⟨w.heap.size,0,none⟩)] (fun x=>!p x) A l c (w.alloc (.cells #[.func (.func K) #[] cap.toArray] 166)) (hA.aft hR ha) runs_92 fun x hx v0 v1 hv u=>by
  exact notPair_any K cap _ v0 v1 (p x) _ ((Blk.new w 166 #[.func (.func K) #[] cap.toArray]).lat u) hK ((hp x hx _ ha v0 v1 hv).lat u))
 clear hp hA;go_enter Tryz.func85,Tryz.ntmps85;go_wp2_with (go_at_call 112;refine H.out.mono ?_;rintro e w' ⟨rfl,u,rfl⟩)
 go_ret;exact ⟨ret_bool (all_not_any p l),ha.then_lat _⟩
set_option maxHeartbeats 1000000 in
theorem indexFuncList {α:Type} (R:World -> α -> List Value -> Prop) (K:FuncId) (cap:List Value) (p:α -> Bool) (A:Option Addr) (l:List α) (c:Nat) (w:World) (hA:RowsP w A 1 R l)
  (hK:∀ args w,(callFunc K args).run Tryz.prog w = .ok (.enter K args) w)
  (hp:∀ x ∈ l,∀ v0,R w x [v0] -> Asks Tryz.prog K cap w (v0) (p x)) :
  Calls Tryz.prog 129 #[.slice A l.length c,.func (.func K) #[] cap.toArray] w fun e w'=>IdxRes p l e /\ Aft w w':=by
 have hl:=hA.len (by decide);have HP:=Lib.hid hp;clear hp;go_enter Tryz.func129,Tryz.ntmps129;go_wp2;go_loopw [8] (fun i wr=>∃ k:Nat,i = .int .i64 k /\ k <= l.length /\ (l.take k).any p = false /\ Aft w wr) (fun i _=>l.length - (intOf i).toNat)
 case atStart=>exact ⟨0,rfl,by omega,by simp,Aft.refl _⟩
 case round =>
  obtain ⟨k,rfl,hk,hany,u,rfl⟩:=hrel;have HA:=Lib.hid hany;clear hany;by_cases hlt:k < l.length
  ·obtain ⟨b,o,rfl,hbw,hc⟩:=hA.at hlt;obtain ⟨vs,hv1,hv2,hv3⟩:=hc k hlt;obtain ⟨v0,rfl⟩:∃ v0,vs = [v0]:=by match vs,hv1 with | [v0],_=>exact ⟨v0,rfl⟩
   have hc0:=hv3 0 (by simp);simp only [Nat.mul_one,Nat.add_zero,List.getElem_cons_zero] at hc0;have hpk:=HP.out l[k] (List.getElem_mem hlt) v0 hv2 u;clear hc hv3 hv2;cases hb:p l[k]
   ·have HB:=Lib.hid hb;clear hb;rw [HB.out] at hpk;go_wp2_with (refine hpk.mono ?_;rintro e w' ⟨rfl,u1,rfl⟩;clear hpk)
    go_roundw
    case rel=>exact ⟨k + 1,by go_num,by omega,by rw [any_take_succ _ _ _ hlt,HA.out,HB.out];rfl,_,rfl⟩
    case measure=>simp [intOf];omega
   ·have HB:=Lib.hid hb;clear hb;rw [HB.out] at hpk;go_wp2_with (refine hpk.mono ?_;rintro e w' ⟨rfl,u1,rfl⟩;clear hpk)
    go_ret;exact ⟨.inr ⟨k,hlt,rfl,HB.out,HA.out⟩,_,rfl⟩
  ·go_wp2;go_ret;exact ⟨.inl ⟨rfl,by have:=HA.out;rwa [List.take_of_length_le (by omega)] at this⟩,_,rfl⟩
set_option maxHeartbeats 400000 in
theorem containsList {α:Type} (R:World -> α -> List Value -> Prop) (K:FuncId) (cap:List Value) (p:α -> Bool) (A:Option Addr) (l:List α) (c:Nat) (w:World) (hA:RowsP w A 1 R l)
  (hK:∀ args w,(callFunc K args).run Tryz.prog w = .ok (.enter K args) w)
  (hp:∀ x ∈ l,∀ v0,R w x [v0] -> Asks Tryz.prog K cap w (v0) (p x)) :
  Calls Tryz.prog 114 #[.slice A l.length c,.func (.func K) #[] cap.toArray] w fun e w'=>e = .returned (.bool (l.any p)) /\ Aft w w':=by
 go_enter Tryz.func114,Tryz.ntmps114;go_wp2_with (go_at_call 129;refine (indexFuncList R K cap p A l c w hA hK hp).mono ?_;rintro e w' ⟨hr,u,rfl⟩;obtain ⟨n,rfl,hn⟩:=hr.sign;clear hr;have HN:=Lib.hid hn;clear hn)
 go_ret;exact ⟨ret_bool (by have:=HN.out;cases h:l.any p <;> simp_all),u,rfl⟩
theorem runs_94 (args:Array Value) (w:World):(callFunc 115 args).run Tryz.prog w = .ok (.enter 115 args) w:=by simp [go_sem]
set_option maxHeartbeats 400000 in
theorem notList_any (K:FuncId) (cap:List Value) (b:Nat) (v0:Value) (q:Bool) (w:World) (hb:Blk w b 168 #[.func (.func K) #[] cap.toArray])
  (hK:∀ args w,(callFunc K args).run Tryz.prog w = .ok (.enter K args) w) (hp:Asks Tryz.prog K cap w (v0) q) :
  Calls Tryz.prog 115 #[v0,.pointer (some ⟨b,0,none⟩)] w fun e w'=>e = .returned (.bool (!q)) /\ Aft w w':=by
 have k0:w.cell? ⟨b,0,none⟩ = some (.func (.func K) #[] cap.toArray):=hb.cell 0;have hlt:=hb.lt;have hpk:=hp.at (W:=w) (Aft.refl _);clear hp hb;go_enter Tryz.func115,Tryz.ntmps115;go_wp2_with (refine hpk.mono ?_;rintro e w' ⟨rfl,u1,rfl⟩;clear hpk)
 go_ret;exact ⟨rfl,(Aft.refl _).then_lat _⟩
set_option maxHeartbeats 400000 in
theorem everyList {α:Type} (R:World -> α -> List Value -> Prop) (hR:MonoR R) (K:FuncId) (cap:List Value) (p:α -> Bool) (A:Option Addr) (l:List α) (c:Nat) (w:World) (hA:RowsP w A 1 R l)
  (hK:∀ args w,(callFunc K args).run Tryz.prog w = .ok (.enter K args) w)
  (hp:∀ x ∈ l,∀ W,Aft w W -> ∀ v0,R W x [v0] -> Asks Tryz.prog K cap W (v0) (p x)) :
  Calls Tryz.prog 88 #[.slice A l.length c,.func (.func K) #[] cap.toArray] w fun e w'=>e = .returned (.bool (l.all p)) /\ Aft w w':=by
 have ha:=Aft.alloc w (.cells #[.func (.func K) #[] cap.toArray] 168)
 have H:=Lib.hid (containsList R 115 [.pointer (some ⟨w.heap.size,0,none⟩)] (fun x=>!p x) A l c (w.alloc (.cells #[.func (.func K) #[] cap.toArray] 168)) (hA.aft hR ha) runs_94 fun x hx v0 hv u=>by
  exact notList_any K cap _ v0 (p x) _ ((Blk.new w 168 #[.func (.func K) #[] cap.toArray]).lat u) hK ((hp x hx _ ha v0 hv).lat u))
 clear hp hA;go_enter Tryz.func88,Tryz.ntmps88;go_wp2_with (go_at_call 114;refine H.out.mono ?_;rintro e w' ⟨rfl,u,rfl⟩)
 go_ret;exact ⟨ret_bool (all_not_any p l),ha.then_lat _⟩
set_option maxHeartbeats 1000000 in
theorem indexFuncInt {α:Type} (R:World -> α -> List Value -> Prop) (K:FuncId) (cap:List Value) (p:α -> Bool) (A:Option Addr) (l:List α) (c:Nat) (w:World) (hA:RowsP w A 1 R l)
  (hK:∀ args w,(callFunc K args).run Tryz.prog w = .ok (.enter K args) w)
  (hp:∀ x ∈ l,∀ v0,R w x [v0] -> Asks Tryz.prog K cap w (v0) (p x)) :
  Calls Tryz.prog 130 #[.slice A l.length c,.func (.func K) #[] cap.toArray] w fun e w'=>IdxRes p l e /\ Aft w w':=by
 have hl:=hA.len (by decide);have HP:=Lib.hid hp;clear hp;go_enter Tryz.func130,Tryz.ntmps130;go_wp2;go_loopw [8] (fun i wr=>∃ k:Nat,i = .int .i64 k /\ k <= l.length /\ (l.take k).any p = false /\ Aft w wr) (fun i _=>l.length - (intOf i).toNat)
 case atStart=>exact ⟨0,rfl,by omega,by simp,Aft.refl _⟩
 case round =>
  obtain ⟨k,rfl,hk,hany,u,rfl⟩:=hrel;have HA:=Lib.hid hany;clear hany;by_cases hlt:k < l.length
  ·obtain ⟨b,o,rfl,hbw,hc⟩:=hA.at hlt;obtain ⟨vs,hv1,hv2,hv3⟩:=hc k hlt;obtain ⟨v0,rfl⟩:∃ v0,vs = [v0]:=by match vs,hv1 with | [v0],_=>exact ⟨v0,rfl⟩
   have hc0:=hv3 0 (by simp);simp only [Nat.mul_one,Nat.add_zero,List.getElem_cons_zero] at hc0;have hpk:=HP.out l[k] (List.getElem_mem hlt) v0 hv2 u;clear hc hv3 hv2;cases hb:p l[k]
   ·have HB:=Lib.hid hb;clear hb;rw [HB.out] at hpk;go_wp2_with (refine hpk.mono ?_;rintro e w' ⟨rfl,u1,rfl⟩;clear hpk)
    go_roundw
    case rel=>exact ⟨k + 1,by go_num,by omega,by rw [any_take_succ _ _ _ hlt,HA.out,HB.out];rfl,_,rfl⟩
    case measure=>simp [intOf];omega
   ·have HB:=Lib.hid hb;clear hb;rw [HB.out] at hpk;go_wp2_with (refine hpk.mono ?_;rintro e w' ⟨rfl,u1,rfl⟩;clear hpk)
    go_ret;exact ⟨.inr ⟨k,hlt,rfl,HB.out,HA.out⟩,_,rfl⟩
  ·go_wp2;go_ret;exact ⟨.inl ⟨rfl,by have:=HA.out;rwa [List.take_of_length_le (by omega)] at this⟩,_,rfl⟩
set_option maxHeartbeats 400000 in
theorem containsInt {α:Type} (R:World -> α -> List Value -> Prop) (K:FuncId) (cap:List Value) (p:α -> Bool) (A:Option Addr) (l:List α) (c:Nat) (w:World) (hA:RowsP w A 1 R l)
  (hK:∀ args w,(callFunc K args).run Tryz.prog w = .ok (.enter K args) w)
  (hp:∀ x ∈ l,∀ v0,R w x [v0] -> Asks Tryz.prog K cap w (v0) (p x)) :
  Calls Tryz.prog 116 #[.slice A l.length c,.func (.func K) #[] cap.toArray] w fun e w'=>e = .returned (.bool (l.any p)) /\ Aft w w':=by
 go_enter Tryz.func116,Tryz.ntmps116;go_wp2_with (go_at_call 130;refine (indexFuncInt R K cap p A l c w hA hK hp).mono ?_;rintro e w' ⟨hr,u,rfl⟩;obtain ⟨n,rfl,hn⟩:=hr.sign;clear hr;have HN:=Lib.hid hn;clear hn)
 go_ret;exact ⟨ret_bool (by have:=HN.out;cases h:l.any p <;> simp_all),u,rfl⟩
theorem runs_96 (args:Array Value) (w:World):(callFunc 117 args).run Tryz.prog w = .ok (.enter 117 args) w:=by simp [go_sem]
set_option maxHeartbeats 400000 in
theorem notInt_any (K:FuncId) (cap:List Value) (b:Nat) (v0:Value) (q:Bool) (w:World) (hb:Blk w b 150 #[.func (.func K) #[] cap.toArray])
  (hK:∀ args w,(callFunc K args).run Tryz.prog w = .ok (.enter K args) w) (hp:Asks Tryz.prog K cap w (v0) q) :
  Calls Tryz.prog 117 #[v0,.pointer (some ⟨b,0,none⟩)] w fun e w'=>e = .returned (.bool (!q)) /\ Aft w w':=by
 have k0:w.cell? ⟨b,0,none⟩ = some (.func (.func K) #[] cap.toArray):=hb.cell 0;have hlt:=hb.lt;have hpk:=hp.at (W:=w) (Aft.refl _);clear hp hb;go_enter Tryz.func117,Tryz.ntmps117;go_wp2_with (refine hpk.mono ?_;rintro e w' ⟨rfl,u1,rfl⟩;clear hpk)
 go_ret;exact ⟨rfl,(Aft.refl _).then_lat _⟩
set_option maxHeartbeats 400000 in
theorem everyInt {α:Type} (R:World -> α -> List Value -> Prop) (hR:MonoR R) (K:FuncId) (cap:List Value) (p:α -> Bool) (A:Option Addr) (l:List α) (c:Nat) (w:World) (hA:RowsP w A 1 R l)
  (hK:∀ args w,(callFunc K args).run Tryz.prog w = .ok (.enter K args) w)
  (hp:∀ x ∈ l,∀ W,Aft w W -> ∀ v0,R W x [v0] -> Asks Tryz.prog K cap W (v0) (p x)) :
  Calls Tryz.prog 91 #[.slice A l.length c,.func (.func K) #[] cap.toArray] w fun e w'=>e = .returned (.bool (l.all p)) /\ Aft w w':=by
 have ha:=Aft.alloc w (.cells #[.func (.func K) #[] cap.toArray] 150)
 have H:=Lib.hid (containsInt R 117 [.pointer (some ⟨w.heap.size,0,none⟩)] (fun x=>!p x) A l c (w.alloc (.cells #[.func (.func K) #[] cap.toArray] 150)) (hA.aft hR ha) runs_96 fun x hx v0 hv u=>by
  exact notInt_any K cap _ v0 (p x) _ ((Blk.new w 150 #[.func (.func K) #[] cap.toArray]).lat u) hK ((hp x hx _ ha v0 hv).lat u))
 clear hp hA;go_enter Tryz.func91,Tryz.ntmps91;go_wp2_with (go_at_call 116;refine H.out.mono ?_;rintro e w' ⟨rfl,u,rfl⟩)
 go_ret;exact ⟨ret_bool (all_not_any p l),ha.then_lat _⟩
set_option maxHeartbeats 1000000 in
theorem indexFuncShift {α:Type} (R:World -> α -> List Value -> Prop) (K:FuncId) (cap:List Value) (p:α -> Bool) (A:Option Addr) (l:List α) (c:Nat) (w:World) (hA:RowsP w A 4 R l)
  (hK:∀ args w,(callFunc K args).run Tryz.prog w = .ok (.enter K args) w)
  (hp:∀ x ∈ l,∀ v0 v1 v2 v3,R w x [v0,v1,v2,v3] -> Asks Tryz.prog K cap w (.agg #[v0,v1,v2,v3]) (p x)) :
  Calls Tryz.prog 125 #[.slice A l.length c,.func (.func K) #[] cap.toArray] w fun e w'=>IdxRes p l e /\ Aft w w':=by
 have hl:=hA.len (by decide);have HP:=Lib.hid hp;clear hp;go_enter Tryz.func125,Tryz.ntmps125;go_wp2;go_loopw [8] (fun i wr=>∃ k:Nat,i = .int .i64 k /\ k <= l.length /\ (l.take k).any p = false /\ Aft w wr) (fun i _=>l.length - (intOf i).toNat)
 case atStart=>exact ⟨0,rfl,by omega,by simp,Aft.refl _⟩
 case round =>
  obtain ⟨k,rfl,hk,hany,u,rfl⟩:=hrel;have HA:=Lib.hid hany;clear hany;by_cases hlt:k < l.length
  ·obtain ⟨b,o,rfl,hbw,hc⟩:=hA.at hlt;obtain ⟨vs,hv1,hv2,hv3⟩:=hc k hlt;obtain ⟨v0,v1,v2,v3,rfl⟩:∃ v0 v1 v2 v3,vs = [v0,v1,v2,v3]:=by match vs,hv1 with | [v0,v1,v2,v3],_=>exact ⟨v0,v1,v2,v3,rfl⟩
   have hc0:=hv3 0 (by simp);have hc1:=hv3 1 (by simp);have hc2:=hv3 2 (by simp);have hc3:=hv3 3 (by simp);simp only [Nat.add_zero,List.getElem_cons_zero,List.getElem_cons_succ] at hc0 hc1 hc2 hc3;have hpk:=HP.out l[k] (List.getElem_mem hlt) v0 v1 v2 v3 hv2 u;clear hc hv3 hv2;cases hb:p l[k]
   ·have HB:=Lib.hid hb;clear hb;rw [HB.out] at hpk;go_wp2_with (refine hpk.mono ?_;rintro e w' ⟨rfl,u1,rfl⟩;clear hpk)
    go_roundw
    case rel=>exact ⟨k + 1,by go_num,by omega,by rw [any_take_succ _ _ _ hlt,HA.out,HB.out];rfl,_,rfl⟩
    case measure=>simp [intOf];omega
   ·have HB:=Lib.hid hb;clear hb;rw [HB.out] at hpk;go_wp2_with (refine hpk.mono ?_;rintro e w' ⟨rfl,u1,rfl⟩;clear hpk)
    go_ret;exact ⟨.inr ⟨k,hlt,rfl,HB.out,HA.out⟩,_,rfl⟩
  ·go_wp2;go_ret;exact ⟨.inl ⟨rfl,by have:=HA.out;rwa [List.take_of_length_le (by omega)] at this⟩,_,rfl⟩
set_option maxHeartbeats 400000 in
theorem containsShift {α:Type} (R:World -> α -> List Value -> Prop) (K:FuncId) (cap:List Value) (p:α -> Bool) (A:Option Addr) (l:List α) (c:Nat) (w:World) (hA:RowsP w A 4 R l)
  (hK:∀ args w,(callFunc K args).run Tryz.prog w = .ok (.enter K args) w)
  (hp:∀ x ∈ l,∀ v0 v1 v2 v3,R w x [v0,v1,v2,v3] -> Asks Tryz.prog K cap w (.agg #[v0,v1,v2,v3]) (p x)) :
  Calls Tryz.prog 107 #[.slice A l.length c,.func (.func K) #[] cap.toArray] w fun e w'=>e = .returned (.bool (l.any p)) /\ Aft w w':=by
 go_enter Tryz.func107,Tryz.ntmps107;go_wp2_with (go_at_call 125;refine (indexFuncShift R K cap p A l c w hA hK hp).mono ?_;rintro e w' ⟨hr,u,rfl⟩;obtain ⟨n,rfl,hn⟩:=hr.sign;clear hr;have HN:=Lib.hid hn;clear hn)
 go_ret;exact ⟨ret_bool (by have:=HN.out;cases h:l.any p <;> simp_all),u,rfl⟩
theorem runs_103 (args:Array Value) (w:World):(callFunc 108 args).run Tryz.prog w = .ok (.enter 108 args) w:=by simp [go_sem]
set_option maxHeartbeats 400000 in
theorem notShift_any (K:FuncId) (cap:List Value) (b:Nat) (v0 v1 v2 v3:Value) (q:Bool) (w:World) (hb:Blk w b 154 #[.func (.func K) #[] cap.toArray])
  (hK:∀ args w,(callFunc K args).run Tryz.prog w = .ok (.enter K args) w) (hp:Asks Tryz.prog K cap w (.agg #[v0,v1,v2,v3]) q) :
  Calls Tryz.prog 108 #[.agg #[v0,v1,v2,v3],.pointer (some ⟨b,0,none⟩)] w fun e w'=>e = .returned (.bool (!q)) /\ Aft w w':=by
 have k0:w.cell? ⟨b,0,none⟩ = some (.func (.func K) #[] cap.toArray):=hb.cell 0;have hlt:=hb.lt;have hpk:=hp.at (W:=w.alloc (.cells #[v0,v1,v2,v3] 74)) (Aft.alloc _ _);clear hp hb;go_enter Tryz.func108,Tryz.ntmps108;go_wp2_with (refine hpk.mono ?_;rintro e w' ⟨rfl,u1,rfl⟩;clear hpk)
 go_ret;exact ⟨rfl,(Aft.alloc _ _).then_lat _⟩
set_option maxHeartbeats 400000 in
theorem everyShift {α:Type} (R:World -> α -> List Value -> Prop) (hR:MonoR R) (K:FuncId) (cap:List Value) (p:α -> Bool) (A:Option Addr) (l:List α) (c:Nat) (w:World) (hA:RowsP w A 4 R l)
  (hK:∀ args w,(callFunc K args).run Tryz.prog w = .ok (.enter K args) w)
  (hp:∀ x ∈ l,∀ W,Aft w W -> ∀ v0 v1 v2 v3,R W x [v0,v1,v2,v3] -> Asks Tryz.prog K cap W (.agg #[v0,v1,v2,v3]) (p x)) :
  Calls Tryz.prog 76 #[.slice A l.length c,.func (.func K) #[] cap.toArray] w fun e w'=>e = .returned (.bool (l.all p)) /\ Aft w w':=by
 have ha:=Aft.alloc w (.cells #[.func (.func K) #[] cap.toArray] 154)
 have H:=Lib.hid (containsShift R 108 [.pointer (some ⟨w.heap.size,0,none⟩)] (fun x=>!p x) A l c (w.alloc (.cells #[.func (.func K) #[] cap.toArray] 154)) (hA.aft hR ha) runs_103 fun x hx v0 v1 v2 v3 hv u=>by
  exact notShift_any K cap _ v0 v1 v2 v3 (p x) _ ((Blk.new w 154 #[.func (.func K) #[] cap.toArray]).lat u) hK ((hp x hx _ ha v0 v1 v2 v3 hv).lat u))
 clear hp hA;go_enter Tryz.func76,Tryz.ntmps76;go_wp2_with (go_at_call 107;refine H.out.mono ?_;rintro e w' ⟨rfl,u,rfl⟩)
 go_ret;exact ⟨ret_bool (all_not_any p l),ha.then_lat _⟩
set_option maxHeartbeats 1000000 in
theorem indexFuncLeg {α:Type} (R:World -> α -> List Value -> Prop) (K:FuncId) (cap:List Value) (p:α -> Bool) (A:Option Addr) (l:List α) (c:Nat) (w:World) (hA:RowsP w A 2 R l)
  (hK:∀ args w,(callFunc K args).run Tryz.prog w = .ok (.enter K args) w)
  (hp:∀ x ∈ l,∀ v0 v1,R w x [v0,v1] -> Asks Tryz.prog K cap w (.agg #[v0,v1]) (p x)) :
  Calls Tryz.prog 118 #[.slice A l.length c,.func (.func K) #[] cap.toArray] w fun e w'=>IdxRes p l e /\ Aft w w':=by
 have hl:=hA.len (by decide);have HP:=Lib.hid hp;clear hp;go_enter Tryz.func118,Tryz.ntmps118;go_wp2;go_loopw [8] (fun i wr=>∃ k:Nat,i = .int .i64 k /\ k <= l.length /\ (l.take k).any p = false /\ Aft w wr) (fun i _=>l.length - (intOf i).toNat)
 case atStart=>exact ⟨0,rfl,by omega,by simp,Aft.refl _⟩
 case round =>
  obtain ⟨k,rfl,hk,hany,u,rfl⟩:=hrel;have HA:=Lib.hid hany;clear hany;by_cases hlt:k < l.length
  ·obtain ⟨b,o,rfl,hbw,hc⟩:=hA.at hlt;obtain ⟨vs,hv1,hv2,hv3⟩:=hc k hlt;obtain ⟨v0,v1,rfl⟩:∃ v0 v1,vs = [v0,v1]:=by match vs,hv1 with | [v0,v1],_=>exact ⟨v0,v1,rfl⟩
   have hc0:=hv3 0 (by simp);have hc1:=hv3 1 (by simp);simp only [Nat.add_zero,List.getElem_cons_zero,List.getElem_cons_succ] at hc0 hc1;have hpk:=HP.out l[k] (List.getElem_mem hlt) v0 v1 hv2 u;clear hc hv3 hv2;cases hb:p l[k]
   ·have HB:=Lib.hid hb;clear hb;rw [HB.out] at hpk;go_wp2_with (refine hpk.mono ?_;rintro e w' ⟨rfl,u1,rfl⟩;clear hpk)
    go_roundw
    case rel=>exact ⟨k + 1,by go_num,by omega,by rw [any_take_succ _ _ _ hlt,HA.out,HB.out];rfl,_,rfl⟩
    case measure=>simp [intOf];omega
   ·have HB:=Lib.hid hb;clear hb;rw [HB.out] at hpk;go_wp2_with (refine hpk.mono ?_;rintro e w' ⟨rfl,u1,rfl⟩;clear hpk)
    go_ret;exact ⟨.inr ⟨k,hlt,rfl,HB.out,HA.out⟩,_,rfl⟩
  ·go_wp2;go_ret;exact ⟨.inl ⟨rfl,by have:=HA.out;rwa [List.take_of_length_le (by omega)] at this⟩,_,rfl⟩
set_option maxHeartbeats 400000 in
theorem containsLeg {α:Type} (R:World -> α -> List Value -> Prop) (K:FuncId) (cap:List Value) (p:α -> Bool) (A:Option Addr) (l:List α) (c:Nat) (w:World) (hA:RowsP w A 2 R l)
  (hK:∀ args w,(callFunc K args).run Tryz.prog w = .ok (.enter K args) w)
  (hp:∀ x ∈ l,∀ v0 v1,R w x [v0,v1] -> Asks Tryz.prog K cap w (.agg #[v0,v1]) (p x)) :
  Calls Tryz.prog 93 #[.slice A l.length c,.func (.func K) #[] cap.toArray] w fun e w'=>e = .returned (.bool (l.any p)) /\ Aft w w':=by
 go_enter Tryz.func93,Tryz.ntmps93;go_wp2_with (go_at_call 118;refine (indexFuncLeg R K cap p A l c w hA hK hp).mono ?_;rintro e w' ⟨hr,u,rfl⟩;obtain ⟨n,rfl,hn⟩:=hr.sign;clear hr;have HN:=Lib.hid hn;clear hn)
 go_ret;exact ⟨ret_bool (by have:=HN.out;cases h:l.any p <;> simp_all),u,rfl⟩
theorem runs_111 (args:Array Value) (w:World):(callFunc 94 args).run Tryz.prog w = .ok (.enter 94 args) w:=by simp [go_sem]
set_option maxHeartbeats 400000 in
theorem notLeg_any (K:FuncId) (cap:List Value) (b:Nat) (v0 v1:Value) (q:Bool) (w:World) (hb:Blk w b 96 #[.func (.func K) #[] cap.toArray])
  (hK:∀ args w,(callFunc K args).run Tryz.prog w = .ok (.enter K args) w) (hp:Asks Tryz.prog K cap w (.agg #[v0,v1]) q) :
  Calls Tryz.prog 94 #[.agg #[v0,v1],.pointer (some ⟨b,0,none⟩)] w fun e w'=>e = .returned (.bool (!q)) /\ Aft w w':=by
 have k0:w.cell? ⟨b,0,none⟩ = some (.func (.func K) #[] cap.toArray):=hb.cell 0;have hlt:=hb.lt;have hpk:=hp.at (W:=w.alloc (.cells #[v0,v1] 34)) (Aft.alloc _ _);clear hp hb;go_enter Tryz.func94,Tryz.ntmps94;go_wp2_with (refine hpk.mono ?_;rintro e w' ⟨rfl,u1,rfl⟩;clear hpk)
 go_ret;exact ⟨rfl,(Aft.alloc _ _).then_lat _⟩
set_option maxHeartbeats 400000 in
theorem everyLeg {α:Type} (R:World -> α -> List Value -> Prop) (hR:MonoR R) (K:FuncId) (cap:List Value) (p:α -> Bool) (A:Option Addr) (l:List α) (c:Nat) (w:World) (hA:RowsP w A 2 R l)
  (hK:∀ args w,(callFunc K args).run Tryz.prog w = .ok (.enter K args) w)
  (hp:∀ x ∈ l,∀ W,Aft w W -> ∀ v0 v1,R W x [v0,v1] -> Asks Tryz.prog K cap W (.agg #[v0,v1]) (p x)) :
  Calls Tryz.prog 34 #[.slice A l.length c,.func (.func K) #[] cap.toArray] w fun e w'=>e = .returned (.bool (l.all p)) /\ Aft w w':=by
 have ha:=Aft.alloc w (.cells #[.func (.func K) #[] cap.toArray] 96)
 have H:=Lib.hid (containsLeg R 94 [.pointer (some ⟨w.heap.size,0,none⟩)] (fun x=>!p x) A l c (w.alloc (.cells #[.func (.func K) #[] cap.toArray] 96)) (hA.aft hR ha) runs_111 fun x hx v0 v1 hv u=>by
  exact notLeg_any K cap _ v0 v1 (p x) _ ((Blk.new w 96 #[.func (.func K) #[] cap.toArray]).lat u) hK ((hp x hx _ ha v0 v1 hv).lat u))
 clear hp hA;go_enter Tryz.func34,Tryz.ntmps34;go_wp2_with (go_at_call 93;refine H.out.mono ?_;rintro e w' ⟨rfl,u,rfl⟩)
 go_ret;exact ⟨ret_bool (all_not_any p l),ha.then_lat _⟩
set_option maxHeartbeats 1000000 in
theorem indexFuncMark {α:Type} (R:World -> α -> List Value -> Prop) (K:FuncId) (cap:List Value) (p:α -> Bool) (A:Option Addr) (l:List α) (c:Nat) (w:World) (hA:RowsP w A 2 R l)
  (hK:∀ args w,(callFunc K args).run Tryz.prog w = .ok (.enter K args) w)
  (hp:∀ x ∈ l,∀ v0 v1,R w x [v0,v1] -> Asks Tryz.prog K cap w (.agg #[v0,v1]) (p x)) :
  Calls Tryz.prog 132 #[.slice A l.length c,.func (.func K) #[] cap.toArray] w fun e w'=>IdxRes p l e /\ Aft w w':=by
 have hl:=hA.len (by decide);have HP:=Lib.hid hp;clear hp;go_enter Tryz.func132,Tryz.ntmps132;go_wp2;go_loopw [8] (fun i wr=>∃ k:Nat,i = .int .i64 k /\ k <= l.length /\ (l.take k).any p = false /\ Aft w wr) (fun i _=>l.length - (intOf i).toNat)
 case atStart=>exact ⟨0,rfl,by omega,by simp,Aft.refl _⟩
 case round =>
  obtain ⟨k,rfl,hk,hany,u,rfl⟩:=hrel;have HA:=Lib.hid hany;clear hany;by_cases hlt:k < l.length
  ·obtain ⟨b,o,rfl,hbw,hc⟩:=hA.at hlt;obtain ⟨vs,hv1,hv2,hv3⟩:=hc k hlt;obtain ⟨v0,v1,rfl⟩:∃ v0 v1,vs = [v0,v1]:=by match vs,hv1 with | [v0,v1],_=>exact ⟨v0,v1,rfl⟩
   have hc0:=hv3 0 (by simp);have hc1:=hv3 1 (by simp);simp only [Nat.add_zero,List.getElem_cons_zero,List.getElem_cons_succ] at hc0 hc1;have hpk:=HP.out l[k] (List.getElem_mem hlt) v0 v1 hv2 u;clear hc hv3 hv2;cases hb:p l[k]
   ·have HB:=Lib.hid hb;clear hb;rw [HB.out] at hpk;go_wp2_with (refine hpk.mono ?_;rintro e w' ⟨rfl,u1,rfl⟩;clear hpk)
    go_roundw
    case rel=>exact ⟨k + 1,by go_num,by omega,by rw [any_take_succ _ _ _ hlt,HA.out,HB.out];rfl,_,rfl⟩
    case measure=>simp [intOf];omega
   ·have HB:=Lib.hid hb;clear hb;rw [HB.out] at hpk;go_wp2_with (refine hpk.mono ?_;rintro e w' ⟨rfl,u1,rfl⟩;clear hpk)
    go_ret;exact ⟨.inr ⟨k,hlt,rfl,HB.out,HA.out⟩,_,rfl⟩
  ·go_wp2;go_ret;exact ⟨.inl ⟨rfl,by have:=HA.out;rwa [List.take_of_length_le (by omega)] at this⟩,_,rfl⟩
set_option maxHeartbeats 400000 in
theorem containsMark {α:Type} (R:World -> α -> List Value -> Prop) (K:FuncId) (cap:List Value) (p:α -> Bool) (A:Option Addr) (l:List α) (c:Nat) (w:World) (hA:RowsP w A 2 R l)
  (hK:∀ args w,(callFunc K args).run Tryz.prog w = .ok (.enter K args) w)
  (hp:∀ x ∈ l,∀ v0 v1,R w x [v0,v1] -> Asks Tryz.prog K cap w (.agg #[v0,v1]) (p x)) :
  Calls Tryz.prog 126 #[.slice A l.length c,.func (.func K) #[] cap.toArray] w fun e w'=>e = .returned (.bool (l.any p)) /\ Aft w w':=by
 go_enter Tryz.func126,Tryz.ntmps126;go_wp2_with (go_at_call 132;refine (indexFuncMark R K cap p A l c w hA hK hp).mono ?_;rintro e w' ⟨hr,u,rfl⟩;obtain ⟨n,rfl,hn⟩:=hr.sign;clear hr;have HN:=Lib.hid hn;clear hn)
 go_ret;exact ⟨ret_bool (by have:=HN.out;cases h:l.any p <;> simp_all),u,rfl⟩
theorem runs_113 (args:Array Value) (w:World):(callFunc 127 args).run Tryz.prog w = .ok (.enter 127 args) w:=by simp [go_sem]
set_option maxHeartbeats 400000 in
theorem notMark_any (K:FuncId) (cap:List Value) (b:Nat) (v0 v1:Value) (q:Bool) (w:World) (hb:Blk w b 180 #[.func (.func K) #[] cap.toArray])
  (hK:∀ args w,(callFunc K args).run Tryz.prog w = .ok (.enter K args) w) (hp:Asks Tryz.prog K cap w (.agg #[v0,v1]) q) :
  Calls Tryz.prog 127 #[.agg #[v0,v1],.pointer (some ⟨b,0,none⟩)] w fun e w'=>e = .returned (.bool (!q)) /\ Aft w w':=by
 have k0:w.cell? ⟨b,0,none⟩ = some (.func (.func K) #[] cap.toArray):=hb.cell 0;have hlt:=hb.lt;have hpk:=hp.at (W:=w.alloc (.cells #[v0,v1] 76)) (Aft.alloc _ _);clear hp hb;go_enter Tryz.func127,Tryz.ntmps127;go_wp2_with (refine hpk.mono ?_;rintro e w' ⟨rfl,u1,rfl⟩;clear hpk)
 go_ret;exact ⟨rfl,(Aft.alloc _ _).then_lat _⟩
set_option maxHeartbeats 400000 in
theorem everyMark {α:Type} (R:World -> α -> List Value -> Prop) (hR:MonoR R) (K:FuncId) (cap:List Value) (p:α -> Bool) (A:Option Addr) (l:List α) (c:Nat) (w:World) (hA:RowsP w A 2 R l)
  (hK:∀ args w,(callFunc K args).run Tryz.prog w = .ok (.enter K args) w)
  (hp:∀ x ∈ l,∀ W,Aft w W -> ∀ v0 v1,R W x [v0,v1] -> Asks Tryz.prog K cap W (.agg #[v0,v1]) (p x)) :
  Calls Tryz.prog 110 #[.slice A l.length c,.func (.func K) #[] cap.toArray] w fun e w'=>e = .returned (.bool (l.all p)) /\ Aft w w':=by
 have ha:=Aft.alloc w (.cells #[.func (.func K) #[] cap.toArray] 180)
 have H:=Lib.hid (containsMark R 127 [.pointer (some ⟨w.heap.size,0,none⟩)] (fun x=>!p x) A l c (w.alloc (.cells #[.func (.func K) #[] cap.toArray] 180)) (hA.aft hR ha) runs_113 fun x hx v0 v1 hv u=>by
  exact notMark_any K cap _ v0 v1 (p x) _ ((Blk.new w 180 #[.func (.func K) #[] cap.toArray]).lat u) hK ((hp x hx _ ha v0 v1 hv).lat u))
 clear hp hA;go_enter Tryz.func110,Tryz.ntmps110;go_wp2_with (go_at_call 126;refine H.out.mono ?_;rintro e w' ⟨rfl,u,rfl⟩)
 go_ret;exact ⟨ret_bool (all_not_any p l),ha.then_lat _⟩
set_option maxHeartbeats 1000000 in
theorem indexFuncJoint {α:Type} (R:World -> α -> List Value -> Prop) (K:FuncId) (cap:List Value) (p:α -> Bool) (A:Option Addr) (l:List α) (c:Nat) (w:World) (hA:RowsP w A 4 R l)
  (hK:∀ args w,(callFunc K args).run Tryz.prog w = .ok (.enter K args) w)
  (hp:∀ x ∈ l,∀ v0 v1 v2 v3,R w x [v0,v1,v2,v3] -> Asks Tryz.prog K cap w (.agg #[v0,v1,v2,v3]) (p x)) :
  Calls Tryz.prog 124 #[.slice A l.length c,.func (.func K) #[] cap.toArray] w fun e w'=>IdxRes p l e /\ Aft w w':=by
 have hl:=hA.len (by decide);have HP:=Lib.hid hp;clear hp;go_enter Tryz.func124,Tryz.ntmps124;go_wp2;go_loopw [8] (fun i wr=>∃ k:Nat,i = .int .i64 k /\ k <= l.length /\ (l.take k).any p = false /\ Aft w wr) (fun i _=>l.length - (intOf i).toNat)
 case atStart=>exact ⟨0,rfl,by omega,by simp,Aft.refl _⟩
 case round =>
  obtain ⟨k,rfl,hk,hany,u,rfl⟩:=hrel;have HA:=Lib.hid hany;clear hany;by_cases hlt:k < l.length
  ·obtain ⟨b,o,rfl,hbw,hc⟩:=hA.at hlt;obtain ⟨vs,hv1,hv2,hv3⟩:=hc k hlt;obtain ⟨v0,v1,v2,v3,rfl⟩:∃ v0 v1 v2 v3,vs = [v0,v1,v2,v3]:=by match vs,hv1 with | [v0,v1,v2,v3],_=>exact ⟨v0,v1,v2,v3,rfl⟩
   have hc0:=hv3 0 (by simp);have hc1:=hv3 1 (by simp);have hc2:=hv3 2 (by simp);have hc3:=hv3 3 (by simp);simp only [Nat.add_zero,List.getElem_cons_zero,List.getElem_cons_succ] at hc0 hc1 hc2 hc3;have hpk:=HP.out l[k] (List.getElem_mem hlt) v0 v1 v2 v3 hv2 u;clear hc hv3 hv2;cases hb:p l[k]
   ·have HB:=Lib.hid hb;clear hb;rw [HB.out] at hpk;go_wp2_with (refine hpk.mono ?_;rintro e w' ⟨rfl,u1,rfl⟩;clear hpk)
    go_roundw
    case rel=>exact ⟨k + 1,by go_num,by omega,by rw [any_take_succ _ _ _ hlt,HA.out,HB.out];rfl,_,rfl⟩
    case measure=>simp [intOf];omega
   ·have HB:=Lib.hid hb;clear hb;rw [HB.out] at hpk;go_wp2_with (refine hpk.mono ?_;rintro e w' ⟨rfl,u1,rfl⟩;clear hpk)
    go_ret;exact ⟨.inr ⟨k,hlt,rfl,HB.out,HA.out⟩,_,rfl⟩
  ·go_wp2;go_ret;exact ⟨.inl ⟨rfl,by have:=HA.out;rwa [List.take_of_length_le (by omega)] at this⟩,_,rfl⟩
set_option maxHeartbeats 400000 in
theorem containsJoint {α:Type} (R:World -> α -> List Value -> Prop) (K:FuncId) (cap:List Value) (p:α -> Bool) (A:Option Addr) (l:List α) (c:Nat) (w:World) (hA:RowsP w A 4 R l)
  (hK:∀ args w,(callFunc K args).run Tryz.prog w = .ok (.enter K args) w)
  (hp:∀ x ∈ l,∀ v0 v1 v2 v3,R w x [v0,v1,v2,v3] -> Asks Tryz.prog K cap w (.agg #[v0,v1,v2,v3]) (p x)) :
  Calls Tryz.prog 105 #[.slice A l.length c,.func (.func K) #[] cap.toArray] w fun e w'=>e = .returned (.bool (l.any p)) /\ Aft w w':=by
 go_enter Tryz.func105,Tryz.ntmps105;go_wp2_with (go_at_call 124;refine (indexFuncJoint R K cap p A l c w hA hK hp).mono ?_;rintro e w' ⟨hr,u,rfl⟩;obtain ⟨n,rfl,hn⟩:=hr.sign;clear hr;have HN:=Lib.hid hn;clear hn)
 go_ret;exact ⟨ret_bool (by have:=HN.out;cases h:l.any p <;> simp_all),u,rfl⟩
theorem runs_118 (args:Array Value) (w:World):(callFunc 106 args).run Tryz.prog w = .ok (.enter 106 args) w:=by simp [go_sem]
set_option maxHeartbeats 400000 in
theorem notJoint_any (K:FuncId) (cap:List Value) (b:Nat) (v0 v1 v2 v3:Value) (q:Bool) (w:World) (hb:Blk w b 152 #[.func (.func K) #[] cap.toArray])
  (hK:∀ args w,(callFunc K args).run Tryz.prog w = .ok (.enter K args) w) (hp:Asks Tryz.prog K cap w (.agg #[v0,v1,v2,v3]) q) :
  Calls Tryz.prog 106 #[.agg #[v0,v1,v2,v3],.pointer (some ⟨b,0,none⟩)] w fun e w'=>e = .returned (.bool (!q)) /\ Aft w w':=by
 have k0:w.cell? ⟨b,0,none⟩ = some (.func (.func K) #[] cap.toArray):=hb.cell 0;have hlt:=hb.lt;have hpk:=hp.at (W:=w.alloc (.cells #[v0,v1,v2,v3] 72)) (Aft.alloc _ _);clear hp hb;go_enter Tryz.func106,Tryz.ntmps106;go_wp2_with (refine hpk.mono ?_;rintro e w' ⟨rfl,u1,rfl⟩;clear hpk)
 go_ret;exact ⟨rfl,(Aft.alloc _ _).then_lat _⟩
set_option maxHeartbeats 400000 in
theorem everyJoint {α:Type} (R:World -> α -> List Value -> Prop) (hR:MonoR R) (K:FuncId) (cap:List Value) (p:α -> Bool) (A:Option Addr) (l:List α) (c:Nat) (w:World) (hA:RowsP w A 4 R l)
  (hK:∀ args w,(callFunc K args).run Tryz.prog w = .ok (.enter K args) w)
  (hp:∀ x ∈ l,∀ W,Aft w W -> ∀ v0 v1 v2 v3,R W x [v0,v1,v2,v3] -> Asks Tryz.prog K cap W (.agg #[v0,v1,v2,v3]) (p x)) :
  Calls Tryz.prog 73 #[.slice A l.length c,.func (.func K) #[] cap.toArray] w fun e w'=>e = .returned (.bool (l.all p)) /\ Aft w w':=by
 have ha:=Aft.alloc w (.cells #[.func (.func K) #[] cap.toArray] 152)
 have H:=Lib.hid (containsJoint R 106 [.pointer (some ⟨w.heap.size,0,none⟩)] (fun x=>!p x) A l c (w.alloc (.cells #[.func (.func K) #[] cap.toArray] 152)) (hA.aft hR ha) runs_118 fun x hx v0 v1 v2 v3 hv u=>by
  exact notJoint_any K cap _ v0 v1 v2 v3 (p x) _ ((Blk.new w 152 #[.func (.func K) #[] cap.toArray]).lat u) hK ((hp x hx _ ha v0 v1 v2 v3 hv).lat u))
 clear hp hA;go_enter Tryz.func73,Tryz.ntmps73;go_wp2_with (go_at_call 105;refine H.out.mono ?_;rintro e w' ⟨rfl,u,rfl⟩)
 go_ret;exact ⟨ret_bool (all_not_any p l),ha.then_lat _⟩
end Go.Proofs
end
section
/- Walks: slices that are cloned,compared,turned round,and what is deleted of them. -/
namespace Go.Proofs
open Go.RowKit
theorem ty24:SliceTy Tryz.prog 58 3 1 8:=.mk' (z:=.int .i64 0) Tryz.underlying58 (by kernel_rfl) rfl (by decide)
def eqB {α:Type} [DecidableEq α] (a b:List α):Bool:=decide (a = b)
end Go.Proofs
end
section
/- Lists of lists of numbers. -/
namespace Go.Proofs
open Go.RowKit
def ListR:World -> List Int -> List Value -> Prop:=fun w l vs=>∃ A c,vs = [.slice A l.length c] /\ Ints w A l
theorem ListR.mono:MonoR ListR:=fun _ u _ _ ⟨A,c,h1,h2⟩=>⟨A,c,h1,h2.lat u⟩
def Lists (w:World) (A:Option Addr) (l:List (List Int)):Prop:=RowsP w A 1 ListR l
theorem Lists.aft {w w':World} {A:Option Addr} {l:List (List Int)} (h:Lists w A l) (hl:Aft w w'):Lists w' A l:=RowsP.aft ListR.mono h hl
theorem Lists.at {w:World} {A:Option Addr} {l:List (List Int)} (h:Lists w A l) {k:Nat} (hk:k < l.length) :
  ∃ b o,A = some ⟨b,o,none⟩ /\ b < w.heap.size /\ ∀ i,(h:i < l.length) -> ∃ A' c',w.cell? ⟨b,o + i,none⟩ = some (.slice A' l[i].length c') /\ Ints w A' l[i]:=by
 obtain ⟨b,o,rfl,hb,hc⟩:=RowsP.at h hk;refine ⟨b,o,rfl,hb,fun i hi=>?_⟩;obtain ⟨vs,h1,⟨A',c',rfl,h2⟩,h3⟩:=hc i hi;exact ⟨A',c',by simpa using h3 0 (by simp),h2⟩
end Go.Proofs
end
section
/- More words for memory. -/
namespace Go
open Go.RowKit
theorem wpList_app_at {P:Program} {w:World} {ops:Array Oper} {rest:List Oper} {o:Oper} {a:Act} {Q:Exit -> Act -> World -> Prop} {t e:TypeId} {size bytes:Nat} (hT:SliceTy P t e size bytes)
  (hgd:o.guard = none) (s x:Operand) (ho:o.op = .call { callee:=.builtin .append,args:=#[s,x],argTypes:=#[t,t] })
  {base:Nat} (hbase:base <= w.heap.size) {v:Value} {n:Nat} {xs:List Value} (hs:a.eval s = v) (hown:w.ownsRow base e size v n xs)
  {A:Option Addr} {m c:Nat} {news:List Value} (hx:a.eval x = .slice A m c) (hl:news.length = m * size) (hA:A = none -> m = 0)
  (hnews:∀ ad,A = some ad -> ∀ j u,news[j]? = some u -> w.cell? (ad.add j) = some u) (h1:∀ u ∈ news,u.oneCell' = true)
  (hbytes:(n + m) * bytes <= 140737488355328) (hpos:0 < bytes)
  (h:∀ v' w',w'.ownsRow base e size v' (n + m) (xs ++ news) -> w.grownBy w' v.ownBlock -> wpList P ops Q rest (a.put o.dst v') w'):wpList P ops Q (o :: rest) a w:=by
 obtain ⟨ht,⟨i,z,hi,hz,hsize,hby,hzs⟩,hsz⟩:=hT
 have h63:n + m <= maxLen:=by
  have:(n + m) * 1 <= (n + m) * bytes:=Nat.mul_le_mul_left _ hpos;unfold maxLen;omega
 cases A with
 | some ad =>
  exact wpList_append_own w hgd s x t ho base e i z size bytes ht hi hz hsize hby hzs hsz v n xs hs hown ad m c news hx hl (hnews ad rfl) h1 h63 hbytes hbase
   fun v' w' h2 h3 _=>h v' w' h2 h3
 | none =>
  have hm:=hA rfl;subst hm;have hn:news = []:=List.eq_nil_of_length_eq_zero (by simpa using hl);subst hn;refine wpList_plain hgd fun K hK=>?_
  have hr:=run_app_none (ty:=o.type) ht hi hown c;unfold Oper.wp execOp;simp only [ho,resolve,invoke,builtin,Sem.run_bind,Sem.run_pure,Result.andThen_ok,List.map_toArray,List.map_cons,List.map_nil,hs,hx,hr];exact hK _ _ (h v w (by simpa using hown) (World.grownBy.refl w _))
theorem one_int (x:Int):∀ u ∈ [Value.int .i64 x],u.oneCell' = true:=by intro u hu;rw [List.mem_singleton] at hu;subst hu;rfl
end Go
end
section
/- Words: slices of flat records (pairs,joints,shifts,legs): how they read,what an own one is. -/
namespace Go.Proofs
open Go.RowKit
def FlatR {α:Type} (f:α -> List Value):World -> α -> List Value -> Prop:=fun _ x vs=>vs = f x
theorem FlatR.mono {α:Type} {f:α -> List Value}:MonoR (FlatR f):=fun _ _ _ _ h=>h
section
variable {α:Type} {enc:α -> List Value} {sz:Nat}
theorem flat_len (hs:∀ x,(enc x).length = sz):∀ l:List α,(l.flatMap enc).length = l.length * sz
 | []=>by simp
 | x :: r=>by rw [List.flatMap_cons,List.length_append,hs,flat_len hs r,List.length_cons,Nat.succ_mul];omega
theorem flat_get (hs:∀ x,(enc x).length = sz):∀ (l:List α) (i j:Nat) (hi:i < l.length),j < sz -> (l.flatMap enc)[i * sz + j]? = (enc l[i])[j]?
 | x :: r,0,j,hi,hj=>by
  rw [List.flatMap_cons,List.getElem?_append_left (by rw [hs];omega)]
  simp
 | x :: r,i + 1,j,hi,hj=>by
  rw [List.flatMap_cons,List.getElem?_append_right (by rw [hs,Nat.succ_mul];omega),hs];have:(i + 1) * sz + j - sz = i * sz + j:=by rw [Nat.succ_mul];omega
  rw [this,flat_get hs r i j (by simpa using hi) hj]
  simp
theorem own_flat (hs:∀ x,(enc x).length = sz) {w:World} {base:Nat} {e:TypeId} {v:Value} {l:List α}
  (h:w.ownsRow base e sz v l.length (l.flatMap enc)) (hl:l.length * sz <= 17592186043904):∃ A c,v = .slice A l.length c /\ l.length <= c /\ RowsP w A sz (FlatR enc) l /\ ∀ b o,A = some ⟨b,o,none⟩ -> base <= b:=by
 rcases h.2 with ⟨rfl,h0⟩ | ⟨g,cap,cur,rfl,hg,hh,hc,hm,hs',ht⟩
 ·have:l = []:=List.eq_nil_of_length_eq_zero h0;subst this;exact ⟨none,0,rfl,Nat.le_refl _,.nil,fun b o h=>by cases h⟩
 ·refine ⟨_,cap,rfl,hc,⟨hl,.inr ⟨g,0,rfl,(Array.getElem?_eq_some_iff.1 hh).1,fun i hi=>⟨enc l[i],hs _,rfl,fun j hj=>?_⟩⟩⟩,fun b o h=>by cases h;exact hg⟩;have hj':j < sz:=by rw [hs] at hj;exact hj
  have:=h.cells (g:=g) rfl (i * sz + j) (enc l[i])[j] (by rw [flat_get hs l i j hi hj',List.getElem?_eq_getElem hj]);rw [Addr.add_lit] at this;simpa [Nat.add_assoc] using this
theorem rows_src (hs:∀ x,(enc x).length = sz) (hz:0 < sz) {w:World} {A:Option Addr} {l:List α} (h:RowsP w A sz (FlatR enc) l) :
  ∀ ad,A = some ad -> ∀ j u,(l.flatMap enc)[j]? = some u -> w.cell? (ad.add j) = some u:=by
 intro ad e j u hj;have hlt:j < l.length * sz:=by have:=(List.getElem?_eq_some_iff.1 hj).1;rwa [flat_len hs] at this
 have hi:j / sz < l.length:=Nat.div_lt_of_lt_mul (by rwa [Nat.mul_comm] at hlt);obtain ⟨b,o,e2,_,hc⟩:=h.at hi;rw [e] at e2;cases e2;obtain ⟨vs,h1,h2,h3⟩:=hc (j / sz) hi;have h2:vs = enc l[j / sz]:=h2;subst h2;have hr:j % sz < sz:=Nat.mod_lt _ hz;have hjj:j / sz * sz + j % sz = j:=by rw [Nat.mul_comm];exact Nat.div_add_mod j sz
 rw [<- hjj,flat_get hs l _ _ hi hr] at hj;have hk:j % sz < (enc l[j / sz]).length:=by rw [hs];exact hr
 have h4:=h3 (j % sz) (by simpa using hk);rw [List.getElem?_eq_getElem hk] at hj;cases hj;rw [Addr.add_lit];have h5:o + j / sz * sz + j % sz = o + j:=by omega
 rw [<- h5];simpa using h4
theorem rows_nil {R:World -> α -> List Value -> Prop} {w:World} {A:Option Addr} {l:List α} (h:RowsP w A sz R l) (e:A = none):l.length = 0:=by
 rcases Nat.eq_zero_or_pos l.length with h0 | h0
 ·exact h0
 ·obtain ⟨b,o,e2,_⟩:=h.at h0;rw [e] at e2;cases e2
end
def OwnF {α:Type} (e:TypeId) (sz:Nat) (enc:α -> List Value) (w0:World) (l:List α) (en:Ending) (w':World):Prop:=∃ v,en = .returned v /\ w'.ownsRow w0.heap.size e sz v l.length (l.flatMap enc) /\ Aft w0 w'
def enc2 (p:Int × Int):List Value:=[.int .i64 p.1,.int .i64 p.2]
def Prs (w:World) (A:Option Addr) (l:List (Int × Int)):Prop:=RowsP w A 2 (FlatR enc2) l
theorem Prs.aft {w w':World} {A:Option Addr} {l:List (Int × Int)} (h:Prs w A l) (hl:Aft w w'):Prs w' A l:=RowsP.aft FlatR.mono h hl
theorem Prs.len {w:World} {A:Option Addr} {l:List (Int × Int)} (h:Prs w A l):l.length <= 17592186043904:=RowsP.len h (by decide)
theorem Prs.at {w:World} {A:Option Addr} {l:List (Int × Int)} (h:Prs w A l) {k:Nat} (hk:k < l.length) :
  ∃ b o,A = some ⟨b,o,none⟩ /\ b < w.heap.size /\ ∀ i,(h:i < l.length) -> w.cell? ⟨b,o + i * 2,none⟩ = some (.int .i64 l[i].1) /\ w.cell? ⟨b,o + i * 2 + 1,none⟩ = some (.int .i64 l[i].2):=by
 obtain ⟨b,o,rfl,hb,hc⟩:=RowsP.at h hk;refine ⟨b,o,rfl,hb,fun i hi=>?_⟩;obtain ⟨vs,h1,rfl,h3⟩:=hc i hi;exact ⟨by simpa [enc2] using h3 0 (by simp [enc2]),by simpa [enc2] using h3 1 (by simp [enc2])⟩
structure Q4 where
 a:Int
 b:Int
 x:Int
 y:Int
deriving DecidableEq
def enc4 (p:Q4):List Value:=[.int .i64 p.a,.int .i64 p.b,.int .i64 p.x,.int .i64 p.y]
def Quads (w:World) (A:Option Addr) (l:List Q4):Prop:=RowsP w A 4 (FlatR enc4) l
theorem Quads.aft {w w':World} {A:Option Addr} {l:List Q4} (h:Quads w A l) (hl:Aft w w'):Quads w' A l:=RowsP.aft FlatR.mono h hl
theorem Quads.len {w:World} {A:Option Addr} {l:List Q4} (h:Quads w A l):l.length <= 17592186043904:=RowsP.len h (by decide)
theorem Quads.at {w:World} {A:Option Addr} {l:List Q4} (h:Quads w A l) {k:Nat} (hk:k < l.length) :
  ∃ b o,A = some ⟨b,o,none⟩ /\ b < w.heap.size /\ ∀ i,(h:i < l.length) -> w.cell? ⟨b,o + i * 4,none⟩ = some (.int .i64 l[i].a) /\ w.cell? ⟨b,o + i * 4 + 1,none⟩ = some (.int .i64 l[i].b) /\ w.cell? ⟨b,o + i * 4 + 2,none⟩ = some (.int .i64 l[i].x) /\ w.cell? ⟨b,o + i * 4 + 3,none⟩ = some (.int .i64 l[i].y):=by
 obtain ⟨b,o,rfl,hb,hc⟩:=RowsP.at h hk;refine ⟨b,o,rfl,hb,fun i hi=>?_⟩;obtain ⟨vs,h1,rfl,h3⟩:=hc i hi;exact ⟨by simpa [enc4] using h3 0 (by simp [enc4]),by simpa [enc4] using h3 1 (by simp [enc4]),by simpa [enc4] using h3 2 (by simp [enc4]),by simpa [enc4] using h3 3 (by simp [enc4])⟩
def encG (p:Int × Bool):List Value:=[.int .i64 p.1,.bool p.2]
def Gs (w:World) (A:Option Addr) (l:List (Int × Bool)):Prop:=RowsP w A 2 (FlatR encG) l
theorem Gs.aft {w w':World} {A:Option Addr} {l:List (Int × Bool)} (h:Gs w A l) (hl:Aft w w'):Gs w' A l:=RowsP.aft FlatR.mono h hl
theorem Gs.len {w:World} {A:Option Addr} {l:List (Int × Bool)} (h:Gs w A l):l.length <= 17592186043904:=RowsP.len h (by decide)
theorem Gs.at {w:World} {A:Option Addr} {l:List (Int × Bool)} (h:Gs w A l) {k:Nat} (hk:k < l.length) :
  ∃ b o,A = some ⟨b,o,none⟩ /\ b < w.heap.size /\ ∀ i,(h:i < l.length) -> w.cell? ⟨b,o + i * 2,none⟩ = some (.int .i64 l[i].1) /\ w.cell? ⟨b,o + i * 2 + 1,none⟩ = some (.bool l[i].2):=by
 obtain ⟨b,o,rfl,hb,hc⟩:=RowsP.at h hk;refine ⟨b,o,rfl,hb,fun i hi=>?_⟩;obtain ⟨vs,h1,rfl,h3⟩:=hc i hi;exact ⟨by simpa [encG] using h3 0 (by simp [encG]),by simpa [encG] using h3 1 (by simp [encG])⟩
theorem enc2_one (l:List (Int × Int)):∀ u ∈ l.flatMap enc2,u.oneCell' = true:=by
 intro u hu;obtain ⟨x,_,hx⟩:=List.mem_flatMap.1 hu;simp [enc2] at hx;rcases hx with rfl | rfl <;> rfl
theorem enc4_one (l:List Q4):∀ u ∈ l.flatMap enc4,u.oneCell' = true:=by
 intro u hu;obtain ⟨x,_,hx⟩:=List.mem_flatMap.1 hu;simp [enc4] at hx;rcases hx with rfl | rfl | rfl | rfl <;> rfl
theorem encG_one (l:List (Int × Bool)):∀ u ∈ l.flatMap encG,u.oneCell' = true:=by
 intro u hu;obtain ⟨x,_,hx⟩:=List.mem_flatMap.1 hu;simp [encG] at hx;rcases hx with rfl | rfl <;> rfl
end Go.Proofs
end
section
/- A call at a step of a region that draws its order. -/
namespace Go.Proofs
open Go.RowKit
theorem run_enters {f:Nat} {fn:Func} (h:Tryz.prog.funcs[f]? = some fn) (hn:(fn.name == "runtime.NumGoroutine") = false) (hb:fn.body.isNone = false) (args:Array Value) (w:World) :
  (callFunc f args).run Tryz.prog w = .ok (.enter f args) w:=by
 unfold callFunc;have h1:¬ fn.name = "runtime.NumGoroutine":=by simpa using hn
 have h2:¬ fn.body = none:=by intro e;rw [e] at hb;cases hb
 simp [go_sem,h,h1,h2]
end Go.Proofs
end
section
/- A region that draws its order,by facts: what each operation yields,in whatever order they come up. -/
namespace Go
def Region.preds (o:Oper):List Nat:=(o.after.toList.filter (Region.binds .any)).map (·.on)
def dn (listed:Array Bool) (i:Nat):Bool:=listed.getD i false
def upd (done:Nat -> Bool) (i:Nat):Nat -> Bool:=fun j=>if j = i then true else done j
structure Held (ops:Array Oper) (Fact:Nat -> Value -> World -> Prop) (Wd:(Nat -> Bool) -> World -> Prop) (a0:Act) (done:Nat -> Bool) (a:Act) (w:World):Prop where
 wd:Wd done w
 size:a.tmps.size = a0.tmps.size
 defers:a.defers = a0.defers
 closed:∀ i o,ops[i]? = some o -> done i = true -> ∀ j ∈ Region.preds o,done j = true
 old:∀ s,(∀ i o,ops[i]? = some o -> o.dst = some s -> done i = false) -> a.eval (.tmp s) = a0.eval (.tmp s)
 fact:∀ (i:Nat) (o:Oper) (s:Nat),ops[i]? = some o -> o.dst = some s -> done i = true -> Fact i (a.eval (.tmp s)) w
theorem mem_ready' {md:Region.Mode} {ops:Array Oper} {listed:Array Bool} {i:Nat} (hm:md = .any) (hs:listed.size = ops.size) (h:i ∈ Region.ready md ops listed) :
  ∃ o,ops[i]? = some o /\ dn listed i = false /\ ∀ j ∈ Region.preds o,dn listed j = true:=by
 subst hm;unfold Region.ready at h;rw [List.mem_filter,List.mem_range,Bool.and_eq_true] at h;obtain ⟨h1,h2,h3⟩:=h;have ho:ops[i]? = some ops[i]:=Array.getElem?_eq_getElem h1;refine ⟨_,ho,?_,fun j hj=>?_⟩
 ·unfold dn;rw [Array.getD_eq_getD_getElem?] at h2 ⊢;rw [Array.getElem?_eq_getElem (by omega)] at h2 ⊢;simpa using h2
 ·rw [ho,Option.map_some,Option.getD_some] at h3;unfold Region.preds at hj;rw [List.mem_map] at hj;obtain ⟨e,he,rfl⟩:=hj;rw [List.mem_filter] at he;have:=Array.all_eq_true'.1 h3 e (by simpa using he.1);rw [he.2] at this;simpa [dn] using this
theorem all_done {ops:Array Oper} {listed:Array Bool} (hs:listed.size = ops.size) (hlt:∀ (i:Nat) (o:Oper),ops[i]? = some o -> ∀ j ∈ Region.preds o,j < i) (h:Region.ready .any ops listed = []):∀ i,i < ops.size -> dn listed i = true:=by
 intro i
 induction i using Nat.strongRecOn with
 | _ i ih =>
  intro hi
  cases hd:dn listed i with
  | true=>rfl
  | false =>
   exfalso;have ho:ops[i]? = some ops[i]:=Array.getElem?_eq_getElem hi
   have:i ∈ Region.ready .any ops listed:=by
    unfold Region.ready;rw [List.mem_filter,List.mem_range,Bool.and_eq_true];refine ⟨hi,?_,?_⟩
    ·unfold dn at hd;rw [Array.getD_eq_getD_getElem?] at hd ⊢;rw [Array.getElem?_eq_getElem (by omega)] at hd ⊢;simpa using hd
    ·rw [ho,Option.map_some,Option.getD_some,Array.all_eq_true'];intro e he
     cases hb:Region.binds .any e with
     | false=>rfl
     | true =>
      have hm:e.on ∈ Region.preds ops[i]:=List.mem_map.2 ⟨e,List.mem_filter.2 ⟨by simpa using he,hb⟩,rfl⟩;have h1:=hlt i _ ho _ hm;have h2:=ih e.on h1 (by omega);simpa [dn] using h2
   rw [h] at this;cases this
def unl (ops:Array Oper) (done:Nat -> Bool):List Nat:=(List.range ops.size).filter fun i=>!done i
theorem unl_lt {ops:Array Oper} {done:Nat -> Bool} {i:Nat} (hi:i < ops.size) (hd:done i = false):(unl ops (upd done i)).length < (unl ops done).length:=by
 have e:unl ops (upd done i) = (unl ops done).filter fun j=>!upd done i j:=by
  unfold unl;rw [List.filter_filter];apply List.filter_congr;intro j _;unfold upd;split <;> simp
 rw [e,List.length_filter_lt_length_iff_exists];exact ⟨i,List.mem_filter.2 ⟨List.mem_range.2 hi,by simp [hd]⟩,by simp [upd]⟩
section
variable {P:Program} {ops:Array Oper} {Q:Exit -> Act -> World -> Prop} {Fact:Nat -> Value -> World -> Prop} {Wd:(Nat -> Bool) -> World -> Prop} {a0:Act}
theorem dn_set {listed:Array Bool} {i:Nat} (hi:i < listed.size):dn (listed.setIfInBounds i true) = upd (dn listed) i:=by
 funext j
 unfold dn upd;rw [Array.getD_eq_getD_getElem?,Array.getElem?_setIfInBounds];by_cases e:i = j
 ·subst e;simp [hi]
 ·rw [if_neg e,if_neg (fun h=>e h.symm)];exact (Array.getD_eq_getD_getElem? ..).symm
theorem Held.same {done:Nat -> Bool} {a:Act} {w:World} (h:Held ops Fact Wd a0 done a w) {s:Nat} (hs:s ∉ ops.toList.filterMap (·.dst)):a.eval (.tmp s) = a0.eval (.tmp s) :=
 h.old s fun k ok hk he=>absurd (List.mem_filterMap.2 ⟨ok,by rw [<- Array.getElem?_toList] at hk;exact List.mem_of_getElem? hk,he⟩) hs
theorem nodup_dst:∀ {xs:List Oper},(xs.filterMap (·.dst)).Nodup -> ∀ (i j:Nat) (oi oj:Oper) (s:Nat),xs[i]? = some oi -> xs[j]? = some oj -> oi.dst = some s -> oj.dst = some s -> i = j
 | [],_,i,_,_,_,_,h,_,_,_=>by simp at h
 | o :: xs,hn,i,j,oi,oj,s,hi,hj,h1,h2=>by
  rw [List.filterMap_cons] at hn
  have hsub:(xs.filterMap (·.dst)).Nodup:=by
   cases hd:o.dst with
   | none=>simpa [hd] using hn
   | some d=>simp [hd] at hn;exact hn.2
  have hmem:∀ (k:Nat) (ok:Oper),xs[k]? = some ok -> ok.dst = some s -> s ∈ xs.filterMap (·.dst):=fun k ok hk he=>List.mem_filterMap.2 ⟨ok,List.mem_of_getElem? hk,he⟩
  cases i with
  | zero =>
   cases j with
   | zero=>rfl
   | succ j =>
    simp at hi hj;subst hi;rw [h1] at hn;simp at hn;exact absurd (hmem j oj hj h2) (by simpa using hn.1)
  | succ i =>
   cases j with
   | zero =>
    simp at hi hj;subst hj;rw [h2] at hn;simp at hn;exact absurd (hmem i oi hi h1) (by simpa using hn.1)
   | succ j =>
    simp at hi hj;rw [nodup_dst hsub i j oi oj s hi hj h1 h2]
end
end Go
end
section
/- A region that draws its order and whose operations may bear guards,by facts. -/
namespace Go
structure HeldG (ops:Array Oper) (Fact:(Nat -> Bool) -> Nat -> Value -> World -> Prop) (Wd:(Nat -> Bool) -> Act -> World -> Prop) (a0:Act) (done:Nat -> Bool) (a:Act) (w:World):Prop where
 wd:Wd done a w
 size:a.tmps.size = a0.tmps.size
 defers:a.defers = a0.defers
 closed:∀ i o,ops[i]? = some o -> done i = true -> ∀ j ∈ Region.preds o,done j = true
 old:∀ s,(∀ i o,ops[i]? = some o -> o.dst = some s -> done i = false) -> a.eval (.tmp s) = a0.eval (.tmp s)
 fact:∀ (i:Nat) (o:Oper) (s:Nat),ops[i]? = some o -> o.dst = some s -> done i = true -> Fact done i (a.eval (.tmp s)) w
section
variable {P:Program} {ops:Array Oper} {Q:Exit -> Act -> World -> Prop} {Fact:(Nat -> Bool) -> Nat -> Value -> World -> Prop} {Wd:(Nat -> Bool) -> Act -> World -> Prop} {a0:Act}
theorem HeldG.put {done:Nat -> Bool} {a:Act} {w w':World} {i:Nat} {o:Oper} {v:Value} (h:HeldG ops Fact Wd a0 done a w) (ho:ops[i]? = some o) (hd:done i = false) (hp:∀ j ∈ Region.preds o,done j = true)
  (hdst:∀ (i j:Nat) (oi oj:Oper) (s:Nat),ops[i]? = some oi -> ops[j]? = some oj -> oi.dst = some s -> oj.dst = some s -> i = j) (hin:∀ (i:Nat) (o:Oper) (s:Nat),ops[i]? = some o -> o.dst = some s -> s < a0.tmps.size)
  (hf:Fact (Go.upd done i) i v w') (hw:Wd (Go.upd done i) (a.put o.dst v) w') (hk:∀ (j:Nat) (oj:Oper) (s:Nat),ops[j]? = some oj -> oj.dst = some s -> done j = true -> Fact done j (a.eval (.tmp s)) w -> Fact (Go.upd done i) j (a.eval (.tmp s)) w'):HeldG ops Fact Wd a0 (Go.upd done i) (a.put o.dst v) w':=by
 refine ⟨hw,?_,?_,fun k ok hk' hdk j hj=>?_,fun s hs=>?_,fun k ok s hk' hs hdk=>?_⟩
 ·rw [<- h.size];unfold Act.put;split <;> simp
 ·rw [<- h.defers];unfold Act.put;split <;> rfl
 ·unfold Go.upd at hdk ⊢;by_cases e:j = i
  ·rw [if_pos e]
  ·rw [if_neg e];by_cases e2:k = i
   ·subst e2;rw [ho] at hk';cases hk';exact hp j hj
   ·rw [if_neg e2] at hdk;exact h.closed k ok hk' hdk j hj
 ·have hne:∀ d,o.dst = some d -> (Operand.tmp s) ≠ .tmp d:=fun d hd' e=>by
   cases e;have:=hs i o ho hd';simp [Go.upd] at this
  rw [Act.eval_put hne];refine h.old s fun k ok hk' hs'=>?_
  have:=hs k ok hk' hs';unfold Go.upd at this;split at this
  ·cases this
  ·exact this
 ·by_cases e:k = i
  ·subst e;rw [ho] at hk';cases hk';rw [hs,Act.eval_put_same _ _ _ (by rw [h.size];exact hin k o s ho hs)];exact hf
  ·unfold Go.upd at hdk;rw [if_neg e] at hdk
   have hne:∀ d,o.dst = some d -> (Operand.tmp s) ≠ .tmp d:=fun d hd' e2=>by
    cases e2;exact e (hdst k i ok o s hk' ho hs hd')
   rw [Act.eval_put hne];exact hk k ok s hk' hs hdk (h.fact k ok s hk' hs hdk)
theorem wpAny_factsG (hdst:∀ (i j:Nat) (oi oj:Oper) (s:Nat),ops[i]? = some oi -> ops[j]? = some oj -> oi.dst = some s -> oj.dst = some s -> i = j) (hin:∀ (i:Nat) (o:Oper) (s:Nat),ops[i]? = some o -> o.dst = some s -> s < a0.tmps.size)
  (hlt:∀ (i:Nat) (o:Oper),ops[i]? = some o -> ∀ j ∈ Region.preds o,j < i)
  (step:∀ (i:Nat) (o:Oper),ops[i]? = some o -> ∀ (done:Nat -> Bool) (a:Act) (w:World),HeldG ops Fact Wd a0 done a w -> done i = false -> (∀ j ∈ Region.preds o,done j = true) -> ∀ K:Act -> World -> Prop,
   (∀ (v:Value) (w':World),Fact (Go.upd done i) i v w' -> Wd (Go.upd done i) (a.put o.dst v) w' -> (∀ (j:Nat) (oj:Oper) (s:Nat),ops[j]? = some oj -> oj.dst = some s -> done j = true -> Fact done j (a.eval (.tmp s)) w -> Fact (Go.upd done i) j (a.eval (.tmp s)) w') -> K (a.put o.dst v) w') -> if Region.wanted o (yielded ops a.tmps) = true then Oper.wp P o a w K Q else K (a.put o.dst undef) w)
  (fin:∀ (done:Nat -> Bool) (a:Act) (w:World),(∀ i,i < ops.size -> done i = true) -> HeldG ops Fact Wd a0 done a w -> Q .normal a w) :
  ∀ (fuel:Nat) (listed:Array Bool) (a:Act) (w:World),listed.size = ops.size -> HeldG ops Fact Wd a0 (dn listed) a w -> (unl ops (dn listed)).length <= fuel -> wpAny P .any ops Q fuel listed a w
 | 0,listed,a,w,hs,h,hf=>by
  have hd:∀ i,i < ops.size -> dn listed i = true:=fun i hi=>by
   cases hd:dn listed i with
   | true=>rfl
   | false =>
    have:i ∈ unl ops (dn listed):=List.mem_filter.2 ⟨List.mem_range.2 hi,by simp [hd]⟩;have hz:unl ops (dn listed) = []:=List.eq_nil_of_length_eq_zero (by omega);rw [hz] at this;cases this
  refine ⟨?_,fin _ a w hd h⟩
  cases hr:Region.ready .any ops listed with
  | nil=>rfl
  | cons i r =>
   obtain ⟨o,ho,h1,_⟩:=mem_ready' rfl hs (show i ∈ Region.ready .any ops listed by rw [hr];simp);rw [hd i (Array.getElem?_eq_some_iff.1 ho).1] at h1;cases h1
 | fuel + 1,listed,a,w,hs,h,hf=>by
  refine ⟨fun hr=>fin _ a w (all_done hs hlt hr) h,fun i hi=>?_⟩;obtain ⟨o,ho,h1,h2⟩:=mem_ready' rfl hs hi;have hio:=(Array.getElem?_eq_some_iff.1 ho).1;unfold wpOp;simp only [ho]
  have hst:=step i o ho _ a w h h1 h2 (wpAny P .any ops Q fuel (listed.setIfInBounds i true)) fun v w' hf' hw' hk=>by
   refine wpAny_factsG hdst hin hlt step fin fuel _ _ _ (by simpa using hs) ?_ ?_
   ·rw [dn_set (by omega)];exact h.put ho h1 h2 hdst hin hf' hw' hk
   ·rw [dn_set (by omega)];have:=unl_lt (ops:=ops) hio h1;omega
  by_cases hw:Region.wanted o (yielded ops a.tmps) = true
  ·rw [if_pos hw] at hst ⊢;exact .inl hst
  ·rw [if_neg hw] at hst ⊢;exact hst
theorem HeldG.same {done:Nat -> Bool} {a:Act} {w:World} (h:HeldG ops Fact Wd a0 done a w) {s:Nat} (hs:s ∉ ops.toList.filterMap (·.dst)):a.eval (.tmp s) = a0.eval (.tmp s) :=
 h.old s fun k ok hk he=>absurd (List.mem_filterMap.2 ⟨ok,by rw [<- Array.getElem?_toList] at hk;exact List.mem_of_getElem? hk,he⟩) hs
def factsGB (xs:List Oper) (n:Nat):Bool :=
 decide ((xs.filterMap (·.dst)).Nodup) && (xs.all fun o=>match o.dst with | some s=>decide (s < n) | none=>true) && ((List.range xs.length).all fun i=>match xs[i]? with | some o=>(Region.preds o).all fun j=>decide (j < i) | none=>true)
theorem wp_region_factsG {id:Nat} {xs:List Oper} {w:World} (hm:P.follows .mixedOrders = true) (n:Nat) (hn:a0.tmps.size = n) (hB:factsGB xs n = true)
  (Fact:(Nat -> Bool) -> Nat -> Value -> World -> Prop) (Wd:(Nat -> Bool) -> Act -> World -> Prop) (h0:Wd (fun _=>false) a0 w.drew)
  (step:∀ (i:Nat) (o:Oper),xs[i]? = some o -> ∀ (done:Nat -> Bool) (a:Act) (w:World),HeldG xs.toArray Fact Wd a0 done a w -> done i = false -> (∀ j ∈ Region.preds o,done j = true) -> ∀ K:Act -> World -> Prop,
   (∀ (v:Value) (w':World),Fact (Go.upd done i) i v w' -> Wd (Go.upd done i) (a.put o.dst v) w' -> (∀ (j:Nat) (oj:Oper) (s:Nat),xs[j]? = some oj -> oj.dst = some s -> done j = true -> Fact done j (a.eval (.tmp s)) w -> Fact (Go.upd done i) j (a.eval (.tmp s)) w') -> K (a.put o.dst v) w') -> if Region.wanted o (yielded xs.toArray a.tmps) = true then Oper.wp P o a w K Q else K (a.put o.dst undef) w)
  (fin:∀ (done:Nat -> Bool) (a:Act) (w:World),(∀ i,i < xs.length -> done i = true) -> HeldG xs.toArray Fact Wd a0 done a w -> Q .normal a w):(Code.region id xs.toArray true).wp P Q a0 w:=by
 unfold factsGB at hB;rw [Bool.and_eq_true,Bool.and_eq_true] at hB;obtain ⟨⟨h2,h3⟩,h4⟩:=hB;refine wp_region_any hm ?_
 have e0:dn (Array.replicate xs.toArray.size false) = fun _=>false:=by
  funext i
  unfold dn;rw [Array.getD_eq_getD_getElem?,Array.getElem?_replicate];split <;> rfl
 refine wpAny_factsG (Fact:=Fact) (Wd:=Wd) (a0:=a0) (fun i j oi oj s hi hj=>nodup_dst (of_decide_eq_true h2) i j oi oj s (by simpa using hi) (by simpa using hj)) (fun i o s ho hs=>?_) (fun i o ho j hj=>?_)
  (fun i o ho done a w h hd hp K hK=>step i o (by simpa using ho) done a w h hd hp K (fun v w' h1 h2 h3=>hK v w' h1 h2 (fun j oj s hj=>h3 j oj s (by simpa using hj)))) (fun done a w hd=>fin done a w (by simpa using hd)) _ _ _ _ (by simp) ?_ ?_
 ·have:=List.all_eq_true.1 h3 o (List.mem_of_getElem? (by simpa using ho));rw [hs] at this;rw [hn];simpa using this
 ·have ho':xs[i]? = some o:=by simpa using ho
  have:=List.all_eq_true.1 h4 i (List.mem_range.2 (List.getElem?_eq_some_iff.1 ho').1);rw [ho'] at this;have:=List.all_eq_true.1 this j hj;simpa using this
 ·rw [e0];exact ⟨h0,rfl,rfl,(fun i o _ h=>by cases h),(fun s _=>rfl),(fun i o s _ _ h=>by cases h)⟩
 ·have:(unl xs.toArray (dn (Array.replicate xs.toArray.size false))).length <= (List.range xs.toArray.size).length:=List.length_filter_le _ _;simpa using this
end
end Go
end
