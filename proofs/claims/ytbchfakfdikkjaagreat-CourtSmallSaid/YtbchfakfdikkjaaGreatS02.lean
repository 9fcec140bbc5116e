/- Own texts, merged: WkA WkB Tail Lst Lim2 Own2 Own3 Sc Rgf Rgj Rng Brg Rgv Rgw Rgx. -/
import Derived.Test.YtbchfakfdikkjaaGreatS01
import Derived.Test.YtbchfakfdikkjaaGreatProg
import Derived.StillTailTactics
import Derived.Deep.RegionHeld3
import Derived.Deep.RegionLaw
import Derived.Laws.EntriesVeiled
import Derived.Deep.CutBlock
import Derived.Deep.LoopGhost
import Derived.Deep.Cut
import Derived.LoopIn
import Derived.BigGuard
import Derived.Maps.AppendAt
import Derived.Deep.Onto
import Derived.Great.Frames
import Derived.RangeFuncNested
import Derived.RangeFuncBound
import Derived.RangeFuncCalls
import Derived.RangeFuncLeaves
import Derived.Test.YtbchfakfdikkjaaGreatChecked
import Derived.Shelf.RegionOpen
set_option linter.unusedSimpArgs false
set_option linter.unusedVariables false
set_option linter.unnecessarySimpa false
section
/- Walks: small helpers of package court,and the library's searches of slices. -/
namespace Go.Proofs
open Go.RowKit
def fromB (n a b:Int):Bool:=decide (a <= n) && decide (n <= b)
def risesB:List Int -> Bool
 | a :: b :: r=>decide (a < b) && risesB (b :: r)
 | _=>true
theorem risesB_false (l:List Int) (k:Nat) (h:k + 1 < l.length) (hh:l[k+1] <= l[k]):risesB l = false:=by
 induction l generalizing k with
 | nil=>simp at h
 | cons a r ih =>
  cases r with
  | nil=>simp at h
  | cons b r =>
   cases k with
   | zero=>simp at hh;simp [risesB];intro;omega
   | succ k=>simp only [risesB];rw [ih k (by simpa using h) (by simpa using hh)];simp
theorem risesB_true (l:List Int) (h:∀ k,(h:k + 1 < l.length) -> l[k] < l[k+1]):risesB l = true:=by
 induction l with
 | nil=>rfl
 | cons a r ih =>
  cases r with
  | nil=>rfl
  | cons b r =>
   simp only [risesB,Bool.and_eq_true,decide_eq_true_eq];exact ⟨h 0 (by simp),ih fun k hk=>h (k+1) (by simp at hk ⊢;omega)⟩
set_option maxHeartbeats 400000 in
theorem from_any (n a b:Int) (w:World) :
  Calls Tryz.prog 54 #[.int .i64 n,.int .i64 a,.int .i64 b] w fun e w'=>e = .returned (.bool (fromB n a b)) /\ w = w':=by
 go_enter Tryz.func54,Tryz.ntmps54;go_wp2
 all_goals go_ret
 ·exact ⟨ret_bool (by unfold fromB;simp;omega),rfl⟩
 ·exact ⟨ret_bool (by unfold fromB;simp;omega),rfl⟩
set_option maxHeartbeats 400000 in
theorem rises_any (A:Option Addr) (l:List Int) (c:Nat) (w:World) (hA:Ints w A l) :
  Calls Tryz.prog 101 #[.slice A l.length c] w fun e w'=>e = .returned (.bool (risesB l)) /\ Aft w w':=by
 have hl:=hA.len;go_enter Tryz.func101,Tryz.ntmps101;go_wp2;go_loopw [3] (fun i wr=>∃ k:Nat,1 <= k /\ i = .int .i64 k /\ (k <= l.length \/ k = 1) /\ (∀ j,j + 1 < k -> (h:j + 1 < l.length) -> l[j] < l[j+1]) /\ ∃ n,wr = w.drewN n) (fun i _=>l.length - (intOf i).toNat)
 case atStart=>exact ⟨1,by omega,rfl,by omega,fun j hj=>by omega,0,rfl⟩
 case round =>
  obtain ⟨k,hk1,rfl,hk,hlt,n,rfl⟩:=hrel;have HL:=Lib.hid hlt;clear hlt;by_cases hkl:k < l.length
  ·obtain ⟨b,o,rfl,hb,hc⟩:=hA.at hkl;have h1:w.cell? ⟨b,o + k,none⟩ = some (.int .i64 l[k]):=hc k hkl;have h2:w.cell? ⟨b,o + (k - 1),none⟩ = some (.int .i64 l[k-1]):=hc (k-1) (by omega);have e1:IntKind.i64.wrap ((k:Int) - 1) = ((k - 1:Nat):Int):=by rw [IntWalk.i64_in _ (by omega)];omega
   clear hc;go_wp2;go_quiet (fail);clear e1;go_wp2
   ·go_ret;have h3:l[k] <= l[k-1]:=by assumption
    exact ⟨ret_bool (by rw [risesB_false l (k-1) (by omega) (by simp only [Nat.sub_add_cancel hk1];exact h3)]),(Aft.drewN _ _).then_drewN _⟩
   ·have h3:l[k-1] < l[k]:=by assumption
    go_roundw
    case rel =>
     refine ⟨k + 1,by omega,by go_num,by omega,fun j hj hjl=>?_,_,rfl⟩;by_cases hjk:j + 1 < k
     ·exact HL.out j hjk hjl
     ·obtain rfl:j = k - 1:=by omega
      simp only [Nat.sub_add_cancel hk1];exact h3
    case measure=>simp [intOf];omega
  ·go_wp2;go_ret;exact ⟨ret_bool (by rw [risesB_true l fun j hj=>HL.out j (by omega) hj]),Aft.drewN _ _⟩
def IdxSign (b:Bool) (e:Ending):Prop:=∃ n:Int,e = .returned (.int .i64 n) /\ decide (n < 0) = !b
theorem IdxSign.yes {b:Bool} (hb:b = true) (k:Nat):IdxSign b (.returned (.int .i64 k)):=⟨k,rfl,by rw [hb];simp⟩
theorem IdxSign.no {b:Bool} (hb:b = false):IdxSign b (.returned (.int .i64 (-1))):=⟨-1,rfl,by rw [hb];rfl⟩
def IdxRes {α:Type} (p:α -> Bool) (l:List α) (e:Ending):Prop :=
 (e = .returned (.int .i64 (-1)) /\ l.any p = false) \/ ∃ k,∃ h:k < l.length,e = .returned (.int .i64 (k:Nat)) /\ p l[k] = true /\ (l.take k).any p = false
theorem IdxRes.sign {α:Type} {p:α -> Bool} {l:List α} {e:Ending} (h:IdxRes p l e):IdxSign (l.any p) e:=by
 rcases h with ⟨rfl,h⟩ | ⟨k,h,rfl,h1,_⟩
 ·exact IdxSign.no h
 ·exact IdxSign.yes (any_of_get _ _ _ h h1) _
theorem index_any (A:Option Addr) (l:List Int) (c:Nat) (x:Int) (w:World) (hA:Ints w A l) :
  Calls Tryz.prog 90 #[.slice A l.length c,.int .i64 x] w fun e w'=>IdxSign (hasB l x) e /\ w = w':=by
 have hl:=hA.len;go_enter Tryz.func90,Tryz.ntmps90;go_wp2;go_loop [8] (fun i=>∃ k:Nat,i = .int .i64 k /\ k <= l.length /\ hasB (l.take k) x = false) (fun i=>l.length - (intOf i).toNat)
 case atStart=>exact ⟨0,rfl,by omega,rfl⟩
 case round =>
  obtain ⟨k,rfl,hk,hany⟩:=hrel;have HA:=Lib.hid hany;clear hany;by_cases hlt:k < l.length
  ·obtain ⟨b,o,rfl,hbw,hc⟩:=hA.at hlt;have hck:=hc k hlt;clear hc;go_wp2
   ·have hx:x = l[k]:=by simp_all
    go_ret;exact ⟨IdxSign.yes (hasB_iff.2 (hx ▸ List.getElem_mem hlt)) _,rfl⟩
   ·have hx:¬ x = l[k]:=by simp_all
    go_round
    case rel=>exact ⟨k + 1,by go_num,by omega,by rw [List.take_succ_eq_append_getElem hlt,hasB_false];have:=hasB_false.1 HA.out;simp only [List.mem_append,List.mem_singleton];rintro (h | h);exact this h;exact hx h⟩
    case measure=>simp [intOf];omega
  ·go_wp2;go_ret;exact ⟨IdxSign.no (by have:=HA.out;rwa [List.take_of_length_le (by omega)] at this),rfl⟩
theorem contains_any (A:Option Addr) (l:List Int) (c:Nat) (x:Int) (w:World) (hA:Ints w A l) :
  Calls Tryz.prog 38 #[.slice A l.length c,.int .i64 x] w fun e w'=>e = .returned (.bool (hasB l x)) /\ w = w':=by
 go_enter Tryz.func38,Tryz.ntmps38;go_wp2_with (go_at_call 90;refine (index_any _ _ _ _ _ hA).mono ?_;rintro e w' ⟨⟨n,rfl,hn⟩,rfl⟩;have HN:=Lib.hid hn;clear hn)
 go_ret;exact ⟨ret_bool (by have:=HN.out;cases h:hasB l x <;> simp_all),rfl⟩
def AsksB (K:FuncId) (v:Value) (w:World) (arg:Value) (b:Bool):Prop :=
 ∀ u:Later w,Calls Tryz.prog K #[v,arg] (w.lat u) fun e w'=>e = .returned (.bool b) /\ Aft (w.lat u) w'
set_option maxHeartbeats 800000 in
theorem indexFunc_int {α:Type} (R:World -> α -> List Value -> Prop) (K:FuncId) (cap:List Value) (p:α -> Bool) (A:Option Addr) (l:List α) (c:Nat) (w:World) (hA:RowsP w A 1 R l)
  (hK:∀ args w,(callFunc K args).run Tryz.prog w = .ok (.enter K args) w)
  (hp:∀ x ∈ l,∀ v0,R w x [v0] -> Asks Tryz.prog K cap w v0 (p x)) :
  Calls Tryz.prog 95 #[.slice A l.length c,.func (.func K) #[] cap.toArray] w fun e w'=>IdxRes p l e /\ Aft w w':=by
 have hl:=hA.len (by decide);have HP:=Lib.hid hp;clear hp;go_enter Tryz.func95,Tryz.ntmps95;go_wp2;go_loopw [8] (fun i wr=>∃ k:Nat,i = .int .i64 k /\ k <= l.length /\ (l.take k).any p = false /\ Aft w wr) (fun i _=>l.length - (intOf i).toNat)
 case atStart=>exact ⟨0,rfl,by omega,by simp,Aft.refl _⟩
 case round =>
  obtain ⟨k,rfl,hk,hany,u,rfl⟩:=hrel;have HA:=Lib.hid hany;clear hany;by_cases hlt:k < l.length
  ·obtain ⟨b,o,rfl,hbw,hc⟩:=hA.at hlt;obtain ⟨vs,hv1,hv2,hv3⟩:=hc k hlt;obtain ⟨v0,rfl⟩:∃ v0,vs = [v0]:=by match vs,hv1 with | [v0],_=>exact ⟨v0,rfl⟩
   have hc0:=hv3 0 (by simp);simp only [Nat.mul_one,Nat.add_zero,List.getElem_cons_zero] at hc0;have hpk:=HP.out l[k] (List.getElem_mem hlt) v0 hv2 u;clear hc hv3 hv2;cases hb:p l[k]
   ·have HB:=Lib.hid hb;clear hb;rw [HB.out] at hpk;go_wp2_with (refine hpk.mono ?_;rintro e w' ⟨rfl,u1,rfl⟩;clear hpk)
    go_roundw
    case rel=>exact ⟨k + 1,by go_num,by omega,by rw [any_take_succ _ _ _ hlt,HA.out,HB.out];rfl,_,rfl⟩
    case measure=>simp [intOf];omega
   ·have HB:=Lib.hid hb;clear hb;rw [HB.out] at hpk;go_wp2_with (refine hpk.mono ?_;rintro e w' ⟨rfl,u1,rfl⟩;clear hpk)
    go_ret;exact ⟨.inr ⟨k,hlt,rfl,HB.out,HA.out⟩,_,rfl⟩
  ·go_wp2;go_ret;exact ⟨.inl ⟨rfl,by have:=HA.out;rwa [List.take_of_length_le (by omega)] at this⟩,_,rfl⟩
set_option maxHeartbeats 800000 in
theorem indexFunc_bound {α:Type} (R:World -> α -> List Value -> Prop) (K:FuncId) (v:Value) (p:α -> Bool) (A:Option Addr) (l:List α) (c:Nat) (w:World) (hA:RowsP w A 1 R l)
  (hK:∀ args w,(callFunc K args).run Tryz.prog w = .ok (.enter K args) w)
  (hp:∀ x ∈ l,∀ v0,R w x [v0] -> AsksB K v w v0 (p x)) :
  Calls Tryz.prog 95 #[.slice A l.length c,.func (.func K) #[v] #[]] w fun e w'=>IdxRes p l e /\ Aft w w':=by
 have hl:=hA.len (by decide);have HP:=Lib.hid hp;clear hp;go_enter Tryz.func95,Tryz.ntmps95;go_wp2;go_loopw [8] (fun i wr=>∃ k:Nat,i = .int .i64 k /\ k <= l.length /\ (l.take k).any p = false /\ Aft w wr) (fun i _=>l.length - (intOf i).toNat)
 case atStart=>exact ⟨0,rfl,by omega,by simp,Aft.refl _⟩
 case round =>
  obtain ⟨k,rfl,hk,hany,u,rfl⟩:=hrel;have HA:=Lib.hid hany;clear hany;by_cases hlt:k < l.length
  ·obtain ⟨b,o,rfl,hbw,hc⟩:=hA.at hlt;obtain ⟨vs,hv1,hv2,hv3⟩:=hc k hlt;obtain ⟨v0,rfl⟩:∃ v0,vs = [v0]:=by match vs,hv1 with | [v0],_=>exact ⟨v0,rfl⟩
   have hc0:=hv3 0 (by simp);simp only [Nat.mul_one,Nat.add_zero,List.getElem_cons_zero] at hc0;have hpk:=HP.out l[k] (List.getElem_mem hlt) v0 hv2 u;clear hc hv3 hv2;cases hb:p l[k]
   ·have HB:=Lib.hid hb;clear hb;rw [HB.out] at hpk;go_wp2_with (refine hpk.mono ?_;rintro e w' ⟨rfl,u1,rfl⟩;clear hpk)
    go_roundw
    case rel=>exact ⟨k + 1,by go_num,by omega,by rw [any_take_succ _ _ _ hlt,HA.out,HB.out];rfl,_,rfl⟩
    case measure=>simp [intOf];omega
   ·have HB:=Lib.hid hb;clear hb;rw [HB.out] at hpk;go_wp2_with (refine hpk.mono ?_;rintro e w' ⟨rfl,u1,rfl⟩;clear hpk)
    go_ret;exact ⟨.inr ⟨k,hlt,rfl,HB.out,HA.out⟩,_,rfl⟩
  ·go_wp2;go_ret;exact ⟨.inl ⟨rfl,by have:=HA.out;rwa [List.take_of_length_le (by omega)] at this⟩,_,rfl⟩
set_option maxHeartbeats 800000 in
theorem indexFunc_strike {α:Type} (R:World -> α -> List Value -> Prop) (K:FuncId) (cap:List Value) (p:α -> Bool) (A:Option Addr) (l:List α) (c:Nat) (w:World) (hA:RowsP w A 2 R l)
  (hK:∀ args w,(callFunc K args).run Tryz.prog w = .ok (.enter K args) w)
  (hp:∀ x ∈ l,∀ v0 v1,R w x [v0,v1] -> Asks Tryz.prog K cap w (.agg #[v0,v1]) (p x)) :
  Calls Tryz.prog 129 #[.slice A l.length c,.func (.func K) #[] cap.toArray] w fun e w'=>IdxRes p l e /\ Aft w w':=by
 have hl:=hA.len (by decide);have HP:=Lib.hid hp;clear hp;go_enter Tryz.func129,Tryz.ntmps129;go_wp2;go_loopw [8] (fun i wr=>∃ k:Nat,i = .int .i64 k /\ k <= l.length /\ (l.take k).any p = false /\ Aft w wr) (fun i _=>l.length - (intOf i).toNat)
 case atStart=>exact ⟨0,rfl,by omega,by simp,Aft.refl _⟩
 case round =>
  obtain ⟨k,rfl,hk,hany,u,rfl⟩:=hrel;have HA:=Lib.hid hany;clear hany;by_cases hlt:k < l.length
  ·obtain ⟨b,o,rfl,hbw,hc⟩:=hA.at hlt;obtain ⟨vs,hv1,hv2,hv3⟩:=hc k hlt;obtain ⟨v0,v1,rfl⟩:∃ v0 v1,vs = [v0,v1]:=by match vs,hv1 with | [v0,v1],_=>exact ⟨v0,v1,rfl⟩
   have hc0:=hv3 0 (by simp);have hc1:=hv3 1 (by simp);simp only [Nat.add_zero,List.getElem_cons_zero,List.getElem_cons_succ] at hc0 hc1;have hpk:=HP.out l[k] (List.getElem_mem hlt) v0 v1 hv2 u;clear hc hv3 hv2;cases hb:p l[k]
   ·have HB:=Lib.hid hb;clear hb;rw [HB.out] at hpk;go_wp2_with (refine hpk.mono ?_;rintro e w' ⟨rfl,u1,rfl⟩;clear hpk)
    go_roundw
    case rel=>exact ⟨k + 1,by go_num,by omega,by rw [any_take_succ _ _ _ hlt,HA.out,HB.out];rfl,_,rfl⟩
    case measure=>simp [intOf];omega
   ·have HB:=Lib.hid hb;clear hb;rw [HB.out] at hpk;go_wp2_with (refine hpk.mono ?_;rintro e w' ⟨rfl,u1,rfl⟩;clear hpk)
    go_ret;exact ⟨.inr ⟨k,hlt,rfl,HB.out,HA.out⟩,_,rfl⟩
  ·go_wp2;go_ret;exact ⟨.inl ⟨rfl,by have:=HA.out;rwa [List.take_of_length_le (by omega)] at this⟩,_,rfl⟩
set_option maxHeartbeats 800000 in
theorem indexFunc_lists {α:Type} (R:World -> α -> List Value -> Prop) (K:FuncId) (cap:List Value) (p:α -> Bool) (A:Option Addr) (l:List α) (c:Nat) (w:World) (hA:RowsP w A 1 R l)
  (hK:∀ args w,(callFunc K args).run Tryz.prog w = .ok (.enter K args) w)
  (hp:∀ x ∈ l,∀ v0,R w x [v0] -> Asks Tryz.prog K cap w v0 (p x)) :
  Calls Tryz.prog 97 #[.slice A l.length c,.func (.func K) #[] cap.toArray] w fun e w'=>IdxRes p l e /\ Aft w w':=by
 have hl:=hA.len (by decide);have HP:=Lib.hid hp;clear hp;go_enter Tryz.func97,Tryz.ntmps97;go_wp2;go_loopw [8] (fun i wr=>∃ k:Nat,i = .int .i64 k /\ k <= l.length /\ (l.take k).any p = false /\ Aft w wr) (fun i _=>l.length - (intOf i).toNat)
 case atStart=>exact ⟨0,rfl,by omega,by simp,Aft.refl _⟩
 case round =>
  obtain ⟨k,rfl,hk,hany,u,rfl⟩:=hrel;have HA:=Lib.hid hany;clear hany;by_cases hlt:k < l.length
  ·obtain ⟨b,o,rfl,hbw,hc⟩:=hA.at hlt;obtain ⟨vs,hv1,hv2,hv3⟩:=hc k hlt;obtain ⟨v0,rfl⟩:∃ v0,vs = [v0]:=by match vs,hv1 with | [v0],_=>exact ⟨v0,rfl⟩
   have hc0:=hv3 0 (by simp);simp only [Nat.mul_one,Nat.add_zero,List.getElem_cons_zero] at hc0;have hpk:=HP.out l[k] (List.getElem_mem hlt) v0 hv2 u;clear hc hv3 hv2;cases hb:p l[k]
   ·have HB:=Lib.hid hb;clear hb;rw [HB.out] at hpk;go_wp2_with (refine hpk.mono ?_;rintro e w' ⟨rfl,u1,rfl⟩;clear hpk)
    go_roundw
    case rel=>exact ⟨k + 1,by go_num,by omega,by rw [any_take_succ _ _ _ hlt,HA.out,HB.out];rfl,_,rfl⟩
    case measure=>simp [intOf];omega
   ·have HB:=Lib.hid hb;clear hb;rw [HB.out] at hpk;go_wp2_with (refine hpk.mono ?_;rintro e w' ⟨rfl,u1,rfl⟩;clear hpk)
    go_ret;exact ⟨.inr ⟨k,hlt,rfl,HB.out,HA.out⟩,_,rfl⟩
  ·go_wp2;go_ret;exact ⟨.inl ⟨rfl,by have:=HA.out;rwa [List.take_of_length_le (by omega)] at this⟩,_,rfl⟩
set_option maxHeartbeats 400000 in
theorem contains_int {α:Type} (R:World -> α -> List Value -> Prop) (K:FuncId) (cap:List Value) (p:α -> Bool) (A:Option Addr) (l:List α) (c:Nat) (w:World) (hA:RowsP w A 1 R l)
  (hK:∀ args w,(callFunc K args).run Tryz.prog w = .ok (.enter K args) w)
  (hp:∀ x ∈ l,∀ v0,R w x [v0] -> Asks Tryz.prog K cap w v0 (p x)) :
  Calls Tryz.prog 111 #[.slice A l.length c,.func (.func K) #[] cap.toArray] w fun e w'=>e = .returned (.bool (l.any p)) /\ Aft w w':=by
 go_enter Tryz.func111,Tryz.ntmps111;go_wp2_with (go_at_call 95;refine (indexFunc_int R K cap p A l c w hA hK hp).mono ?_;rintro e w' ⟨hr,u,rfl⟩;obtain ⟨n,rfl,hn⟩:=hr.sign;clear hr;have HN:=Lib.hid hn;clear hn)
 go_ret;exact ⟨ret_bool (by have:=HN.out;cases h:l.any p <;> simp_all),u,rfl⟩
set_option maxHeartbeats 400000 in
theorem none_int {α:Type} (R:World -> α -> List Value -> Prop) (K:FuncId) (cap:List Value) (p:α -> Bool) (A:Option Addr) (l:List α) (c:Nat) (w:World) (hA:RowsP w A 1 R l)
  (hK:∀ args w,(callFunc K args).run Tryz.prog w = .ok (.enter K args) w)
  (hp:∀ x ∈ l,∀ v0,R w x [v0] -> Asks Tryz.prog K cap w v0 (p x)) :
  Calls Tryz.prog 85 #[.slice A l.length c,.func (.func K) #[] cap.toArray] w fun e w'=>e = .returned (.bool (!l.any p)) /\ Aft w w':=by
 go_enter Tryz.func85,Tryz.ntmps85;go_wp2_with (go_at_call 111;refine (contains_int R K cap p A l c w hA hK hp).mono ?_;rintro e w' ⟨rfl,u,rfl⟩)
 go_ret;exact ⟨rfl,u,rfl⟩
set_option maxHeartbeats 400000 in
theorem contains_bound {α:Type} (R:World -> α -> List Value -> Prop) (K:FuncId) (v:Value) (p:α -> Bool) (A:Option Addr) (l:List α) (c:Nat) (w:World) (hA:RowsP w A 1 R l)
  (hK:∀ args w,(callFunc K args).run Tryz.prog w = .ok (.enter K args) w)
  (hp:∀ x ∈ l,∀ v0,R w x [v0] -> AsksB K v w v0 (p x)) :
  Calls Tryz.prog 111 #[.slice A l.length c,.func (.func K) #[v] #[]] w fun e w'=>e = .returned (.bool (l.any p)) /\ Aft w w':=by
 go_enter Tryz.func111,Tryz.ntmps111;go_wp2_with (go_at_call 95;refine (indexFunc_bound R K v p A l c w hA hK hp).mono ?_;rintro e w' ⟨hr,u,rfl⟩;obtain ⟨n,rfl,hn⟩:=hr.sign;clear hr;have HN:=Lib.hid hn;clear hn)
 go_ret;exact ⟨ret_bool (by have:=HN.out;cases h:l.any p <;> simp_all),u,rfl⟩
set_option maxHeartbeats 400000 in
theorem none_bound {α:Type} (R:World -> α -> List Value -> Prop) (K:FuncId) (v:Value) (p:α -> Bool) (A:Option Addr) (l:List α) (c:Nat) (w:World) (hA:RowsP w A 1 R l)
  (hK:∀ args w,(callFunc K args).run Tryz.prog w = .ok (.enter K args) w)
  (hp:∀ x ∈ l,∀ v0,R w x [v0] -> AsksB K v w v0 (p x)) :
  Calls Tryz.prog 85 #[.slice A l.length c,.func (.func K) #[v] #[]] w fun e w'=>e = .returned (.bool (!l.any p)) /\ Aft w w':=by
 go_enter Tryz.func85,Tryz.ntmps85;go_wp2_with (go_at_call 111;refine (contains_bound R K v p A l c w hA hK hp).mono ?_;rintro e w' ⟨rfl,u,rfl⟩)
 go_ret;exact ⟨rfl,u,rfl⟩
set_option maxHeartbeats 400000 in
theorem contains_strike {α:Type} (R:World -> α -> List Value -> Prop) (K:FuncId) (cap:List Value) (p:α -> Bool) (A:Option Addr) (l:List α) (c:Nat) (w:World) (hA:RowsP w A 2 R l)
  (hK:∀ args w,(callFunc K args).run Tryz.prog w = .ok (.enter K args) w)
  (hp:∀ x ∈ l,∀ v0 v1,R w x [v0,v1] -> Asks Tryz.prog K cap w (.agg #[v0,v1]) (p x)) :
  Calls Tryz.prog 110 #[.slice A l.length c,.func (.func K) #[] cap.toArray] w fun e w'=>e = .returned (.bool (l.any p)) /\ Aft w w':=by
 go_enter Tryz.func110,Tryz.ntmps110;go_wp2_with (go_at_call 129;refine (indexFunc_strike R K cap p A l c w hA hK hp).mono ?_;rintro e w' ⟨hr,u,rfl⟩;obtain ⟨n,rfl,hn⟩:=hr.sign;clear hr;have HN:=Lib.hid hn;clear hn)
 go_ret;exact ⟨ret_bool (by have:=HN.out;cases h:l.any p <;> simp_all),u,rfl⟩
set_option maxHeartbeats 400000 in
theorem none_strike {α:Type} (R:World -> α -> List Value -> Prop) (K:FuncId) (cap:List Value) (p:α -> Bool) (A:Option Addr) (l:List α) (c:Nat) (w:World) (hA:RowsP w A 2 R l)
  (hK:∀ args w,(callFunc K args).run Tryz.prog w = .ok (.enter K args) w)
  (hp:∀ x ∈ l,∀ v0 v1,R w x [v0,v1] -> Asks Tryz.prog K cap w (.agg #[v0,v1]) (p x)) :
  Calls Tryz.prog 83 #[.slice A l.length c,.func (.func K) #[] cap.toArray] w fun e w'=>e = .returned (.bool (!l.any p)) /\ Aft w w':=by
 go_enter Tryz.func83,Tryz.ntmps83;go_wp2_with (go_at_call 110;refine (contains_strike R K cap p A l c w hA hK hp).mono ?_;rintro e w' ⟨rfl,u,rfl⟩)
 go_ret;exact ⟨rfl,u,rfl⟩
set_option maxHeartbeats 400000 in
theorem contains_lists {α:Type} (R:World -> α -> List Value -> Prop) (K:FuncId) (cap:List Value) (p:α -> Bool) (A:Option Addr) (l:List α) (c:Nat) (w:World) (hA:RowsP w A 1 R l)
  (hK:∀ args w,(callFunc K args).run Tryz.prog w = .ok (.enter K args) w)
  (hp:∀ x ∈ l,∀ v0,R w x [v0] -> Asks Tryz.prog K cap w v0 (p x)) :
  Calls Tryz.prog 50 #[.slice A l.length c,.func (.func K) #[] cap.toArray] w fun e w'=>e = .returned (.bool (l.any p)) /\ Aft w w':=by
 go_enter Tryz.func50,Tryz.ntmps50;go_wp2_with (go_at_call 97;refine (indexFunc_lists R K cap p A l c w hA hK hp).mono ?_;rintro e w' ⟨hr,u,rfl⟩;obtain ⟨n,rfl,hn⟩:=hr.sign;clear hr;have HN:=Lib.hid hn;clear hn)
 go_ret;exact ⟨ret_bool (by have:=HN.out;cases h:l.any p <;> simp_all),u,rfl⟩
set_option maxHeartbeats 400000 in
theorem none_lists {α:Type} (R:World -> α -> List Value -> Prop) (K:FuncId) (cap:List Value) (p:α -> Bool) (A:Option Addr) (l:List α) (c:Nat) (w:World) (hA:RowsP w A 1 R l)
  (hK:∀ args w,(callFunc K args).run Tryz.prog w = .ok (.enter K args) w)
  (hp:∀ x ∈ l,∀ v0,R w x [v0] -> Asks Tryz.prog K cap w v0 (p x)) :
  Calls Tryz.prog 78 #[.slice A l.length c,.func (.func K) #[] cap.toArray] w fun e w'=>e = .returned (.bool (!l.any p)) /\ Aft w w':=by
 go_enter Tryz.func78,Tryz.ntmps78;go_wp2_with (go_at_call 50;refine (contains_lists R K cap p A l c w hA hK hp).mono ?_;rintro e w' ⟨rfl,u,rfl⟩)
 go_ret;exact ⟨rfl,u,rfl⟩
end Go.Proofs
end
section
/- Walks: slices that are cloned,compared,turned round,and what is deleted of them. -/
namespace Go.Proofs
open Go.RowKit
theorem ty24:SliceTy Tryz.prog 33 3 1 8:=.mk' (z:=.int .i64 0) Tryz.underlying33 (by kernel_rfl) rfl (by decide)
def OwnInts (w0:World) (l:List Int) (e:Ending) (w':World):Prop:=∃ v,e = .returned v /\ w'.ownsRow w0.heap.size 3 1 v l.length (l.map (Value.int .i64)) /\ Aft w0 w'
theorem ints_src {w:World} {A:Option Addr} {l:List Int} (h:Ints w A l):∀ ad,A = some ad -> ∀ j u,(l.map (Value.int .i64))[j]? = some u -> w.cell? (ad.add j) = some u:=by
 intro ad e j u hj;have hlt:j < l.length:=by have:=(List.getElem?_eq_some_iff.1 hj).1;simpa using this
 obtain ⟨b,o,e2,_,hc⟩:=h.at hlt;rw [e] at e2;cases e2;rw [Addr.add_lit,hc j hlt];simp [hlt] at hj;simp [hj]
theorem ints_nil {w:World} {A:Option Addr} {l:List Int} (h:Ints w A l) (e:A = none):l.length = 0:=by
 rcases Nat.eq_zero_or_pos l.length with h0 | h0
 ·exact h0
 ·obtain ⟨b,o,e2,_⟩:=h.at h0;rw [e] at e2;cases e2
theorem ints_one (l:List Int):∀ u ∈ l.map (Value.int .i64),u.oneCell' = true:=by
 intro u hu;obtain ⟨x,_,rfl⟩:=List.mem_map.1 hu;rfl
theorem kitClone_int (A:Option Addr) (l:List Int) (c:Nat) (w:World) (hA:Ints w A l) :
  Calls Tryz.prog 24 #[.slice A l.length c] w (OwnInts w l):=by
 have hl:=hA.len;go_enter Tryz.func24,Tryz.ntmps24;go_wp2_with (at_builtin;refine wpList_app ty24 rfl _ _ rfl (Aft.refl w) rfl (World.ownsRow_nil w _ 3 1) rfl (by simp) (ints_nil hA) (ints_src hA) (ints_one l) (by omega) (by decide) ?_;intro v' w1 hown' hgrow haft)
 go_ret;exact ⟨_,rfl,by simpa using hown',haft⟩
theorem clone84 (A:Option Addr) (l:List Int) (c:Nat) (w:World) (hA:Ints w A l) :
  Calls Tryz.prog 63 #[.slice A l.length c] w (OwnInts w l):=by
 have hl:=hA.len;have qT:∀ (w:World) (a:Option Addr) (n c n' c':Nat),(binOp .eql 33 (.slice a n c) (.slice none n' c')).run Tryz.prog w = .ok (.bool a.isNone) w:=fun w a n c n' c'=>Lib.run_eql_slice_nil w _ _ a n c n' c' Tryz.underlying33
 cases A with
 | none =>
  have h0:=ints_nil hA rfl;have:l = []:=List.eq_nil_of_length_eq_zero h0;subst this;go_enter Tryz.func63,Tryz.ntmps63;go_wp2;go_ret;exact ⟨_,rfl,World.ownsRow_nil w _ 3 1,Aft.refl _⟩
 | some ad =>
  have hN:=Lib.hid (ints_src hA);go_enter Tryz.func63,Tryz.ntmps63;go_wp2_with (at_builtin;refine wpList_app ty24 rfl _ _ rfl (Aft.alloc w _) rfl (World.ownsRow_made w #[] 0 (Nat.le_refl _) (by unfold maxLen;omega) rfl) rfl (by simp) (fun h=>by cases h) (ints_src (hA.aft (Aft.alloc w _))) (ints_one l) (by omega) (by decide) ?_;intro v' w1 hown' hgrow haft)
  go_ret;exact ⟨_,rfl,by simpa using hown',haft⟩
def eqB {α:Type} [DecidableEq α] (a b:List α):Bool:=decide (a = b)
theorem eq_of_steps {α:Type} [DecidableEq α] (a b:List α) (h:∀ i,(ha:i < a.length) -> (hb:i < b.length) -> a[i] = b[i]) (hl:a.length = b.length):a = b :=
 List.ext_getElem hl h
set_option maxHeartbeats 1000000 in
theorem kitEqual_int (A A':Option Addr) (l l':List Int) (c c':Nat) (w:World) (hA:Ints w A l) (hA':Ints w A' l') :
  Calls Tryz.prog 17 #[.slice A l.length c,.slice A' l'.length c'] w fun e w'=>e = .returned (.bool (eqB l l')) /\ Aft w w':=by
 have hl:=hA.len;have hl':=hA'.len;go_enter Tryz.func17,Tryz.ntmps17;go_wp2;go_loopw [8] (fun i wr=>∃ k:Nat,i = .int .i64 k /\ k <= l.length /\ (k <= l'.length) /\ (∀ j,(h:j < l.length) -> (h':j < l'.length) -> j < k -> l[j] = l'[j]) /\ ∃ n,wr = w.drewN n) (fun i _=>l.length - (intOf i).toNat)
 case atStart=>exact ⟨0,rfl,by omega,by omega,fun j _ _ h=>by omega,0,rfl⟩
 case round =>
  obtain ⟨k,rfl,hk,hk',hlt,n,rfl⟩:=hrel;have HL:=Lib.hid hlt;clear hlt;by_cases hkl:k < l.length
  ·obtain ⟨b,o,rfl,hb,hc⟩:=hA.at hkl;have h1:w.cell? ⟨b,o + k,none⟩ = some (.int .i64 l[k]):=hc k hkl;clear hc;by_cases hkl':k < l'.length
   ·obtain ⟨b',o',rfl,hb',hc'⟩:=hA'.at hkl';have h1':w.cell? ⟨b',o' + k,none⟩ = some (.int .i64 l'[k]):=hc' k hkl';clear hc';have d1:decide ((l'.length:Int) <= k) = false:=by simp;omega
    go_wp2;go_quiet (fail);clear d1;go_wp2
    ·have h3:¬ l[k] = l'[k]:=by rcases (by assumption:l'.length <= k \/ (l[k] != l'[k]) = true) with h | h;omega;simpa using h
     go_ret;exact ⟨ret_bool (by unfold eqB;rw [eq_comm,decide_eq_false_iff_not];rintro rfl;exact h3 rfl),(Aft.drewN _ _).then_drewN _⟩
    ·have h3:l[k] = l'[k]:=by simp_all
     have H3:=Lib.hid h3;clear h3;go_roundw
     case rel =>
      refine ⟨k + 1,by go_num,by omega,by omega,fun j hj hj' hjk=>?_,_,rfl⟩;by_cases e:j = k
      ·subst e;exact H3.out
      ·exact HL.out j hj hj' (by omega)
     case measure=>simp [intOf];omega
   ·have d1:decide ((l'.length:Int) <= k) = true:=by simp;omega
    go_wp2;go_quiet (fail);clear d1;go_wp2;go_ret;exact ⟨ret_bool (by unfold eqB;rw [eq_comm,decide_eq_false_iff_not];rintro rfl;omega),Aft.drewN _ _⟩
  ·go_wp2;go_ret;refine ⟨ret_bool ?_,Aft.drewN _ _⟩;unfold eqB;by_cases e:l.length = l'.length
   ·rw [beq_iff_eq.2 (by omega),decide_eq_true];exact eq_of_steps l l' (fun i ha hb=>HL.out i ha hb (by omega)) e
   ·rw [beq_eq_false_iff_ne.2 (by omega),decide_eq_false];intro h;exact e (by rw [h])
end Go.Proofs
end
section
/- A region that draws its order and ends in a store,by the quick step of a quiet walk. -/
namespace Go
theorem Oper.still_of_quiet {P:Program} {o:Oper} {a:Act} {w:World} {K:Act -> Prop} (h:o.quiet P a (fun w'=>w' = w) K):o.still P a w K:=by
 obtain ⟨v,h1,h2⟩:=h;have h3:=h1 w rfl;unfold Oper.quietAt at h3;unfold Oper.still;generalize (execOp a.eval o).run P w = r at *
 cases r with
 | ok n w' =>
  cases n <;> simp only [Oper.quietUpon] at h3 <;> simp only [Oper.stillUpon]
  case value u=>obtain ⟨e1,e2⟩:=h3;exact ⟨e1,by rw [e2];exact h2⟩
  case skip=>obtain ⟨e1,e2⟩:=h3;exact ⟨e1,by rw [<- e2];exact h2⟩
  case enter f args=>obtain ⟨e1,hc⟩:=h3;exact ⟨e1,v,hc,h2⟩
 | halt x w'=>simp only [Oper.quietUpon] at h3
theorem wpStill_of_quiet {P:Program} {ops:Array Oper} {w:World} {Q:Act -> Prop}:∀ (l:List Oper) (a:Act),wpQuiet P ops (fun w'=>w' = w) Q l a -> wpStill P ops w Q l a
 | [],_,h=>h
 | o :: rest,a,h=>by
  unfold wpQuiet at h;unfold wpStill;split
  ·rename_i hw
   rw [if_pos hw] at h;exact Oper.still_mono (fun a' h'=>wpStill_of_quiet rest a' h') (Oper.still_of_quiet h)
  ·rename_i hw
   rw [if_neg hw] at h;exact wpStill_of_quiet rest _ h
theorem wp_region_tail {P:Program} {id:Nat} {Q:Exit -> Act -> World -> Prop} {a:Act} {w:World} {l:List Oper} (n:Nat) (hm:P.follows .mixedOrders = true) (hB:Region.lexTailB .any l.toArray n = true)
  (h:wpQuiet P l.toArray (fun w'=>w' = w.drew) (fun a'=>wpList P l.toArray Q (l.drop n) a' w.drew) (l.take n) a):(Code.region id l.toArray true).wp P Q a w :=
 wp_region_still_tail n hm hB (wpStill_of_quiet _ _ h)
end Go
end
section
/- Lists of lists of numbers. -/
namespace Go.Proofs
open Go.RowKit
def ListR:World -> List Int -> List Value -> Prop:=fun w l vs=>∃ A c,vs = [.slice A l.length c] /\ Ints w A l
theorem ListR.mono:MonoR ListR:=fun _ u _ _ ⟨A,c,h1,h2⟩=>⟨A,c,h1,h2.lat u⟩
def Lists (w:World) (A:Option Addr) (l:List (List Int)):Prop:=RowsP w A 1 ListR l
theorem Lists.lat {w:World} {A:Option Addr} {l:List (List Int)} (h:Lists w A l) (u:Later w):Lists (w.lat u) A l:=RowsP.lat ListR.mono h u
theorem Lists.aft {w w':World} {A:Option Addr} {l:List (List Int)} (h:Lists w A l) (hl:Aft w w'):Lists w' A l:=RowsP.aft ListR.mono h hl
theorem Lists.len {w:World} {A:Option Addr} {l:List (List Int)} (h:Lists w A l):l.length <= 17592186043904:=RowsP.len h (by decide)
theorem Lists.at {w:World} {A:Option Addr} {l:List (List Int)} (h:Lists w A l) {k:Nat} (hk:k < l.length) :
  ∃ b o,A = some ⟨b,o,none⟩ /\ b < w.heap.size /\ ∀ i,(h:i < l.length) -> ∃ A' c',w.cell? ⟨b,o + i,none⟩ = some (.slice A' l[i].length c') /\ Ints w A' l[i]:=by
 obtain ⟨b,o,rfl,hb,hc⟩:=RowsP.at h hk;refine ⟨b,o,rfl,hb,fun i hi=>?_⟩;obtain ⟨vs,h1,⟨A',c',rfl,h2⟩,h3⟩:=hc i hi;exact ⟨A',c',by simpa using h3 0 (by simp),h2⟩
end Go.Proofs
end
section
/- More words for memory. -/
namespace Go
open Go.RowKit
theorem wpList_app_at {P:Program} {w:World} {ops:Array Oper} {rest:List Oper} {o:Oper} {a:Act} {Q:Exit -> Act -> World -> Prop} {t e:TypeId} {size bytes:Nat} (hT:SliceTy P t e size bytes)
  (hgd:o.guard = none) (s x:Operand) (ho:o.op = .call { callee:=.builtin .append,args:=#[s,x],argTypes:=#[t,t] })
  {base:Nat} (hbase:base <= w.heap.size) {v:Value} {n:Nat} {xs:List Value} (hs:a.eval s = v) (hown:w.ownsRow base e size v n xs)
  {A:Option Addr} {m c:Nat} {news:List Value} (hx:a.eval x = .slice A m c) (hl:news.length = m * size) (hA:A = none -> m = 0)
  (hnews:∀ ad,A = some ad -> ∀ j u,news[j]? = some u -> w.cell? (ad.add j) = some u) (h1:∀ u ∈ news,u.oneCell' = true)
  (hbytes:(n + m) * bytes <= 140737488355328) (hpos:0 < bytes)
  (h:∀ v' w',w'.ownsRow base e size v' (n + m) (xs ++ news) -> w.grownBy w' v.ownBlock -> wpList P ops Q rest (a.put o.dst v') w'):wpList P ops Q (o :: rest) a w:=by
 obtain ⟨ht,⟨i,z,hi,hz,hsize,hby,hzs⟩,hsz⟩:=hT
 have h63:n + m <= maxLen:=by
  have:(n + m) * 1 <= (n + m) * bytes:=Nat.mul_le_mul_left _ hpos;unfold maxLen;omega
 cases A with
 | some ad =>
  exact wpList_append_own w hgd s x t ho base e i z size bytes ht hi hz hsize hby hzs hsz v n xs hs hown ad m c news hx hl (hnews ad rfl) h1 h63 hbytes hbase
   fun v' w' h2 h3 _=>h v' w' h2 h3
 | none =>
  have hm:=hA rfl;subst hm;have hn:news = []:=List.eq_nil_of_length_eq_zero (by simpa using hl);subst hn;refine wpList_plain hgd fun K hK=>?_
  have hr:=run_app_none (ty:=o.type) ht hi hown c;unfold Oper.wp execOp;simp only [ho,resolve,invoke,builtin,Sem.run_bind,Sem.run_pure,Result.andThen_ok,List.map_toArray,List.map_cons,List.map_nil,hs,hx,hr];exact hK _ _ (h v w (by simpa using hown) (World.grownBy.refl w _))
theorem one_int (x:Int):∀ u ∈ [Value.int .i64 x],u.oneCell' = true:=by intro u hu;rw [List.mem_singleton] at hu;subst hu;rfl
theorem cell_grown9 {w w':World} {row:Option Nat} (hg:w.grownBy w' row) {b i:Nat} (hb:b < w.heap.size) (hr:some b ≠ row):w'.cell? ⟨b,i,none⟩ = w.cell? ⟨b,i,none⟩:=World.cell?_of_block (hg.block b hb hr)
end Go
end
section
/- Words for memory: a slice of slices of the call's own. -/
namespace Go.Proofs
open Go.RowKit
theorem ty41:SliceTy Tryz.prog 23 33 1 24:=.mk' (z:=.slice none 0 0) Tryz.underlying23 (by kernel_rfl) rfl (by decide)
structure OwnLs (W:World) (base:Nat) (v:Value) (vs:List Value) (ls:List (List Int)):Prop where
 own:W.ownsRow base 33 1 v ls.length vs
 rows:∀ i,(h:i < ls.length) -> (h':i < vs.length) -> W.ownsRow base 3 1 vs[i] ls[i].length (ls[i].map (Value.int .i64))
 apart:∀ i,(h:i < vs.length) -> ∀ g,vs[i].ownBlock = some g -> v.ownBlock ≠ some g /\ ∀ j,(h':j < vs.length) -> j ≠ i -> vs[j].ownBlock ≠ some g
def OwnLists (W:World) (base:Nat) (v:Value) (ls:List (List Int)):Prop:=∃ vs,OwnLs W base v vs ls
section
variable {W W':World} {base:Nat} {v:Value} {vs:List Value} {ls:List (List Int)}
theorem OwnLs.len (h:OwnLs W base v vs ls):vs.length = ls.length:=by simpa using h.own.1
theorem OwnLs.nil:OwnLs W base (.slice none 0 0) [] []:=⟨World.ownsRow_nil _ _ 33 1,fun i h=>by simp at h,fun i h=>by simp at h⟩
theorem OwnLs.aft (h:OwnLs W base v vs ls) (ha:Aft W W'):OwnLs W' base v vs ls :=
 ⟨own_aft h.own ha,fun i hi hi'=>own_aft (h.rows i hi hi') ha,h.apart⟩
theorem OwnLists.aft (h:OwnLists W base v ls) (ha:Aft W W'):OwnLists W' base v ls:=let ⟨vs,h⟩:=h;⟨vs,h.aft ha⟩
theorem OwnLs.mono (h:OwnLs W base v vs ls) {b:Nat} (hb:b <= base):OwnLs W b v vs ls :=
 ⟨World.ownsRow.mono h.own hb,fun i hi hi'=>World.ownsRow.mono (h.rows i hi hi') hb,h.apart⟩
theorem OwnLists.mono (h:OwnLists W base v ls) {b:Nat} (hb:b <= base):OwnLists W b v ls:=let ⟨vs,h⟩:=h;⟨vs,h.mono hb⟩
theorem OwnLs.push (h:OwnLs W base v vs ls) {W2 W3:World} (ha:Aft W W2) {r v':Value} {l:List Int} (hr:W2.ownsRow W.heap.size 3 1 r l.length (l.map (Value.int .i64))) (hbase:base <= W.heap.size)
  (hown:W3.ownsRow base 33 1 v' (ls.length + 1) (vs ++ [r])) (hg:W2.grownBy W3 v.ownBlock) (hat:v'.ownBlock = v.ownBlock \/ v'.ownBlock = some W2.heap.size):OwnLs W3 base v' (vs ++ [r]) (ls ++ [l]):=by
 have hlen:=h.len;have old:∀ i,(hi:i < vs.length) -> ∀ g,vs[i].ownBlock = some g -> g < W.heap.size:=fun i hi g hg=>((h.rows i (by omega) hi).lt g hg).2
 have vold:∀ g,v.ownBlock = some g -> g < W.heap.size:=fun g hg=>(h.own.lt g hg).2
 have rnew:∀ g,r.ownBlock = some g -> W.heap.size <= g /\ g < W2.heap.size:=fun g hg=>hr.lt g hg
 have hs:=ha.size;refine ⟨by simpa using hown,fun i hi hi'=>?_,fun i hi g hgi=>?_⟩
 ·by_cases e:i < vs.length
  ·rw [List.getElem_append_left e];have e':i < ls.length:=by omega
   simp only [List.getElem_append_left e'];refine (own_aft (h.rows i e' e) ha).kept hg ?_
   cases hb:vs[i].ownBlock with
   | none=>left;rfl
   | some g=>right;intro e2;exact (h.apart i e g hb).1 e2.symm
  ·have e2:i = vs.length:=by simp at hi';omega
   subst e2;have e3:vs.length = ls.length:=hlen;rw [List.getElem_append_right (Nat.le_refl _)];simp only [Nat.sub_self,List.getElem_cons_zero];have:(ls ++ [l])[vs.length]'hi = l:=by simp [e3]
   rw [this];refine World.ownsRow.mono (hr.kept hg ?_) hbase
   cases hb:r.ownBlock with
   | none=>left;rfl
   | some g=>right;intro e2;have:=vold g e2.symm;have:=(rnew g hb).1;omega
 ·by_cases e:i < vs.length
  ·rw [List.getElem_append_left e] at hgi;have hlt:=old i e g hgi;refine ⟨fun e2=>?_,fun j hj hne=>?_⟩
   ·rcases hat with h1 | h1
    ·rw [h1] at e2;exact (h.apart i e g hgi).1 e2
    ·rw [h1] at e2;cases e2;omega
   ·by_cases ej:j < vs.length
    ·rw [List.getElem_append_left ej];exact (h.apart i e g hgi).2 j ej hne
    ·have e2:j = vs.length:=by simp at hj;omega
     subst e2;rw [List.getElem_append_right (Nat.le_refl _)];simp only [Nat.sub_self,List.getElem_cons_zero];intro e2;have:=(rnew g e2).1;omega
  ·have e2:i = vs.length:=by simp at hi;omega
   subst e2;rw [List.getElem_append_right (Nat.le_refl _)] at hgi;simp only [Nat.sub_self,List.getElem_cons_zero] at hgi;have:=rnew g hgi;refine ⟨fun e2=>?_,fun j hj hne=>?_⟩
   ·rcases hat with h1 | h1
    ·rw [h1] at e2;have:=vold g e2;omega
    ·rw [h1] at e2;cases e2;omega
   ·have ej:j < vs.length:=by simp at hj;omega
    rw [List.getElem_append_left ej];intro e2;have:=old j ej g e2;omega
theorem OwnLs.lists (h:OwnLs W base v vs ls) (hl:ls.length <= 17592186043904) (hr:∀ l ∈ ls,l.length <= 17592186043904):∃ A c,v = .slice A ls.length c /\ ls.length <= c /\ Lists W A ls:=by
 rcases h.own.2 with ⟨rfl,h0⟩ | ⟨g,cap,cur,rfl,hg,hh,hc,hm,hs,ht⟩
 ·have:ls = []:=List.eq_nil_of_length_eq_zero h0;subst this;exact ⟨none,0,rfl,Nat.le_refl _,by simp,.inl rfl⟩
 ·refine ⟨_,cap,rfl,hc,by omega,.inr ⟨g,0,rfl,(Array.getElem?_eq_some_iff.1 hh).1,fun i hi=>?_⟩⟩;have hiv:i < vs.length:=by rw [h.len];exact hi
  obtain ⟨A,c,e,_,hi2⟩:=own_ints (h.rows i hi hiv) (hr _ (List.getElem_mem hi));refine ⟨[vs[i]],rfl,⟨A,c,by rw [e],hi2⟩,fun j hj=>?_⟩;have:=h.own.cells (g:=g) rfl i vs[i] (by simp [hiv]);rw [Addr.add_lit] at this;simp at hj;subst hj;simpa using this
theorem OwnLists.lists (h:OwnLists W base v ls) (hl:ls.length <= 17592186043904) (hr:∀ l ∈ ls,l.length <= 17592186043904):∃ A c,v = .slice A ls.length c /\ ls.length <= c /\ Lists W A ls:=let ⟨_,h⟩:=h;h.lists hl hr
end
theorem wpList_app_list {w:World} {ops:Array Oper} {rest:List Oper} {o:Oper} {a:Act} {Q:Exit -> Act -> World -> Prop}
  (hgd:o.guard = none) (s x:Operand) (ho:o.op = .call { callee:=.builtin .append,args:=#[s,x],argTypes:=#[23,23] })
  {base:Nat} {v:Value} {vs:List Value} {ls:List (List Int)} {W:World} (h:OwnLs W base v vs ls) (hbase:base <= W.heap.size) (hs:a.eval s = v)
  {r:Value} {l:List Int} {c:Nat} {b:Nat} (hx:a.eval x = .slice (some ⟨b,0,none⟩) 1 c) (hb:w.cell? ⟨b,0,none⟩ = some r) (h1:r.oneCell' = true)
  (ha:Aft W w) (hr:w.ownsRow W.heap.size 3 1 r l.length (l.map (Value.int .i64))) (hl:ls.length <= 1000000)
  (hn:∀ v' vs' w',OwnLs w' base v' vs' (ls ++ [l]) -> w.grownBy w' v.ownBlock -> wpList Tryz.prog ops Q rest (a.put o.dst v') w'):wpList Tryz.prog ops Q (o :: rest) a w:=by
 obtain ⟨ht,⟨i,z,hi,hz,hsize,hby,hzs⟩,hsz⟩:=ty41;refine wpList_append_own_at (w:=w) hgd s x 23 ho base 33 i z 1 24 ht hi hz hsize hby hzs hsz v ls.length vs hs (own_aft h.own ha) ⟨b,0,none⟩ 1 c [r] hx rfl (fun j u hj=>?_) (fun u hu=>by rw [List.mem_singleton] at hu;subst hu;exact h1)
  (by unfold maxLen;omega) (by omega) (Nat.le_trans hbase ha.size) fun v' w' h2 h3 _ h5=>hn v' _ w' (h.push ha hr hbase h2 h3 h5) h3
 match j,hj with
 | 0,hj=>simp at hj;subst hj;rw [Addr.add_lit];simpa using hb
theorem own_cell1 {w:World} {base:Nat} {v:Value} {l:List Int} (h:w.ownsRow base 3 1 v l.length (l.map (Value.int .i64))):v.oneCell' = true:=by
 rcases h.2 with ⟨rfl,_⟩ | ⟨g,cap,cur,rfl,_⟩ <;> rfl
end Go.Proofs
end
section
/- Words for memory: append of one number to a list of the call's own. -/
namespace Go.Proofs
open Go.RowKit
theorem cell_new1 (w:World) (v:Value) (t:TypeId):(w.alloc (.cells #[v] t)).cell? ⟨w.heap.size,0,none⟩ = some v:=by simp
theorem wpList_push {w:World} {ops:Array Oper} {rest:List Oper} {o:Oper} {a:Act} {Q:Exit -> Act -> World -> Prop}
  (hgd:o.guard = none) (s x:Operand) (ho:o.op = .call { callee:=.builtin .append,args:=#[s,x],argTypes:=#[33,33] })
  {base:Nat} {v:Value} {l:List Int} (hown:w.ownsRow base 3 1 v l.length (l.map (Value.int .i64))) (hbase:base <= w.heap.size) (hs:a.eval s = v)
  {y:Int} {c:Nat} {b:Nat} (hx:a.eval x = .slice (some ⟨b,0,none⟩) 1 c) (hb:w.cell? ⟨b,0,none⟩ = some (.int .i64 y)) (hl:l.length <= 1000000)
  (hn:∀ v' w',w'.ownsRow base 3 1 v' (l ++ [y]).length ((l ++ [y]).map (Value.int .i64)) -> w.grownBy w' v.ownBlock -> wpList Tryz.prog ops Q rest (a.put o.dst v') w'):wpList Tryz.prog ops Q (o :: rest) a w:=by
 refine wpList_app_at ty24 hgd s x ho hbase hs hown hx (news:=[.int .i64 y]) rfl (by intro h;cases h) (fun ad e j u h=>?_) (one_int y) (by omega) (by decide) fun v' w' h1 h2=>hn v' w' (by simpa using h1) h2
 cases e
 match j,h with
 | 0,h=>simp at h;subst h;rw [Addr.add_lit];simpa using hb
end Go.Proofs
end
section
/- A call at a step of a region that draws its order. -/
namespace Go.Proofs
open Go.RowKit
theorem run_enters {f:Nat} {fn:Func} (h:Tryz.prog.funcs[f]? = some fn) (hn:(fn.name == "runtime.NumGoroutine") = false) (hb:fn.body.isNone = false) (args:Array Value) (w:World) :
  (callFunc f args).run Tryz.prog w = .ok (.enter f args) w:=by
 unfold callFunc;have h1:¬ fn.name = "runtime.NumGoroutine":=by simpa using hn
 have h2:¬ fn.body = none:=by intro e;rw [e] at hb;cases hb
 simp [go_sem,h,h1,h2]
end Go.Proofs
end
section
/- A region that draws its order,by facts: what each operation yields,in whatever order they come up. -/
namespace Go
def Region.preds (o:Oper):List Nat:=(o.after.toList.filter (Region.binds .any)).map (·.on)
def dn (listed:Array Bool) (i:Nat):Bool:=listed.getD i false
def upd (done:Nat -> Bool) (i:Nat):Nat -> Bool:=fun j=>if j = i then true else done j
structure Held (ops:Array Oper) (Fact:Nat -> Value -> World -> Prop) (Wd:(Nat -> Bool) -> World -> Prop) (a0:Act) (done:Nat -> Bool) (a:Act) (w:World):Prop where
 wd:Wd done w
 size:a.tmps.size = a0.tmps.size
 defers:a.defers = a0.defers
 closed:∀ i o,ops[i]? = some o -> done i = true -> ∀ j ∈ Region.preds o,done j = true
 old:∀ s,(∀ i o,ops[i]? = some o -> o.dst = some s -> done i = false) -> a.eval (.tmp s) = a0.eval (.tmp s)
 fact:∀ (i:Nat) (o:Oper) (s:Nat),ops[i]? = some o -> o.dst = some s -> done i = true -> Fact i (a.eval (.tmp s)) w
theorem mem_ready' {md:Region.Mode} {ops:Array Oper} {listed:Array Bool} {i:Nat} (hm:md = .any) (hs:listed.size = ops.size) (h:i ∈ Region.ready md ops listed) :
  ∃ o,ops[i]? = some o /\ dn listed i = false /\ ∀ j ∈ Region.preds o,dn listed j = true:=by
 subst hm;unfold Region.ready at h;rw [List.mem_filter,List.mem_range,Bool.and_eq_true] at h;obtain ⟨h1,h2,h3⟩:=h;have ho:ops[i]? = some ops[i]:=Array.getElem?_eq_getElem h1;refine ⟨_,ho,?_,fun j hj=>?_⟩
 ·unfold dn;rw [Array.getD_eq_getD_getElem?] at h2 ⊢;rw [Array.getElem?_eq_getElem (by omega)] at h2 ⊢;simpa using h2
 ·rw [ho,Option.map_some,Option.getD_some] at h3;unfold Region.preds at hj;rw [List.mem_map] at hj;obtain ⟨e,he,rfl⟩:=hj;rw [List.mem_filter] at he;have:=Array.all_eq_true'.1 h3 e (by simpa using he.1);rw [he.2] at this;simpa [dn] using this
theorem all_done {ops:Array Oper} {listed:Array Bool} (hs:listed.size = ops.size) (hlt:∀ (i:Nat) (o:Oper),ops[i]? = some o -> ∀ j ∈ Region.preds o,j < i) (h:Region.ready .any ops listed = []):∀ i,i < ops.size -> dn listed i = true:=by
 intro i
 induction i using Nat.strongRecOn with
 | _ i ih =>
  intro hi
  cases hd:dn listed i with
  | true=>rfl
  | false =>
   exfalso;have ho:ops[i]? = some ops[i]:=Array.getElem?_eq_getElem hi
   have:i ∈ Region.ready .any ops listed:=by
    unfold Region.ready;rw [List.mem_filter,List.mem_range,Bool.and_eq_true];refine ⟨hi,?_,?_⟩
    ·unfold dn at hd;rw [Array.getD_eq_getD_getElem?] at hd ⊢;rw [Array.getElem?_eq_getElem (by omega)] at hd ⊢;simpa using hd
    ·rw [ho,Option.map_some,Option.getD_some,Array.all_eq_true'];intro e he
     cases hb:Region.binds .any e with
     | false=>rfl
     | true =>
      have hm:e.on ∈ Region.preds ops[i]:=List.mem_map.2 ⟨e,List.mem_filter.2 ⟨by simpa using he,hb⟩,rfl⟩;have h1:=hlt i _ ho _ hm;have h2:=ih e.on h1 (by omega);simpa [dn] using h2
   rw [h] at this;cases this
def unl (ops:Array Oper) (done:Nat -> Bool):List Nat:=(List.range ops.size).filter fun i=>!done i
theorem unl_lt {ops:Array Oper} {done:Nat -> Bool} {i:Nat} (hi:i < ops.size) (hd:done i = false):(unl ops (upd done i)).length < (unl ops done).length:=by
 have e:unl ops (upd done i) = (unl ops done).filter fun j=>!upd done i j:=by
  unfold unl;rw [List.filter_filter];apply List.filter_congr;intro j _;unfold upd;split <;> simp
 rw [e,List.length_filter_lt_length_iff_exists];exact ⟨i,List.mem_filter.2 ⟨List.mem_range.2 hi,by simp [hd]⟩,by simp [upd]⟩
section
variable {P:Program} {ops:Array Oper} {Q:Exit -> Act -> World -> Prop} {Fact:Nat -> Value -> World -> Prop} {Wd:(Nat -> Bool) -> World -> Prop} {a0:Act}
theorem dn_set {listed:Array Bool} {i:Nat} (hi:i < listed.size):dn (listed.setIfInBounds i true) = upd (dn listed) i:=by
 funext j
 unfold dn upd;rw [Array.getD_eq_getD_getElem?,Array.getElem?_setIfInBounds];by_cases e:i = j
 ·subst e;simp [hi]
 ·rw [if_neg e,if_neg (fun h=>e h.symm)];exact (Array.getD_eq_getD_getElem? ..).symm
theorem Held.same {done:Nat -> Bool} {a:Act} {w:World} (h:Held ops Fact Wd a0 done a w) {s:Nat} (hs:s ∉ ops.toList.filterMap (·.dst)):a.eval (.tmp s) = a0.eval (.tmp s) :=
 h.old s fun k ok hk he=>absurd (List.mem_filterMap.2 ⟨ok,by rw [<- Array.getElem?_toList] at hk;exact List.mem_of_getElem? hk,he⟩) hs
theorem nodup_dst:∀ {xs:List Oper},(xs.filterMap (·.dst)).Nodup -> ∀ (i j:Nat) (oi oj:Oper) (s:Nat),xs[i]? = some oi -> xs[j]? = some oj -> oi.dst = some s -> oj.dst = some s -> i = j
 | [],_,i,_,_,_,_,h,_,_,_=>by simp at h
 | o :: xs,hn,i,j,oi,oj,s,hi,hj,h1,h2=>by
  rw [List.filterMap_cons] at hn
  have hsub:(xs.filterMap (·.dst)).Nodup:=by
   cases hd:o.dst with
   | none=>simpa [hd] using hn
   | some d=>simp [hd] at hn;exact hn.2
  have hmem:∀ (k:Nat) (ok:Oper),xs[k]? = some ok -> ok.dst = some s -> s ∈ xs.filterMap (·.dst):=fun k ok hk he=>List.mem_filterMap.2 ⟨ok,List.mem_of_getElem? hk,he⟩
  cases i with
  | zero =>
   cases j with
   | zero=>rfl
   | succ j =>
    simp at hi hj;subst hi;rw [h1] at hn;simp at hn;exact absurd (hmem j oj hj h2) (by simpa using hn.1)
  | succ i =>
   cases j with
   | zero =>
    simp at hi hj;subst hj;rw [h2] at hn;simp at hn;exact absurd (hmem i oi hi h1) (by simpa using hn.1)
   | succ j =>
    simp at hi hj;rw [nodup_dst hsub i j oi oj s hi hj h1 h2]
end
end Go
end
section
/- A region that draws its order and whose operations may bear guards,by facts. -/
namespace Go
structure HeldG (ops:Array Oper) (Fact:(Nat -> Bool) -> Nat -> Value -> World -> Prop) (Wd:(Nat -> Bool) -> Act -> World -> Prop) (a0:Act) (done:Nat -> Bool) (a:Act) (w:World):Prop where
 wd:Wd done a w
 size:a.tmps.size = a0.tmps.size
 defers:a.defers = a0.defers
 closed:∀ i o,ops[i]? = some o -> done i = true -> ∀ j ∈ Region.preds o,done j = true
 old:∀ s,(∀ i o,ops[i]? = some o -> o.dst = some s -> done i = false) -> a.eval (.tmp s) = a0.eval (.tmp s)
 fact:∀ (i:Nat) (o:Oper) (s:Nat),ops[i]? = some o -> o.dst = some s -> done i = true -> Fact done i (a.eval (.tmp s)) w
section
variable {P:Program} {ops:Array Oper} {Q:Exit -> Act -> World -> Prop} {Fact:(Nat -> Bool) -> Nat -> Value -> World -> Prop} {Wd:(Nat -> Bool) -> Act -> World -> Prop} {a0:Act}
theorem HeldG.put {done:Nat -> Bool} {a:Act} {w w':World} {i:Nat} {o:Oper} {v:Value} (h:HeldG ops Fact Wd a0 done a w) (ho:ops[i]? = some o) (hd:done i = false) (hp:∀ j ∈ Region.preds o,done j = true)
  (hdst:∀ (i j:Nat) (oi oj:Oper) (s:Nat),ops[i]? = some oi -> ops[j]? = some oj -> oi.dst = some s -> oj.dst = some s -> i = j) (hin:∀ (i:Nat) (o:Oper) (s:Nat),ops[i]? = some o -> o.dst = some s -> s < a0.tmps.size)
  (hf:Fact (Go.upd done i) i v w') (hw:Wd (Go.upd done i) (a.put o.dst v) w') (hk:∀ (j:Nat) (oj:Oper) (s:Nat),ops[j]? = some oj -> oj.dst = some s -> done j = true -> Fact done j (a.eval (.tmp s)) w -> Fact (Go.upd done i) j (a.eval (.tmp s)) w'):HeldG ops Fact Wd a0 (Go.upd done i) (a.put o.dst v) w':=by
 refine ⟨hw,?_,?_,fun k ok hk' hdk j hj=>?_,fun s hs=>?_,fun k ok s hk' hs hdk=>?_⟩
 ·rw [<- h.size];unfold Act.put;split <;> simp
 ·rw [<- h.defers];unfold Act.put;split <;> rfl
 ·unfold Go.upd at hdk ⊢;by_cases e:j = i
  ·rw [if_pos e]
  ·rw [if_neg e];by_cases e2:k = i
   ·subst e2;rw [ho] at hk';cases hk';exact hp j hj
   ·rw [if_neg e2] at hdk;exact h.closed k ok hk' hdk j hj
 ·have hne:∀ d,o.dst = some d -> (Operand.tmp s) ≠ .tmp d:=fun d hd' e=>by
   cases e;have:=hs i o ho hd';simp [Go.upd] at this
  rw [Act.eval_put hne];refine h.old s fun k ok hk' hs'=>?_
  have:=hs k ok hk' hs';unfold Go.upd at this;split at this
  ·cases this
  ·exact this
 ·by_cases e:k = i
  ·subst e;rw [ho] at hk';cases hk';rw [hs,Act.eval_put_same _ _ _ (by rw [h.size];exact hin k o s ho hs)];exact hf
  ·unfold Go.upd at hdk;rw [if_neg e] at hdk
   have hne:∀ d,o.dst = some d -> (Operand.tmp s) ≠ .tmp d:=fun d hd' e2=>by
    cases e2;exact e (hdst k i ok o s hk' ho hs hd')
   rw [Act.eval_put hne];exact hk k ok s hk' hs hdk (h.fact k ok s hk' hs hdk)
theorem wpAny_factsG (hdst:∀ (i j:Nat) (oi oj:Oper) (s:Nat),ops[i]? = some oi -> ops[j]? = some oj -> oi.dst = some s -> oj.dst = some s -> i = j) (hin:∀ (i:Nat) (o:Oper) (s:Nat),ops[i]? = some o -> o.dst = some s -> s < a0.tmps.size)
  (hlt:∀ (i:Nat) (o:Oper),ops[i]? = some o -> ∀ j ∈ Region.preds o,j < i)
  (step:∀ (i:Nat) (o:Oper),ops[i]? = some o -> ∀ (done:Nat -> Bool) (a:Act) (w:World),HeldG ops Fact Wd a0 done a w -> done i = false -> (∀ j ∈ Region.preds o,done j = true) -> ∀ K:Act -> World -> Prop,
   (∀ (v:Value) (w':World),Fact (Go.upd done i) i v w' -> Wd (Go.upd done i) (a.put o.dst v) w' -> (∀ (j:Nat) (oj:Oper) (s:Nat),ops[j]? = some oj -> oj.dst = some s -> done j = true -> Fact done j (a.eval (.tmp s)) w -> Fact (Go.upd done i) j (a.eval (.tmp s)) w') -> K (a.put o.dst v) w') -> if Region.wanted o (yielded ops a.tmps) = true then Oper.wp P o a w K Q else K (a.put o.dst undef) w)
  (fin:∀ (done:Nat -> Bool) (a:Act) (w:World),(∀ i,i < ops.size -> done i = true) -> HeldG ops Fact Wd a0 done a w -> Q .normal a w) :
  ∀ (fuel:Nat) (listed:Array Bool) (a:Act) (w:World),listed.size = ops.size -> HeldG ops Fact Wd a0 (dn listed) a w -> (unl ops (dn listed)).length <= fuel -> wpAny P .any ops Q fuel listed a w
 | 0,listed,a,w,hs,h,hf=>by
  have hd:∀ i,i < ops.size -> dn listed i = true:=fun i hi=>by
   cases hd:dn listed i with
   | true=>rfl
   | false =>
    have:i ∈ unl ops (dn listed):=List.mem_filter.2 ⟨List.mem_range.2 hi,by simp [hd]⟩;have hz:unl ops (dn listed) = []:=List.eq_nil_of_length_eq_zero (by omega);rw [hz] at this;cases this
  refine ⟨?_,fin _ a w hd h⟩
  cases hr:Region.ready .any ops listed with
  | nil=>rfl
  | cons i r =>
   obtain ⟨o,ho,h1,_⟩:=mem_ready' rfl hs (show i ∈ Region.ready .any ops listed by rw [hr];simp);rw [hd i (Array.getElem?_eq_some_iff.1 ho).1] at h1;cases h1
 | fuel + 1,listed,a,w,hs,h,hf=>by
  refine ⟨fun hr=>fin _ a w (all_done hs hlt hr) h,fun i hi=>?_⟩;obtain ⟨o,ho,h1,h2⟩:=mem_ready' rfl hs hi;have hio:=(Array.getElem?_eq_some_iff.1 ho).1;unfold wpOp;simp only [ho]
  have hst:=step i o ho _ a w h h1 h2 (wpAny P .any ops Q fuel (listed.setIfInBounds i true)) fun v w' hf' hw' hk=>by
   refine wpAny_factsG hdst hin hlt step fin fuel _ _ _ (by simpa using hs) ?_ ?_
   ·rw [dn_set (by omega)];exact h.put ho h1 h2 hdst hin hf' hw' hk
   ·rw [dn_set (by omega)];have:=unl_lt (ops:=ops) hio h1;omega
  by_cases hw:Region.wanted o (yielded ops a.tmps) = true
  ·rw [if_pos hw] at hst ⊢;exact .inl hst
  ·rw [if_neg hw] at hst ⊢;exact hst
theorem HeldG.same {done:Nat -> Bool} {a:Act} {w:World} (h:HeldG ops Fact Wd a0 done a w) {s:Nat} (hs:s ∉ ops.toList.filterMap (·.dst)):a.eval (.tmp s) = a0.eval (.tmp s) :=
 h.old s fun k ok hk he=>absurd (List.mem_filterMap.2 ⟨ok,by rw [<- Array.getElem?_toList] at hk;exact List.mem_of_getElem? hk,he⟩) hs
def factsGB (xs:List Oper) (n:Nat):Bool :=
 decide ((xs.filterMap (·.dst)).Nodup) && (xs.all fun o=>match o.dst with | some s=>decide (s < n) | none=>true) && ((List.range xs.length).all fun i=>match xs[i]? with | some o=>(Region.preds o).all fun j=>decide (j < i) | none=>true)
theorem wp_region_factsG {id:Nat} {xs:List Oper} {w:World} (hm:P.follows .mixedOrders = true) (n:Nat) (hn:a0.tmps.size = n) (hB:factsGB xs n = true)
  (Fact:(Nat -> Bool) -> Nat -> Value -> World -> Prop) (Wd:(Nat -> Bool) -> Act -> World -> Prop) (h0:Wd (fun _=>false) a0 w.drew)
  (step:∀ (i:Nat) (o:Oper),xs[i]? = some o -> ∀ (done:Nat -> Bool) (a:Act) (w:World),HeldG xs.toArray Fact Wd a0 done a w -> done i = false -> (∀ j ∈ Region.preds o,done j = true) -> ∀ K:Act -> World -> Prop,
   (∀ (v:Value) (w':World),Fact (Go.upd done i) i v w' -> Wd (Go.upd done i) (a.put o.dst v) w' -> (∀ (j:Nat) (oj:Oper) (s:Nat),xs[j]? = some oj -> oj.dst = some s -> done j = true -> Fact done j (a.eval (.tmp s)) w -> Fact (Go.upd done i) j (a.eval (.tmp s)) w') -> K (a.put o.dst v) w') -> if Region.wanted o (yielded xs.toArray a.tmps) = true then Oper.wp P o a w K Q else K (a.put o.dst undef) w)
  (fin:∀ (done:Nat -> Bool) (a:Act) (w:World),(∀ i,i < xs.length -> done i = true) -> HeldG xs.toArray Fact Wd a0 done a w -> Q .normal a w):(Code.region id xs.toArray true).wp P Q a0 w:=by
 unfold factsGB at hB;rw [Bool.and_eq_true,Bool.and_eq_true] at hB;obtain ⟨⟨h2,h3⟩,h4⟩:=hB;refine wp_region_any hm ?_
 have e0:dn (Array.replicate xs.toArray.size false) = fun _=>false:=by
  funext i
  unfold dn;rw [Array.getD_eq_getD_getElem?,Array.getElem?_replicate];split <;> rfl
 refine wpAny_factsG (Fact:=Fact) (Wd:=Wd) (a0:=a0) (fun i j oi oj s hi hj=>nodup_dst (of_decide_eq_true h2) i j oi oj s (by simpa using hi) (by simpa using hj)) (fun i o s ho hs=>?_) (fun i o ho j hj=>?_)
  (fun i o ho done a w h hd hp K hK=>step i o (by simpa using ho) done a w h hd hp K (fun v w' h1 h2 h3=>hK v w' h1 h2 (fun j oj s hj=>h3 j oj s (by simpa using hj)))) (fun done a w hd=>fin done a w (by simpa using hd)) _ _ _ _ (by simp) ?_ ?_
 ·have:=List.all_eq_true.1 h3 o (List.mem_of_getElem? (by simpa using ho));rw [hs] at this;rw [hn];simpa using this
 ·have ho':xs[i]? = some o:=by simpa using ho
  have:=List.all_eq_true.1 h4 i (List.mem_range.2 (List.getElem?_eq_some_iff.1 ho').1);rw [ho'] at this;have:=List.all_eq_true.1 this j hj;simpa using this
 ·rw [e0];exact ⟨h0,rfl,rfl,(fun i o _ h=>by cases h),(fun s _=>rfl),(fun i o s _ _ h=>by cases h)⟩
 ·have:(unl xs.toArray (dn (Array.replicate xs.toArray.size false))).length <= (List.range xs.toArray.size).length:=List.length_filter_le _ _;simpa using this
end
end Go
end
section
/- Words: a range over an iterator that keeps state in one block of its own. -/
namespace Go.Proofs
open Go.RowKit
structure Kept3 (B:Nat) (W W':World):Prop where
 size:W.heap.size <= W'.heap.size
 same:∀ j,B <= j -> j <= B + 2 -> W'.heap[j]? = W.heap[j]?
theorem Kept3.of_aft {B:Nat} {W W':World} (h:Aft W W') (hB:B + 3 <= W.heap.size):Kept3 B W W':=⟨h.size,fun j _ h2=>h.below.block j (by omega)⟩
theorem Kept3.setCell {B:Nat} {W W':World} (h:Kept3 B W W') {p:Addr} (hp:p.block < B \/ B + 3 <= p.block) (v:Value):Kept3 B W (W'.setCell p v) :=
 ⟨by have:=h.size;simpa [World.setCell] using this,fun j h1 h2=>(Below.heap_setCell W' p v j (by omega)).trans (h.same j h1 h2)⟩
def Three {β:Type} (B:Nat) (I:β -> World -> Prop):Prop:=∀ s W W' r,I s W -> W.grownBy W' (some r) -> B <= r -> r <= B + 2 -> I s W'
def post3 (B:Nat) (I:Nat -> World -> Prop) (Ix:Code -> World -> Prop) (k:Nat) (W:World):Exit -> Act -> World -> Prop
 | .normal,_,W'=>Kept3 B W W' /\ I k W'
 | .ret,_,W'=>Kept3 B W W' /\ Ix .ret W'
 | .exit id,_,W'=>Kept3 B W W' /\ Ix (.exit id) W'
 | .goto t,_,W'=>Kept3 B W W' /\ Ix (.goto t) W'
 | .panic _,_,_=>False
 | .outgrown,_,_=>False
def IterOk (n:Nat) (gf:Nat) (lb:Array Value) (B N:Nat) (Gv:Nat -> World -> World -> Value -> Prop) (Rep:World -> Prop):Prop :=
 ∀ (l:Nat) (J:Nat -> World -> Prop) (Jx:World -> Prop) (W:World),W.heap.size = B + 2 -> (∀ k W W',J k W -> W.grownBy W' (some (B + 2)) -> J k W') -> (∀ k W,J k W -> Rep W) ->
  (∀ k v W0 W1,k < N -> J k W0 -> Aft W0 W1 -> B + 3 <= W0.heap.size -> Gv k W0 W1 v -> YieldAt Fence.wide (n - 1) Tryz.prog l #[v] W1 fun e W' =>
   (e = .returned (.bool true) /\ J (k + 1) W' /\ W'.heap[B + 2]? = W1.heap[B + 2]? /\ W1.heap.size <= W'.heap.size) \/ (e = .returned (.bool false) /\ Jx W')) ->
  J 0 W ->
  CallsIn Fence.wide n Tryz.prog gf (#[.func (.yield l) #[] #[]] ++ lb) W fun e W'=>(∃ v,e = .returned v) /\ (J N W' \/ Jx W')
theorem below_put {W W':World} {l:Nat} (h:Below W.heap.size W W') (hl:l < W.heap.size) (o:Obj):Below (W.putObj l o).heap.size (W.putObj l o) (W'.putObj l o):=by
 have hs:=h.size;refine ⟨h.os,h.tape,h.output,by simpa [World.putObj] using hs,fun k hk=>?_⟩;have hk':k < W.heap.size:=by simpa [World.putObj] using hk
 by_cases e:k = l
 ·subst e;rw [World.putObj_heap_same (by omega),World.putObj_heap_same hl]
 ·rw [World.putObj_heap_other e,World.putObj_heap_other e];exact h.block k hk'
theorem wpIn_range3 {g:Operand} {p:Tmp} {assign body:Code} {Q:Exit -> Act -> World -> Prop} {a:Act} {w:World} {n:Nat} {gf:Nat} {lb:Array Value} (hg:a.eval g = .func (.func gf) #[] lb) (eg:∀ args w,(callFunc gf args).run Tryz.prog w = .ok (.enter gf args) w)
  {N:Nat} {Gv:Nat -> World -> World -> Value -> Prop} {Rep:World -> Prop} (hseq:IterOk (n - 1) gf lb w.heap.size N Gv Rep)
  (hGv:∀ k W0 W v (r:Nat) (o:Obj),Gv k W0 W v -> r < W0.heap.size -> Gv k (W0.putObj r o) (W.putObj r o) v)
  (I:Nat -> World -> Prop) (Ix:Code -> World -> Prop) (hI:Three w.heap.size I) (hIx:∀ c,Three w.heap.size (fun (_:Unit)=>Ix c)) (hrep:∀ k W,I k W -> Rep W) (h0:I 0 w) (a₁:Value -> Act)
  (hassign:∀ (l:Nat) (v:Value) (W:World) (K:Act -> World -> Prop),K (a₁ v) W ->
   assign.wpIn (Fence.wide.inRound l) (n - 1 - 1) Tryz.prog (Exit.then K (fun _ _ _=>False)) { tmps:=a.tmps.setIfInBounds p v,defers:=[] } W)
  (hbody:∀ (l k:Nat) (v:Value) (W0 W:World),k < N -> I k W0 -> Aft W0 W -> w.heap.size + 3 <= W0.heap.size -> Gv k W0 W v -> body.wpIn (Fence.wide.inRound l) (n - 1 - 1) Tryz.prog (post3 w.heap.size I Ix (k + 1) W) (a₁ v) W)
  (hdone:∀ (D:Nat) (W:World),w.heap.size = D -> I N W -> W.heap[D]? = some (.deferred (some [])) -> Q .normal { a with defers:={ target:=.collected D,args:=#[] } :: a.defers } W)
  (hstop:∀ (D:Nat) (c:Code) (W:World),w.heap.size = D -> Ix c W -> W.heap[D]? = some (.deferred (some [])) -> c.wpIn Fence.wide n Tryz.prog Q { a with defers:={ target:=.collected D,args:=#[] } :: a.defers } W) :
  (Code.rangeFunc g #[p] assign body).wpIn Fence.wide n Tryz.prog Q a w:=by
 refine wpIn_rangeFunc ?_;intro fn hfn;obtain ⟨rec,hrec⟩:∃ rec:LoopState -> Option Code -> Loop,rec = fun st pe=>{ state:=st,pending:=pe,fn,tmps:=a.tmps,params:=#[p],assign,body,defers:=w.heap.size }:=⟨_,rfl⟩
 obtain ⟨W1,hW1⟩:∃ W1,(w.alloc (.deferred (some []))).alloc (.loop (rec .ready none)) = W1:=⟨_,rfl⟩
 have hL1:W1.heap[w.heap.size + 1]? = some (.loop (rec .ready none)):=by
  rw [<- hW1];have:=World.alloc_heap_new (w.alloc (.deferred (some []))) (.loop (rec .ready none));rwa [World.size_alloc] at this
 have hK1:W1.heap[w.heap.size]? = some (.deferred (some [])):=by
  rw [<- hW1];exact (Below.heap_alloc _ _ _ (by simp)).trans (World.alloc_heap_new w _)
 have hs1:W1.heap.size = w.heap.size + 2:=by rw [<- hW1];simp
 have hI1:I 0 W1:=by
  have:=only_of_aft ((Aft.alloc w (.deferred (some []))).then_alloc (.loop (rec .ready none))) (some w.heap.size);rw [hW1] at this;exact hI _ _ _ _ h0 this (Nat.le_refl _) (by omega)
 refine ⟨w.heap.size + 1,[{ target:=.collected w.heap.size,args:=#[] }],W1,{ target:=.fn (.func gf) lb,args:=#[.func (.yield (w.heap.size + 1)) #[] #[]] },W1,gf,
  #[.func (.yield (w.heap.size + 1)) #[] #[]] ++ lb,W1,?_,?_,?_,?_,(fun h=>by cases h),?_⟩
 ·rw [<- hW1,hrec];exact run_enterLoop_outer _ _ _ _ _
 ·simp only [resolve,hg];simp [go_sem]
 ·intro f' hf';trivial
 ·simp [invoke,go_sem,eg]
 ·refine (hseq (w.heap.size + 1)
   (fun k W=>I k W /\ W.heap[w.heap.size + 1]? = some (.loop (rec .ready none)) /\ W.heap[w.heap.size]? = some (.deferred (some [])))
   (fun W=>∃ c,Ix c W /\ W.heap[w.heap.size + 1]? = some (.loop (rec .done (some c))) /\ W.heap[w.heap.size]? = some (.deferred (some [])))
   W1 hs1 ?_ (fun k W h=>hrep k W h.1) ?_ ⟨hI1,hL1,hK1⟩).mono ?_
  ·rintro k W W' ⟨hi,hl,hk⟩ hg';have hl1:=(Array.getElem?_eq_some_iff.1 hl).1;have hl0:=(Array.getElem?_eq_some_iff.1 hk).1;exact ⟨hI _ _ _ _ hi hg' (by omega) (Nat.le_refl _),(hg'.block _ hl1 (by simp)).trans hl,(hg'.block _ hl0 (by simp)).trans hk⟩
  ·rintro k v W0 W hkN ⟨hi,hl',hk'⟩ ha hB hgv;have hl:W.heap[w.heap.size + 1]? = some (.loop (rec .ready none)):=(ha.below.block _ (by omega)).trans hl';have hk:W.heap[w.heap.size]? = some (.deferred (some [])):=(ha.below.block _ (by omega)).trans hk';have hlt:w.heap.size + 1 < W.heap.size:=(Array.getElem?_eq_some_iff.1 hl).1;have hy:=run_yield (P:=Tryz.prog) (args:=#[v]) hl (by rw [hrec];rfl);rw [hrec] at hy;have hz:((#[p]:Array Tmp).zip #[v]).foldl (fun tmps (t,a)=>tmps.setIfInBounds t a) a.tmps = a.tmps.setIfInBounds p v:=by simp
   dsimp only at hy;rw [hz] at hy;refine ⟨fn,_,assign,body,hy,?_⟩;refine roundIn_of_wpIn hfn ?_;refine hassign _ v W _ ?_;refine ⟨_,run_beginRound hl (by rw [hrec]),?_⟩;have hl2:(W.putObj (w.heap.size + 1) (.loop { rec .ready none with state:=.busy })).heap[w.heap.size + 1]? = some (.loop { rec .ready none with state:=.busy }):=World.putObj_heap_same hlt;have hk2:(W.putObj (w.heap.size + 1) (.loop { rec .ready none with state:=.busy })).heap[w.heap.size]? = some (.deferred (some [])):=(World.putObj_heap_other (by omega)).trans hk;have hsz2:(W.putObj (w.heap.size + 1) (.loop { rec .ready none with state:=.busy })).heap.size = W.heap.size:=by simp [World.putObj]
   refine wpIn_mono (hbody _ k v (W0.putObj (w.heap.size + 1) (.loop { rec .ready none with state:=.busy })) _ hkN (hI _ _ _ _ hi (grownBy_putObj' _ _ _) (by omega) (by omega)) (Aft.of_below (below_put ha.below (by omega) _)) (by simpa [World.putObj] using hB) (hGv _ _ _ _ _ _ hgv (by omega))) ?_;have fin:∀ (jump:Option Code) (W3:World),Kept3 w.heap.size (W.putObj (w.heap.size + 1) (.loop { rec .ready none with state:=.busy })) W3 ->
     (Instr.endRound (w.heap.size + 1) jump).run Tryz.prog W3 = .ok (.bool jump.isNone) (W3.putObj (w.heap.size + 1) (.loop (rec (if jump.isNone then .ready else .done) jump))) /\
     (W3.putObj (w.heap.size + 1) (.loop (rec (if jump.isNone then .ready else .done) jump))).heap[w.heap.size + 1]? = some (.loop (rec (if jump.isNone then .ready else .done) jump)) /\
     (W3.putObj (w.heap.size + 1) (.loop (rec (if jump.isNone then .ready else .done) jump))).heap[w.heap.size]? = some (.deferred (some [])) /\
     (W3.putObj (w.heap.size + 1) (.loop (rec (if jump.isNone then .ready else .done) jump))).heap[w.heap.size + 2]? = W.heap[w.heap.size + 2]? /\ W.heap.size <= (W3.putObj (w.heap.size + 1) (.loop (rec (if jump.isNone then .ready else .done) jump))).heap.size:=fun jump W3 hk3=>by
    have hl3:=(hk3.same _ (by omega) (by omega)).trans hl2;have:=run_endRound (P:=Tryz.prog) jump hl3;rw [hrec] at this ⊢;exact ⟨this,World.putObj_heap_same (Array.getElem?_eq_some_iff.1 hl3).1,(World.putObj_heap_other (by omega)).trans ((hk3.same _ (by omega) (by omega)).trans hk2),(World.putObj_heap_other (by omega)).trans ((hk3.same _ (by omega) (by omega)).trans (World.putObj_heap_other (by omega))),by have:=hk3.size;simp [World.putObj] at this ⊢;exact this⟩
   rintro e a3 W3 hp
   cases e with
   | normal =>
    obtain ⟨hk3,hi3⟩:=hp;obtain ⟨hr,hl4,hk4,h5,h6⟩:=fin none W3 hk3;exact ⟨_,_,hr,.inl ⟨rfl,⟨hI _ _ _ _ hi3 (grownBy_putObj' _ _ _) (by omega) (by omega),hl4,hk4⟩,h5,h6⟩⟩
   | ret =>
    obtain ⟨hk3,hi3⟩:=hp;obtain ⟨hr,hl4,hk4,h5,h6⟩:=fin (some .ret) W3 hk3;exact ⟨_,_,hr,.inr ⟨rfl,.ret,hIx _ () _ _ _ hi3 (grownBy_putObj' _ _ _) (by omega) (by omega),hl4,hk4⟩⟩
   | exit id =>
    obtain ⟨hk3,hi3⟩:=hp;obtain ⟨hr,hl4,hk4,h5,h6⟩:=fin (some (.exit id)) W3 hk3;exact ⟨_,_,hr,.inr ⟨rfl,.exit id,hIx _ () _ _ _ hi3 (grownBy_putObj' _ _ _) (by omega) (by omega),hl4,hk4⟩⟩
   | goto t =>
    obtain ⟨hk3,hi3⟩:=hp;obtain ⟨hr,hl4,hk4,h5,h6⟩:=fin (some (.goto t)) W3 hk3;exact ⟨_,_,hr,.inr ⟨rfl,.goto t,hIx _ () _ _ _ hi3 (grownBy_putObj' _ _ _) (by omega) (by omega),hl4,hk4⟩⟩
   | panic ch=>exact hp.elim
   | outgrown=>exact hp.elim
  ·rintro e W2 ⟨⟨v,rfl⟩,(⟨hi,hl,hk⟩ | ⟨c,hi,hl,hk⟩)⟩
   ·exact ⟨none,_,by have:=run_endLoop (P:=Tryz.prog) hl (by rw [hrec];simp);rw [hrec] at this;exact this,hdone _ _ rfl (hI _ _ _ _ hi (grownBy_putObj' _ _ _) (by omega) (by omega)) ((World.putObj_heap_other (by omega)).trans hk)⟩
   ·exact ⟨some c,_,by have:=run_endLoop (P:=Tryz.prog) hl (by rw [hrec];simp);rw [hrec] at this;exact this,hstop _ c _ rfl (hIx c () _ _ _ hi (grownBy_putObj' _ _ _) (by omega) (by omega)) ((World.putObj_heap_other (by omega)).trans hk)⟩
end Go.Proofs
end
section
/- Words: operations,lists of them and regions inside a round,by what holds of them outside. -/
namespace Go
section
variable {P:Program} {ops:Array Oper} {Q:Exit -> Act -> World -> Prop} {l n:Nat} {md:Region.Mode}
theorem Oper.in_round {o:Oper} {a:Act} {w:World} {K:Act -> World -> Prop} (hd:∀ c,o.op ≠ .defer c) (h:o.wp P a w K Q):o.wpIn (Fence.wide.inRound l) n P a w K Q:=by
 unfold Oper.wpIn;refine ⟨fun _ _=>trivial,?_⟩;show o.uponIn _ n P a K Q ((Oper.semAt (some l) a.eval o).run P w);rw [Oper.semAt_some l _ o hd];unfold Oper.wp at h;generalize (execOp a.eval o).run P w = r at *
 cases r with
 | ok x w' =>
  cases x <;> simp only [Oper.upon,Oper.uponIn] at h ⊢
  case value u=>exact h
  case skip=>exact h
  case defer d=>exact h
  case enter f args=>exact ⟨(fun h=>by cases h),CallsIn.inRound l (callsIn_wide.2 h)⟩
  case row r args =>
   refine ⟨(fun h=>by cases h),fun c cs _=>?_⟩;obtain ⟨v,w2,h1,h2⟩:=h c cs;exact ⟨v,w2,h1,stepsIn_wide.2 h2⟩
  all_goals exact h.elim
 | halt x w'=>cases x <;> simp only [Oper.upon,Oper.uponIn] at h ⊢ <;> first | exact h | exact h.elim
def noDefers (l:List Oper):Bool:=l.all fun o=>match o.op with | .defer _=>false | _=>true
theorem noDefers_at {l:List Oper} (h:noDefers l = true) {o:Oper} (ho:o ∈ l):∀ c,o.op ≠ .defer c:=by
 intro c e;have:=List.all_eq_true.1 h o ho;rw [e] at this;cases this
theorem wpOp_in_round {i:Nat} {a:Act} {w:World} {K:Act -> World -> Prop} (hd:noDefers ops.toList = true) (hQ:¬ LetsOut Q) (h:wpOp P ops Q i K a w):wpOpIn (Fence.wide.inRound l) n P ops Q i K a w:=by
 unfold wpOp at h;unfold wpOpIn
 cases ho:ops[i]? with
 | none=>simp only [ho] at h ⊢;exact h
 | some o =>
  simp only [ho] at h ⊢
  have hm:o ∈ ops.toList:=by
   obtain ⟨hi,e⟩:=Array.getElem?_eq_some_iff.1 ho;rw [<- e];exact Array.getElem_mem_toList hi
  split
  ·rename_i hw
   rw [if_pos hw] at h;exact Oper.in_round (noDefers_at hd hm) (h.resolve_right fun x=>hQ x.2)
  ·rename_i hw
   rw [if_neg hw] at h;exact ⟨fun _ _=>trivial,h⟩
theorem wpAny_in_round (hd:noDefers ops.toList = true) (hQ:¬ LetsOut Q):∀ (fuel:Nat) (listed:Array Bool) (a:Act) (w:World),wpAny P md ops Q fuel listed a w -> wpAnyIn (Fence.wide.inRound l) n P md ops Q fuel listed a w
 | 0,_,_,_,h=>h
 | fuel + 1,_,_,_,h=>⟨h.1,fun i hi=>wpOpIn_mono (fun a w=>wpAny_in_round hd hQ fuel _ a w) (wpOp_in_round hd hQ (h.2 i hi))⟩
theorem wpList_in_round (hQ:¬ LetsOut Q):∀ (xs:List Oper) (a:Act) (w:World),noDefers xs = true -> wpList P ops Q xs a w -> wpListIn (Fence.wide.inRound l) n P ops Q xs a w
 | [],_,_,_,h=>h
 | o :: rest,a,w,hd,h=>by
  have hd':noDefers rest = true:=by
   unfold noDefers at hd ⊢;rw [List.all_cons,Bool.and_eq_true] at hd;exact hd.2
  unfold wpList at h;unfold wpListIn;split
  ·rename_i hw
   rw [if_pos hw] at h;exact Oper.wpIn_mono (fun a w=>wpList_in_round hQ rest a w hd') (Oper.in_round (noDefers_at hd (by simp)) (h.resolve_right fun x=>hQ x.2))
  ·rename_i hw
   rw [if_neg hw] at h;exact ⟨fun _ _=>trivial,wpList_in_round hQ rest _ _ hd' h⟩
end
end Go
end
section
/- A region that draws its order,whose operations yield known values in whatever order they come up. -/
namespace Go
def putAll (a:Act):List (Oper × Value) -> Act
 | []=>a
 | (o,v) :: r=>putAll (a.put o.dst v) r
theorem put_size (a:Act) (d:Option Tmp) (v:Value):(a.put d v).tmps.size = a.tmps.size:=by unfold Act.put;split <;> simp
theorem put_defers (a:Act) (d:Option Tmp) (v:Value):(a.put d v).defers = a.defers:=by unfold Act.put;split <;> rfl
theorem putAll_size:∀ (l:List (Oper × Value)) (a:Act),(putAll a l).tmps.size = a.tmps.size
 | [],_=>rfl
 | (o,v) :: r,a=>(putAll_size r _).trans (put_size a o.dst v)
theorem putAll_defers:∀ (l:List (Oper × Value)) (a:Act),(putAll a l).defers = a.defers
 | [],_=>rfl
 | (o,v) :: r,a=>(putAll_defers r _).trans (put_defers a o.dst v)
theorem putAll_old {s:Nat}:∀ (l:List (Oper × Value)) (a:Act),(∀ x ∈ l,x.1.dst ≠ some s) -> (putAll a l).eval (.tmp s) = a.eval (.tmp s)
 | [],_,_=>rfl
 | (o,v) :: r,a,h=>by
  unfold putAll;rw [putAll_old r _ fun x hx=>h x (by simp [hx])];exact Act.eval_put fun d hd e=>by cases e;exact h (o,v) (by simp) hd
theorem putAll_at {s:Nat}:∀ (l:List (Oper × Value)) (a:Act) (i:Nat) (o:Oper) (v:Value),(l.filterMap (·.1.dst)).Nodup -> l[i]? = some (o,v) -> o.dst = some s -> s < a.tmps.size -> (putAll a l).eval (.tmp s) = v
 | [],_,i,_,_,_,h,_,_=>by simp at h
 | (o',v') :: r,a,0,o,v,hn,h,hs,hlt=>by
  simp at h;obtain ⟨rfl,rfl⟩:=h;unfold putAll;rw [List.filterMap_cons] at hn;simp only [hs] at hn;rw [putAll_old r _ fun x hx e=>(List.nodup_cons.1 hn).1 (List.mem_filterMap.2 ⟨x,hx,e⟩),hs];exact Act.eval_put_same _ _ _ hlt
 | (o',v') :: r,a,i + 1,o,v,hn,h,hs,hlt=>by
  unfold putAll;refine putAll_at r _ i o v ?_ (by simpa using h) hs (by rw [put_size];exact hlt);rw [List.filterMap_cons] at hn
  cases hd:o'.dst with
  | none=>simpa [hd] using hn
  | some d=>simp only [hd] at hn;exact (List.nodup_cons.1 hn).2
theorem act_ext {a b:Act} (h1:a.tmps.size = b.tmps.size) (h2:a.defers = b.defers) (h3:∀ s:Nat,a.eval (.tmp s) = b.eval (.tmp s)):a = b:=by
 obtain ⟨t,d⟩:=a;obtain ⟨t',d'⟩:=b;cases h2;rw [Act.mk.injEq];refine ⟨Array.ext h1 fun i hi hi'=>?_,rfl⟩;have:=h3 i;simp only [Act.eval,Array.getD_eq_getD_getElem?] at this;rw [Array.getElem?_eq_getElem hi,Array.getElem?_eq_getElem hi'] at this;exact this
section
variable {P:Program} {Q:Exit -> Act -> World -> Prop} {a0:Act}
theorem held_putAll {xs:List Oper} {vals:List Value} {Wd:(Nat -> Bool) -> World -> Prop} {done:Nat -> Bool} {a:Act} {w:World} (hl:xs.length = vals.length) (hn:(xs.filterMap (·.dst)).Nodup) (hin:∀ o ∈ xs,∀ s,o.dst = some s -> s < a0.tmps.size)
  (hd:∀ i,i < xs.length -> done i = true) (h:Held xs.toArray (fun i v _=>vals[i]? = some v) Wd a0 done a w):a = putAll a0 (xs.zip vals):=by
 have hz:(xs.zip vals).map (·.1) = xs:=by rw [List.map_fst_zip];omega
 have hfm:(xs.zip vals).filterMap (·.1.dst) = xs.filterMap (·.dst):=by
  conv=>rhs;rw [<- hz]
  rw [List.filterMap_map];rfl
 refine act_ext (h.size.trans (putAll_size _ _).symm) (h.defers.trans (putAll_defers _ _).symm) fun s=>?_
 by_cases hs:s ∈ xs.filterMap (·.dst)
 ·obtain ⟨o,ho,he⟩:=List.mem_filterMap.1 hs;obtain ⟨i,hi,e⟩:=List.getElem_of_mem ho;have ho':xs.toArray[i]? = some o:=by rw [<- e];simp [hi]
  have h1:=h.fact i o s ho' he (hd i hi)
  have h2:(xs.zip vals)[i]? = some (o,a.eval (.tmp s)):=by
   rw [List.getElem?_zip_eq_some];exact ⟨by rw [<- e];simp [hi],h1⟩
  exact (putAll_at _ _ i o _ (by rw [hfm];exact hn) h2 he (hin o ho s he)).symm
 ·rw [h.same (by simpa using hs)];refine (putAll_old _ _ fun x hx e=>hs ?_).symm;rw [<- hfm];exact List.mem_filterMap.2 ⟨x,hx,e⟩
structure Knows (xs:List Oper) (vals:List Value) (a0:Act) (i:Nat) (a:Act):Prop where
 at_:∀ (j:Nat) (o:Oper) (s:Nat) (v:Value),xs[i]? = some o -> j ∈ Region.preds o -> ∀ oj,xs[j]? = some oj -> oj.dst = some s -> vals[j]? = some v -> a.eval (.tmp s) = v
 same:∀ s:Nat,s ∉ xs.filterMap (·.dst) -> a.eval (.tmp s) = a0.eval (.tmp s)
theorem Knows.t {xs : List Oper} {vals : List Value} {a0 a : Act} {i : Nat} (h : Knows xs vals a0 i a) (j : Nat) {o oj : Oper} {s : Nat} {v : Value} (h1 : xs[i]? = some o := by rfl) (h2 : j ∈ Region.preds o := by decide) (h3 : xs[j]? = some oj := by rfl) (h4 : oj.dst = some s := by rfl) (h5 : vals[j]? = some v := by rfl) : a.eval (.tmp s) = v := h.at_ j o s v h1 h2 oj h3 h4 h5
theorem Knows.s {xs : List Oper} {vals : List Value} {a0 a : Act} {i : Nat} (h : Knows xs vals a0 i a) (s : Nat) (h1 : s ∉ xs.filterMap (·.dst) := by decide) : a.eval (.tmp s) = a0.eval (.tmp s) := h.same s h1
def OnlyN (Q:Exit -> Act -> World -> Prop):Exit -> Act -> World -> Prop
 | .normal,a,w=>Q .normal a w
 | _,_,_=>False
theorem OnlyN.imp {Q:Exit -> Act -> World -> Prop}:∀ (e:Exit) (a:Act) (w:World),OnlyN Q e a w -> Q e a w:=fun e a w h=>by cases e <;> first | exact h | exact h.elim
theorem OnlyN.normal {Q:Exit -> Act -> World -> Prop} {a:Act} {w:World} (h:Q .normal a w):OnlyN Q .normal a w:=h
theorem OnlyN.notOut {Q:Exit -> Act -> World -> Prop}:¬ LetsOut (OnlyN Q):=fun h=>by
 obtain ⟨a,w,h⟩:=h;exact h
theorem wpIn_region_of_list {id l k:Nat} {xs:List Oper} {a:Act} {w:World} (hd:noDefers xs = true) (h:wpList P xs.toArray (OnlyN Q) xs a w):(Code.region id xs.toArray false).wpIn (Fence.wide.inRound l) k P Q a w :=
 wpIn_mono (wpIn_region_lit (wpList_in_round OnlyN.notOut _ _ _ hd h)) OnlyN.imp
end
section
variable {P:Program} {w:World} {o:Oper} {a:Act} {K:Act -> World -> Prop} {Q:Exit -> Act -> World -> Prop}
theorem ev' {a:Act} {s:Nat} {v:Value} (h:a.eval (.tmp s) = v):a.tmps[s]?.getD undef = v:=by rw [<- h];simp [Act.eval]
theorem op_val {v:Value} (h1:(execOp a.eval o).run P w = .ok (.value v) w) (h:K (a.put o.dst v) w):Oper.wp P o a w K Q:=by
 unfold Oper.wp;rw [h1];exact h
end
end Go
end
section
/- A region that draws its order,whose operations may bear guards and yield known values. -/
namespace Go
def wantedV (vals:List Value) (o:Oper):Bool :=
 match o.guard with
 | none=>true
 | some (j,b)=>match vals[j]? with
  | some (.bool x)=>x == b
  | _=>false
def guardsB (xs:List Oper):Bool:=xs.all fun o=>match o.guard with
 | none=>true
 | some (j,_)=>(Region.preds o).contains j && ((xs[j]?).bind (·.dst)).isSome
section
variable {P:Program} {Q:Exit -> Act -> World -> Prop} {a0:Act}
theorem wanted_eq {xs:List Oper} {vals:List Value} {Wd:(Nat -> Bool) -> Act -> World -> Prop} {done:Nat -> Bool} {a:Act} {w:World} {o:Oper} (hin:∀ o ∈ xs,∀ s,o.dst = some s -> s < a0.tmps.size)
  (h:HeldG xs.toArray (fun _ i v _=>vals[i]? = some v) Wd a0 done a w) (ho:o ∈ xs) (hp:∀ j ∈ Region.preds o,done j = true) (hG:guardsB xs = true):Region.wanted o (yielded xs.toArray a.tmps) = wantedV vals o:=by
 have hg:=List.all_eq_true.1 hG o ho;unfold Region.wanted wantedV
 cases hgd:o.guard with
 | none=>rfl
 | some p =>
  obtain ⟨j,b⟩:=p;rw [hgd] at hg;simp only [Bool.and_eq_true] at hg;obtain ⟨h1,h2⟩:=hg;obtain ⟨s,hs⟩:=Option.isSome_iff_exists.1 h2;obtain ⟨oj,hoj,hdj⟩:=Option.bind_eq_some_iff.1 hs;have hv:=h.fact j oj s (by simpa using hoj) hdj (hp j (by simpa using h1));have hlt:s < a.tmps.size:=by rw [h.size];exact hin oj (List.mem_of_getElem? hoj) s hdj
  have hy:yielded xs.toArray a.tmps j = match a.eval (.tmp s) with | .bool b=>some b | _=>none:=by
   unfold yielded
   have:((xs.toArray[j]?).bind (·.dst)).bind (a.tmps[·]?) = some (a.eval (.tmp s)):=by
    rw [List.getElem?_toArray,hs,Option.bind_some];simp only [Act.eval,Array.getD_eq_getD_getElem?];rw [Array.getElem?_eq_getElem hlt];rfl
   rw [this];cases a.eval (.tmp s) <;> rfl
  have hv':vals[j]? = some (a.eval (.tmp s)):=hv;simp only [hy,hv'];cases a.eval (.tmp s) <;> simp
theorem wp_region_valsG {id:Nat} {xs:List Oper} {w:World} (hm:P.follows .mixedOrders = true) (n:Nat) (hn:a0.tmps.size = n) (hB:factsGB xs n = true) (hG:guardsB xs = true) (vals:List Value) (hl:xs.length = vals.length) (Wd:World -> Prop) (h0:Wd w.drew)
  (step:∀ (i:Nat) (o:Oper) (v:Value),xs[i]? = some o -> vals[i]? = some v -> wantedV vals o = true /\ (∀ (a:Act) (w:World),Knows xs vals a0 i a -> Wd w -> ∀ K:Act -> World -> Prop,(∀ w',Wd w' -> K (a.put o.dst v) w') -> Oper.wp P o a w K Q) \/ wantedV vals o = false /\ v = undef)
  (fin:∀ w,Wd w -> Q .normal (putAll a0 (xs.zip vals)) w):(Code.region id xs.toArray true).wp P Q a0 w:=by
 have hB':=hB;unfold factsGB at hB';rw [Bool.and_eq_true,Bool.and_eq_true] at hB';obtain ⟨⟨h2,h3⟩,h4⟩:=hB'
 have hin:∀ o ∈ xs,∀ s,o.dst = some s -> s < a0.tmps.size:=fun o ho s hs=>by
  have:=List.all_eq_true.1 h3 o ho;rw [hs] at this;rw [hn];simpa using this
 refine wp_region_factsG hm n hn hB (fun _ i v _=>vals[i]? = some v) (fun _ _ w=>Wd w) h0 (fun i o ho done a w hH hd hp K hK=>?_) (fun done a w hd hH=>?_)
 ·have hi:=(List.getElem?_eq_some_iff.1 ho).1;have hv:vals[i]? = some vals[i]:=List.getElem?_eq_getElem (by omega)
  have hk:Knows xs vals a0 i a:=⟨fun j o' s v hx hj oj hoj hs hvj=>by
   rw [ho] at hx;cases hx;have:=hH.fact j oj s (by simpa using hoj) hs (hp j hj);rw [hvj] at this;exact (Option.some.inj this).symm,fun s hs=>hH.same (by simpa using hs)⟩
  rw [wanted_eq hin hH (List.mem_of_getElem? ho) hp hG];rcases step i o _ ho hv with ⟨hw,hs⟩ | ⟨hw,hs⟩
  ·rw [if_pos hw];exact hs a w hk hH.wd K fun w' hw'=>hK _ w' hv hw' fun _ _ _ _ _ _ h=>h
  ·rw [if_neg (by rw [hw];decide)];rw [hs] at hv;exact hK _ w hv hH.wd fun _ _ _ _ _ _ h=>h
 ·have hH':Held xs.toArray (fun i v _=>vals[i]? = some v) (fun _ w=>Wd w) a0 done a w:=⟨hH.wd,hH.size,hH.defers,hH.closed,hH.old,hH.fact⟩;rw [held_putAll hl (of_decide_eq_true h2) hin hd hH'];exact fin w hH.wd
end
end Go
end
section
/- A region that draws its order,whose operations may bear guards and yield known values,and whose last one,which yields nothing,waits for all others. -/
namespace Go
theorem zip_take_left {α β:Type}:∀ (xs:List α) (ys:List β) (m:Nat),ys.length <= m -> (xs.take m).zip ys = xs.zip ys
 | [],_,m,_=>by simp
 | _ :: _,[],m,_=>by simp
 | x :: xs,y :: ys,0,h=>by simp at h
 | x :: xs,y :: ys,m + 1,h=>by
  rw [List.take_succ_cons,List.zip_cons_cons,List.zip_cons_cons,zip_take_left xs ys m (by simpa using h)]
section
variable {P:Program} {Q:Exit -> Act -> World -> Prop} {a0:Act}
end
end Go
end
