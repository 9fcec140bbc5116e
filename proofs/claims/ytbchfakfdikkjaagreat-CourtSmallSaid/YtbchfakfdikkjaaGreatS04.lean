/- Own texts, merged: CtB PAw PSt PSo PDe PNm CtC0. -/
import Derived.Test.YtbchfakfdikkjaaGreatS03
import Derived.Deep.MidRow
set_option linter.unusedSimpArgs false
set_option linter.unusedVariables false
set_option linter.unnecessarySimpa false
section
/- Walks: Check. -/
namespace Go.Proofs
open Go.RowKit
set_option maxRecDepth 100000 in
set_option maxHeartbeats 2000000 in
theorem check_count (C:CaseL) (a1 a2:Option Addr) (c1 c2:Nat) (w:World) (hC:CRep w C a1 a2) (hbad:(!fromB C.claims 1 14 || decide (60 < C.strikes.length) || decide (6 < C.surveys.length)) = true) :
  Calls Tryz.prog 34 #[(.agg #[.int .i64 C.claims,.slice a1 C.strikes.length c1,.slice a2 C.surveys.length c2])] w fun e w'=>e = .returned (.int .i64 3) /\ Aft w w':=by
 have hl1:=hC.strikes.len;have hl2:=hC.surveys.len;clear hC;go_enter Tryz.func34,Tryz.ntmps34;cases h1:fromB C.claims 1 14
 ·have H1:=Lib.hid h1;clear h1 hbad;go_wp2_with (go_at_call 54;refine (from_any _ _ _).mono ?_;rintro e w' ⟨rfl,rfl⟩;rw [H1.out])
  refine wp_scope_straight ?_;go_wp2_with (go_at_call 54;refine (from_any _ _ _ _).mono ?_;rintro e w' ⟨rfl,rfl⟩;rw [H1.out])
  simp only [Exit.noGoto_ret,Exit.inBlock,Exit.then];go_ret;exact ⟨rfl,Aft.alloc _ _⟩
 ·have H1:=Lib.hid h1;rw [h1] at hbad;by_cases h2:60 < C.strikes.length
  ·have h2':decide ((60:Int) < C.strikes.length) = true:=by simp;omega
   clear h1 hbad h2;go_wp2_with fail
   refine wp_scope_straight ?_;go_wp2_with (go_at_call 54;refine (from_any _ _ _ _).mono ?_;rintro e w' ⟨rfl,rfl⟩;rw [H1.out])
   simp only [Exit.noGoto_ret,Exit.inBlock,Exit.then];go_ret;exact ⟨rfl,Aft.alloc _ _⟩
  ·have h2':decide ((60:Int) < C.strikes.length) = false:=by simp;omega
   have h3:6 < C.surveys.length:=by simpa [h2] using hbad
   have h3':decide ((6:Int) < C.surveys.length) = true:=by simp;omega
   clear h1 hbad h2 h3;go_wp2_with fail
   refine wp_scope_straight ?_;go_wp2_with (go_at_call 54;refine (from_any _ _ _ _).mono ?_;rintro e w' ⟨rfl,rfl⟩;rw [H1.out])
   simp only [Exit.noGoto_ret,Exit.inBlock,Exit.then];go_ret;exact ⟨rfl,Aft.alloc _ _⟩
structure Counts (C:CaseL):Prop where
 n:fromB C.claims 1 14 = true
 few:C.strikes.length <= 60
 fews:C.surveys.length <= 6
theorem Counts.nn {C:CaseL} (h:Counts C):1 <= C.claims /\ C.claims <= 14:=fromB_iff.1 h.n
set_option maxRecDepth 100000 in
set_option maxHeartbeats 2000000 in
theorem check_arg (C:CaseL) (a1 a2:Option Addr) (c1 c2:Nat) (w:World) (hC:CRep w C a1 a2) (hn:Counts C) (hbad:C.strikes.all (inB C.claims) = false) :
  Calls Tryz.prog 34 #[(.agg #[.int .i64 C.claims,.slice a1 C.strikes.length c1,.slice a2 C.surveys.length c2])] w fun e w'=>e = .returned (.int .i64 2) /\ Aft w w':=by
 have H1:=Lib.hid hn.n;have h2':decide ((60:Int) < C.strikes.length) = false:=by have:=hn.few;simp;omega
 have h3':decide ((6:Int) < C.surveys.length) = false:=by have:=hn.fews;simp;omega
 have hl1:=hC.strikes.len;have hl2:=hC.surveys.len;have HB:=Lib.hid hbad;have h0:Aft w (w.alloc (.cells #[.int .i64 C.claims,.slice a1 C.strikes.length c1,.slice a2 C.surveys.length c2] 25)):=Aft.alloc _ _;have HN:Hid (∀ w7,Aft (w.alloc (.cells #[.int .i64 C.claims,.slice a1 C.strikes.length c1,.slice a2 C.surveys.length c2] 25)) w7 -> Calls Tryz.prog 83 #[.slice a1 C.strikes.length c1,.func (.func 84) #[] #[.pointer (some ⟨w.heap.size,0,none⟩)]] w7 fun e w'=>e = .returned (.bool (C.strikes.all (inB C.claims))) /\ Aft w7 w') :=
  Lib.hid fun w7 h=>none_check1 C.claims a1 a2 _ _ c1 c2 _ a1 C.strikes c1 w7 hn.nn ((Blk.new w 25 _).aft h) (hC.strikes.aft (h0.trans h))
 clear hC hn hbad;rw [HB.out] at HN;go_enter Tryz.func34,Tryz.ntmps34;go_wp2_with fail
 refine wp_scope_straight ?_;go_wp2_with (first | (go_at_call 54;refine (from_any _ _ _ _).mono ?_;rintro e w' ⟨rfl,rfl⟩;rw [H1.out]) | (go_at_call 83;refine (HN.out _ (Aft.refl _)).mono ?_;rintro e w' ⟨rfl,u,rfl⟩))
 simp only [Exit.noGoto_ret,Exit.inBlock,Exit.then];go_ret;exact ⟨rfl,h0.then_lat _⟩
structure ChkL (C:CaseL) (a1 a2:Option Addr) (c1 c2:Nat) (w:World) (M k:Nat) (wr:World):Prop where
 aft:Aft w wr
 box:Blk wr w.heap.size 25 #[.int .i64 C.claims,.slice a1 C.strikes.length c1,.slice a2 C.surveys.length c2]
 set:SetS wr M k (C.strikes.take k)
 lt:w.heap.size < M
theorem ChkL.later {C:CaseL} {a1 a2:Option Addr} {c1 c2:Nat} {w wr w':World} {M k:Nat} (h:ChkL C a1 a2 c1 c2 w M k wr) (ha:Aft wr w'):ChkL C a1 a2 c1 c2 w M k w' :=
 ⟨h.aft.trans ha,h.box.aft ha,h.set.aft ha,h.lt⟩
theorem ChkL.put {C:CaseL} {a1 a2:Option Addr} {c1 c2:Nat} {w wr w':World} {M k:Nat} (h:ChkL C a1 a2 c1 c2 w M k wr) (hk:k < C.strikes.length) (hs:SetS w' M (k + 1) (C.strikes.take k ++ [C.strikes[k]])) (hg:wr.grownBy w' (some M)):ChkL C a1 a2 c1 c2 w M (k + 1) w' :=
 ⟨h.aft.grown hg (fun r e=>by cases e;exact Nat.le_of_lt h.lt),h.box.grown hg (fun e=>by cases e;exact Nat.lt_irrefl _ h.lt),by rw [List.take_succ_eq_append_getElem hk];exact hs,h.lt⟩
theorem nodup_take_succ {l:List (Int × Int)} {k:Nat} (hk:k < l.length) (h:(l.take k).Nodup) (hn:l[k] ∉ l.take k):(l.take (k + 1)).Nodup:=by
 rw [List.take_succ_eq_append_getElem hk,List.nodup_append];refine ⟨h,by simp,fun a ha b hb=>?_⟩;rw [List.mem_singleton] at hb;subst hb;rintro rfl;exact hn ha
theorem nodup_of_take {l:List (Int × Int)} {k:Nat} (hk:k < l.length) (h:l.Nodup):l[k] ∉ l.take k:=by
 intro hm;have h2:(l.take (k + 1)).Nodup:=h.sublist (List.take_sublist _ _);rw [List.take_succ_eq_append_getElem hk,List.nodup_append] at h2;exact h2.2.2 _ hm _ (by simp) rfl
set_option maxRecDepth 100000 in
set_option maxHeartbeats 2000000 in
theorem check_twice (C:CaseL) (a1 a2:Option Addr) (c1 c2:Nat) (w:World) (hC:CRep w C a1 a2) (hn:Counts C) (hin:C.strikes.all (inB C.claims) = true) (hbad:¬ C.strikes.Nodup) :
  Calls Tryz.prog 34 #[(.agg #[.int .i64 C.claims,.slice a1 C.strikes.length c1,.slice a2 C.surveys.length c2])] w fun e w'=>e = .returned (.int .i64 6) /\ Aft w w':=by
 have H1:=Lib.hid hn.n;have h2':decide ((60:Int) < C.strikes.length) = false:=by have:=hn.few;simp;omega
 have h3':decide ((6:Int) < C.surveys.length) = false:=by have:=hn.fews;simp;omega
 have hl1:=hn.few;have hl2:=hn.fews;have HBAD:=Lib.hid hbad;have HIN:=Lib.hid hin
 have HS:Hid (∀ k,(h:k < C.strikes.length) -> SmallS C.strikes[k]):=Lib.hid fun k h=>by
  have:=inB_iff.1 (List.all_eq_true.1 hin _ (List.getElem_mem h));have:=hn.nn;exact ⟨by omega,by omega⟩
 have h0:Aft w (w.alloc (.cells #[.int .i64 C.claims,.slice a1 C.strikes.length c1,.slice a2 C.surveys.length c2] 25)):=Aft.alloc _ _;have HN:Hid (∀ w7,Aft (w.alloc (.cells #[.int .i64 C.claims,.slice a1 C.strikes.length c1,.slice a2 C.surveys.length c2] 25)) w7 -> Calls Tryz.prog 83 #[.slice a1 C.strikes.length c1,.func (.func 84) #[] #[.pointer (some ⟨w.heap.size,0,none⟩)]] w7 fun e w'=>e = .returned (.bool (C.strikes.all (inB C.claims))) /\ Aft w7 w') :=
  Lib.hid fun w7 h=>none_check1 C.claims a1 a2 _ _ c1 c2 _ a1 C.strikes c1 w7 hn.nn ((Blk.new w 25 _).aft h) (hC.strikes.aft (h0.trans h))
 have HC:=Lib.hid hC;clear hC hn hbad hin;rw [HIN.out] at HN;have HBK:=Lib.hid (Blk.new w 25 #[.int .i64 C.claims,.slice a1 C.strikes.length c1,.slice a2 C.surveys.length c2]);have hmm:=@run_makeMap Tryz.prog;go_enter Tryz.func34,Tryz.ntmps34;go_wp2_with fail
 refine wp_scope_straight ?_;go_wp2_with (first | (go_at_call 54;refine (from_any _ _ _ _).mono ?_;rintro e w' ⟨rfl,rfl⟩;rw [H1.out]) | (go_at_call 83;refine (HN.out _ (Aft.refl _)).mono ?_;rintro e w' ⟨rfl,u,rfl⟩;obtain ⟨W1,hW1⟩:∃ W1,(w.alloc (.cells #[.int .i64 C.claims,.slice a1 C.strikes.length c1,.slice a2 C.surveys.length c2] 25)).lat u = W1:=⟨_,rfl⟩;have HA1:Hid (Aft w W1):=Lib.hid (hW1 ▸ h0.then_lat u);have HB1:Hid (Blk W1 w.heap.size 25 #[.int .i64 C.claims,.slice a1 C.strikes.length c1,.slice a2 C.surveys.length c2]):=Lib.hid (hW1 ▸ HBK.out.lat u);have hb1:=HB1.out.lt;have k0:=HB1.out.cell 0;have k1:=HB1.out.cell 1;have k2:=HB1.out.cell 2;simp only [List.getElem?_toArray,List.getElem?_cons_zero,List.getElem?_cons_succ] at k0 k1 k2;rw [hW1];clear hW1))
 refine wp_label ?_;have h0:ChkL C a1 a2 c1 c2 w W1.heap.size 0 (W1.alloc (.map #[] 0)):=⟨HA1.out.then_alloc _,HB1.out.alloc _,SetS.made W1,hb1⟩;have H0:=Lib.hid h0;clear h0 hmm HBK;go_wp2_with fail
 generalize (W1.alloc (.map #[] 0)) = W2 at *;generalize W1.heap.size = M at *;clear k0 k1 k2 hb1;go_loopw [4,35] (fun e i wr=>∃ k:Nat,i = .int .i64 k /\ e = .int .i64 0 /\ k <= C.strikes.length /\ (C.strikes.take k).Nodup /\ ChkL C a1 a2 c1 c2 w M k wr) (fun _ i _=>C.strikes.length - (intOf i).toNat)
 case atStart=>exact ⟨0,rfl,rfl,by omega,by simp,H0.out⟩
 case round =>
  obtain ⟨k,rfl,rfl,hk,hnd,hch⟩:=hrel;by_cases hkl:k < C.strikes.length
  ·have HCH:=Lib.hid hch;have HND:=Lib.hid hnd;obtain ⟨b,o,rfl,hb,hc⟩:=(HC.out.strikes.aft hch.aft).at hkl;obtain ⟨h1,h2⟩:=hc k hkl;have HK:=Lib.hid (HS.out k hkl);have HLOOK:Hid (∀ w7,Aft wr w7 -> (Instr.lookup 115 (.map (some M)) (.agg #[.int .i64 C.strikes[k].1,.int .i64 C.strikes[k].2]) false).run Tryz.prog w7 = .ok (.bool (decide (C.strikes[k] ∈ C.strikes.take k))) w7):=Lib.hid fun w7 h7=>(HCH.out.set.aft h7).look HK.out
   have HPUT:Hid (∀ w7,Aft wr w7 -> ∃ w',(Instr.mapUpdate 115 (.map (some M)) (.agg #[.int .i64 C.strikes[k].1,.int .i64 C.strikes[k].2]) (.bool true)).run Tryz.prog w7 = .ok () w' /\ ChkL C _ a2 c1 c2 w M (k + 1) w'):=Lib.hid fun w7 h7=>by
    obtain ⟨w',h1,h2,h3⟩:=(HCH.out.set.aft h7).put HK.out (by omega);exact ⟨w',h1,(HCH.out.later h7).put hkl h2 h3⟩
   have HNX:Hid (C.strikes[k] ∉ C.strikes.take k -> (C.strikes.take (k + 1)).Nodup):=Lib.hid (nodup_take_succ hkl hnd);have ha3:Aft wr (wr.alloc (.cells #[.int .i64 C.strikes[k].1,.int .i64 C.strikes[k].2] 57)):=Aft.alloc _ _;clear hc hch hnd;by_cases hm:C.strikes[k] ∈ C.strikes.take k
   ·have hlk:=HLOOK.out _ ha3;rw [decide_eq_true hm] at hlk;clear HPUT HLOOK hm HNX HK;have hc3:=HCH.out.later ha3;have HC3:=Lib.hid hc3;have hb3:=hc3.box.lt;have k2:=hc3.box.cell 2;simp only [List.getElem?_toArray,List.getElem?_cons_zero,List.getElem?_cons_succ] at k2;clear ha3 hc3;go_wp2_with fail
    generalize (wr.alloc (.cells #[.int .i64 C.strikes[k].1,.int .i64 C.strikes[k].2] 57)) = W3 at *;go_loopw [4,7] (fun e i wr'=>e = .int .i64 6 /\ i = .int .i64 0 /\ wr' = W3) (fun _ _ _=>0)
    case atStart=>exact ⟨rfl,rfl,rfl⟩
    case round =>
     obtain ⟨rfl,rfl,rfl⟩:=hrel;by_cases hz:C.surveys.length = 0
     ·have hz':decide (0 < C.surveys.length) = false:=by simp [hz]
      clear hz hlk;go_wp2_with fail
      simp only [Exit.noGoto_ret,Exit.inBlock,Exit.then];go_ret;exact ⟨rfl,HC3.out.aft⟩
     ·have hz':decide (0 < C.surveys.length) = true:=by simp;omega
      clear hz hlk;go_wp2_with fail
      simp only [Exit.noGoto_ret,Exit.inBlock,Exit.then];go_ret;exact ⟨rfl,HC3.out.aft⟩
   ·have hlk:=HLOOK.out _ ha3;rw [decide_eq_false hm] at hlk;obtain ⟨w',hp1,hp2⟩:=HPUT.out _ ha3;have HP2:=Lib.hid hp2;have HN2:=Lib.hid (HNX.out hm);clear hp2 HPUT HLOOK hm HNX HK;go_wp2_with fail
    exact ⟨⟨k + 1,by go_num,rfl,by omega,HN2.out,HP2.out⟩,by simp [intOf];omega⟩
  ·exfalso;obtain rfl:k = C.strikes.length:=by omega
   rw [List.take_of_length_le (Nat.le_refl _)] at hnd;exact HBAD.out hnd
theorem surveysE_cons (N:Int) (l:List Int) (r:List (List Int)):surveysE N (l :: r) = if fromB l.length 1 6 then (if listedE N l = 0 then surveysE N r else listedE N l) else 3:=rfl
structure SvL (N:Int) (L:List (List Int)) (j:Nat) (e:Int):Prop where
 le:j <= L.length
 is:(e = 0 /\ surveysE N L = surveysE N (L.drop j)) \/ (e ≠ 0 /\ surveysE N L = e)
theorem SvL.start (N:Int) (L:List (List Int)):SvL N L 0 0:=⟨by omega,.inl ⟨rfl,rfl⟩⟩
theorem SvL.count {N:Int} {L:List (List Int)} {j:Nat} (h:SvL N L j 0) (hj:j < L.length) (hf:fromB L[j].length 1 6 = false):SvL N L (j + 1) 3:=by
 rcases h.is with ⟨-,h1⟩ | ⟨h1,-⟩
 ·refine ⟨by omega,.inr ⟨by decide,?_⟩⟩;rw [h1,List.drop_eq_getElem_cons hj,surveysE_cons];rw [if_neg (by rw [hf];decide)]
 ·exact absurd rfl h1
theorem SvL.listed {N:Int} {L:List (List Int)} {j:Nat} (h:SvL N L j 0) (hj:j < L.length) (hf:fromB L[j].length 1 6 = true):SvL N L (j + 1) (listedE N L[j]):=by
 rcases h.is with ⟨-,h1⟩ | ⟨h1,-⟩
 ·rw [List.drop_eq_getElem_cons hj,surveysE_cons,if_pos hf] at h1;by_cases e:listedE N L[j] = 0
  ·rw [if_pos e] at h1;exact ⟨by omega,.inl ⟨e,by rw [h1]⟩⟩
  ·rw [if_neg e] at h1;exact ⟨by omega,.inr ⟨e,h1⟩⟩
 ·exact absurd rfl h1
theorem SvL.done {N:Int} {L:List (List Int)} {j:Nat} {e:Int} (h:SvL N L j e) (hj:j = L.length \/ e ≠ 0):e = surveysE N L:=by
 rcases h.is with ⟨rfl,h1⟩ | ⟨_,h1⟩
 ·rcases hj with rfl | hj
  ·rw [h1,List.drop_of_length_le (Nat.le_refl _)];rfl
  ·exact absurd rfl hj
 ·exact h1.symm
theorem Lists.row {w:World} {A:Option Addr} {l:List (List Int)} (h:Lists w A l) {k:Nat} (hk:k < l.length) :
  ∃ b o A' c',A = some ⟨b,o,none⟩ /\ b < w.heap.size /\ w.cell? ⟨b,o + k,none⟩ = some (.slice A' l[k].length c') /\ Ints w A' l[k]:=by
 obtain ⟨b,o,e,hb,hc⟩:=h.at hk;obtain ⟨A',c',h1,h2⟩:=hc k hk;exact ⟨b,o,A',c',e,hb,h1,h2⟩
set_option maxRecDepth 100000 in
set_option maxHeartbeats 2000000 in
theorem check_once (C:CaseL) (a1 a2:Option Addr) (c1 c2:Nat) (w:World) (hC:CRep w C a1 a2) (hn:Counts C) (hin:C.strikes.all (inB C.claims) = true) (hbad:C.strikes.Nodup) :
  Calls Tryz.prog 34 #[(.agg #[.int .i64 C.claims,.slice a1 C.strikes.length c1,.slice a2 C.surveys.length c2])] w fun e w'=>e = .returned (.int .i64 (surveysE C.claims C.surveys)) /\ Aft w w':=by
 have H1:=Lib.hid hn.n;have h2':decide ((60:Int) < C.strikes.length) = false:=by have:=hn.few;simp;omega
 have h3':decide ((6:Int) < C.surveys.length) = false:=by have:=hn.fews;simp;omega
 have hl1:=hn.few;have hl2:=hn.fews;have HBAD:=Lib.hid hbad;have HIN:=Lib.hid hin
 have HS:Hid (∀ k,(h:k < C.strikes.length) -> SmallS C.strikes[k]):=Lib.hid fun k h=>by
  have:=inB_iff.1 (List.all_eq_true.1 hin _ (List.getElem_mem h));have:=hn.nn;exact ⟨by omega,by omega⟩
 have h0:Aft w (w.alloc (.cells #[.int .i64 C.claims,.slice a1 C.strikes.length c1,.slice a2 C.surveys.length c2] 25)):=Aft.alloc _ _;have HN:Hid (∀ w7,Aft (w.alloc (.cells #[.int .i64 C.claims,.slice a1 C.strikes.length c1,.slice a2 C.surveys.length c2] 25)) w7 -> Calls Tryz.prog 83 #[.slice a1 C.strikes.length c1,.func (.func 84) #[] #[.pointer (some ⟨w.heap.size,0,none⟩)]] w7 fun e w'=>e = .returned (.bool (C.strikes.all (inB C.claims))) /\ Aft w7 w') :=
  Lib.hid fun w7 h=>none_check1 C.claims a1 a2 _ _ c1 c2 _ a1 C.strikes c1 w7 hn.nn ((Blk.new w 25 _).aft h) (hC.strikes.aft (h0.trans h))
 have HC:=Lib.hid hC;clear hC hn hbad hin;rw [HIN.out] at HN;have HBK:=Lib.hid (Blk.new w 25 #[.int .i64 C.claims,.slice a1 C.strikes.length c1,.slice a2 C.surveys.length c2]);have hmm:=@run_makeMap Tryz.prog;go_enter Tryz.func34,Tryz.ntmps34;go_wp2_with fail
 refine wp_scope_straight ?_;go_wp2_with (first | (go_at_call 54;refine (from_any _ _ _ _).mono ?_;rintro e w' ⟨rfl,rfl⟩;rw [H1.out]) | (go_at_call 83;refine (HN.out _ (Aft.refl _)).mono ?_;rintro e w' ⟨rfl,u,rfl⟩;obtain ⟨W1,hW1⟩:∃ W1,(w.alloc (.cells #[.int .i64 C.claims,.slice a1 C.strikes.length c1,.slice a2 C.surveys.length c2] 25)).lat u = W1:=⟨_,rfl⟩;have HA1:Hid (Aft w W1):=Lib.hid (hW1 ▸ h0.then_lat u);have HB1:Hid (Blk W1 w.heap.size 25 #[.int .i64 C.claims,.slice a1 C.strikes.length c1,.slice a2 C.surveys.length c2]):=Lib.hid (hW1 ▸ HBK.out.lat u);have hb1:=HB1.out.lt;have k0:=HB1.out.cell 0;have k1:=HB1.out.cell 1;have k2:=HB1.out.cell 2;simp only [List.getElem?_toArray,List.getElem?_cons_zero,List.getElem?_cons_succ] at k0 k1 k2;rw [hW1];clear hW1))
 refine wp_label ?_;have h0:ChkL C a1 a2 c1 c2 w W1.heap.size 0 (W1.alloc (.map #[] 0)):=⟨HA1.out.then_alloc _,HB1.out.alloc _,SetS.made W1,hb1⟩;have H0:=Lib.hid h0;clear h0 hmm HBK;go_wp2_with fail
 generalize (W1.alloc (.map #[] 0)) = W2 at *;generalize W1.heap.size = M at *;clear k0 k1 k2 hb1;go_loopw [4,35] (fun e i wr=>∃ k:Nat,i = .int .i64 k /\ e = .int .i64 0 /\ k <= C.strikes.length /\ ChkL C a1 a2 c1 c2 w M k wr) (fun _ i _=>C.strikes.length - (intOf i).toNat)
 case atStart=>exact ⟨0,rfl,rfl,by omega,H0.out⟩
 case round =>
  obtain ⟨k,rfl,rfl,hk,hch⟩:=hrel;by_cases hkl:k < C.strikes.length
  ·have HCH:=Lib.hid hch;obtain ⟨b,o,rfl,hb,hc⟩:=(HC.out.strikes.aft hch.aft).at hkl;obtain ⟨h1,h2⟩:=hc k hkl;have HK:=Lib.hid (HS.out k hkl);have ha3:Aft wr (wr.alloc (.cells #[.int .i64 C.strikes[k].1,.int .i64 C.strikes[k].2] 57)):=Aft.alloc _ _;have hlk:=(HCH.out.set.aft ha3).look HK.out;rw [decide_eq_false (nodup_of_take hkl HBAD.out)] at hlk;unfold strV at hlk;obtain ⟨w',hp1,hp2,hp3⟩:=(HCH.out.set.aft ha3).put HK.out (by omega);unfold strV at hp1;have HP2:=Lib.hid ((HCH.out.later ha3).put hkl hp2 hp3);clear hp2 hp3 hc hch HK;go_wp2_with fail
   exact ⟨⟨k + 1,by go_num,rfl,by omega,HP2.out⟩,by simp [intOf];omega⟩
  ·obtain rfl:k = C.strikes.length:=by omega
   have HC3:Hid (Aft w wr /\ Blk wr w.heap.size 25 #[.int .i64 C.claims,.slice a1 C.strikes.length c1,.slice a2 C.surveys.length c2]):=Lib.hid ⟨hch.aft,hch.box⟩;clear hch HS;go_wp2_with fail
   go_loopw [4,7] (fun e i wr=>∃ (j:Nat) (x:Int),i = .int .i64 j /\ e = .int .i64 x /\ SvL C.claims C.surveys j x /\ Aft w wr /\ Blk wr w.heap.size 25 #[.int .i64 C.claims,.slice a1 C.strikes.length c1,.slice a2 C.surveys.length c2]) (fun _ i _=>C.surveys.length - (intOf i).toNat)
   case atStart=>exact ⟨0,0,rfl,rfl,SvL.start _ _,HC3.out.1,HC3.out.2⟩
   case round =>
    obtain ⟨j,x,rfl,rfl,hsv,haw,hbw⟩:=hrel;have HSV:=Lib.hid hsv;have hjl:=hsv.le;have k0:=hbw.cell 0;have k1:=hbw.cell 1;have k2:=hbw.cell 2;have hbl:=hbw.lt;simp only [List.getElem?_toArray,List.getElem?_cons_zero,List.getElem?_cons_succ] at k0 k1 k2;have HAW:=Lib.hid haw;have HBW:=Lib.hid hbw;clear hsv hbw haw HC3;by_cases hj:j < C.surveys.length
    ·have hj':decide (j < C.surveys.length) = true:=by simpa using hj
     by_cases hx:x = 0
     ·subst hx;obtain ⟨b,o,A',c',rfl,hb,h1,h2⟩:=(HC.out.surveys.aft HAW.out).row hj;have hll:=h2.len;have h2:=Lib.hid h2;have H69:=Lib.hid (fun W (ha:Aft wr W)=>listed_any C.claims a1 (some ⟨b,o,none⟩) C.strikes.length C.surveys.length c1 c2 A' C.surveys[j] c' W (fromB_iff.1 H1.out) (h2.out.aft ha));cases hf:fromB C.surveys[j].length 1 6
      ·have HF:=Lib.hid hf;have HSV2:=Lib.hid (HSV.out.count hj hf);clear hf;go_wp2_with (go_at_call 54;refine (from_any _ _ _ _).mono ?_;rintro e w' ⟨rfl,rfl⟩;rw [HF.out])
       exact ⟨⟨j + 1,3,by go_num,rfl,HSV2.out,HAW.out,HBW.out⟩,by simp [intOf];omega⟩
      ·have HF:=Lib.hid hf;have HSV2:=Lib.hid (HSV.out.listed hj hf);clear hf;generalize C.surveys[j] = l at *;go_wp2_with (go_at_call 54;refine (from_any _ _ _ _).mono ?_;rintro e w' ⟨rfl,rfl⟩;rw [HF.out])
       refine wp_region_tail 6 (by kernel_rfl) (by kernel_rfl) ?_;simp only [List.take_succ_cons,List.take_zero,List.drop_succ_cons,List.drop_zero];repeat (first | go_big_quiet_skip | (go_big_quiet_want;go_big_quiet_op;go_big_quiet_on))
       refine wpQuiet_nil ?_;go_wp2_with (go_at_call 69;refine (H69.out _ (Aft.drew _)).mono ?_;rintro e w' ⟨rfl,u9,rfl⟩)
       have h9:Aft wr (wr.drew.lat u9):=(Aft.drew _).then_lat _;exact ⟨⟨j + 1,_,by go_num,rfl,HSV2.out,HAW.out.trans h9,HBW.out.aft h9⟩,by simp [intOf];omega⟩
     ·have hx':(x == 0) = false:=by simpa using hx
      have HD:=Lib.hid (HSV.out.done (.inr hx));clear hx;go_wp2_with fail
      simp only [Exit.noGoto_ret,Exit.inBlock,Exit.then];go_ret;exact ⟨ret_int HD.out,HAW.out⟩
    ·have hj':decide (j < C.surveys.length) = false:=by simpa using hj
     have HD:=Lib.hid (HSV.out.done (.inl (by omega)));clear hj;go_wp2_with fail
     simp only [Exit.noGoto_ret,Exit.inBlock,Exit.then];go_ret;exact ⟨ret_int HD.out,HAW.out⟩
theorem check_any (C:CaseL) (a1 a2:Option Addr) (c1 c2:Nat) (w:World) (hC:CRep w C a1 a2) :
  Calls Tryz.prog 34 #[(.agg #[.int .i64 C.claims,.slice a1 C.strikes.length c1,.slice a2 C.surveys.length c2])] w fun e w'=>e = .returned (.int .i64 (caseE C)) /\ Aft w w':=by
 unfold caseE;split
 ·rename_i h;exact check_count C a1 a2 c1 c2 w hC h
 ·rename_i h
  simp only [Bool.or_eq_true,Bool.not_eq_true',decide_eq_true_eq,not_or,Bool.not_eq_false] at h;have hn:Counts C:=⟨h.1.1,by omega,by omega⟩;split
  ·rename_i h2;exact check_arg C a1 a2 c1 c2 w hC hn (by simpa using h2)
  ·rename_i h2
   have h2:C.strikes.all (inB C.claims) = true:=by simpa using h2
   split
   ·rename_i h3;exact check_twice C a1 a2 c1 c2 w hC hn h2 h3
   ·rename_i h3;exact check_once C a1 a2 c1 c2 w hC hn h2 (by simpa using h3)
end Go.Proofs
end
section
/- Plain: hearing claims. What is found behind any hearings is part of the one award;the award is reached in rounds,one by one or all at once. -/
namespace Court
def struckB (S:List (Int × Int)) (sure:Int -> Bool) (f:Int -> Nat) (n:Int) (v:Nat):Bool:=S.any fun s=>decide (s.2 = n) && !sure n && decide (f s.1 = v)
def rule (S:List (Int × Int)) (sure:Int -> Bool) (f:Int -> Nat) (n:Int):Nat:=if struckB S sure f n 1 then 2 else if struckB S sure f n 0 then 0 else 1
def heard1 (S:List (Int × Int)) (sure:Int -> Bool) (f:Int -> Nat) (n:Int):Nat:=if f n = 0 then rule S sure f n else f n
def setF (f:Int -> Nat) (n:Int) (v:Nat):Int -> Nat:=fun k=>if k = n then v else f k
def hear (S:List (Int × Int)) (sure:Int -> Bool) (f:Int -> Nat) (n:Int):Int -> Nat:=setF f n (heard1 S sure f n)
def Has (f g:Int -> Nat):Prop:=∀ n,f n ≠ 0 -> g n = f n
def Three (f:Int -> Nat):Prop:=∀ n,f n <= 2
section
variable {S:List (Int × Int)} {sure:Int -> Bool} {f g:Int -> Nat} {n:Int} {v:Nat}
theorem struck_iff:struckB S sure f n v = true ↔ sure n = false /\ ∃ s ∈ S,s.2 = n /\ f s.1 = v:=by
 unfold struckB;rw [List.any_eq_true];constructor
 ·rintro ⟨s,hs,h⟩;simp only [Bool.and_eq_true,decide_eq_true_eq,Bool.not_eq_true'] at h;exact ⟨h.1.2,s,hs,h.1.1,h.2⟩
 ·rintro ⟨h0,s,hs,h1,h2⟩;exact ⟨s,hs,by simp [h0,h1,h2]⟩
theorem struck_has (h:Has f g) (hv:v ≠ 0) (hs:struckB S sure f n v = true):struckB S sure g n v = true:=by
 obtain ⟨h0,s,h1,h2,h3⟩:=struck_iff.1 hs;exact struck_iff.2 ⟨h0,s,h1,h2,by rw [h _ (by rw [h3];exact hv),h3]⟩
theorem rule_has (h:Has f g) (hr:rule S sure f n ≠ 0) (h3:Three f):rule S sure g n = rule S sure f n:=by
 unfold rule at hr ⊢;by_cases h1:struckB S sure f n 1 = true
 ·rw [if_pos h1,if_pos (struck_has h (by decide) h1)]
 ·rw [if_neg h1] at hr ⊢;by_cases h0:struckB S sure f n 0 = true
  ·rw [if_pos h0] at hr;exact absurd rfl hr
  ·rw [if_neg h0]
   have key:∀ s ∈ S,s.2 = n -> sure n = false -> g s.1 = 2:=fun s hs hn hsu=>by
    have a1:f s.1 ≠ 1:=fun e=>h1 (struck_iff.2 ⟨hsu,s,hs,hn,e⟩)
    have a0:f s.1 ≠ 0:=fun e=>h0 (struck_iff.2 ⟨hsu,s,hs,hn,e⟩)
    have:=h3 s.1;rw [h _ a0];omega
   rw [if_neg,if_neg]
   ·intro e;obtain ⟨e0,s,e1,e2,e3⟩:=struck_iff.1 e;rw [key s e1 e2 e0] at e3;cases e3
   ·intro e;obtain ⟨e0,s,e1,e2,e3⟩:=struck_iff.1 e;rw [key s e1 e2 e0] at e3;cases e3
theorem rule_le (S:List (Int × Int)) (sure:Int -> Bool) (f:Int -> Nat) (n:Int):rule S sure f n <= 2:=by
 unfold rule;split
 ·omega
 ·split <;> omega
theorem heard_le (h:Three f) (n:Int):heard1 S sure f n <= 2:=by
 unfold heard1;split
 ·exact rule_le _ _ _ _
 ·exact h n
theorem hear_three (h:Three f) (n:Int):Three (hear S sure f n):=fun k=>by
 unfold hear setF;split
 ·exact heard_le h n
 ·exact h k
theorem has_hear (S:List (Int × Int)) (sure:Int -> Bool) (f:Int -> Nat) (n:Int):Has f (hear S sure f n):=fun k hk=>by
 unfold hear setF heard1;by_cases e:k = n
 ·subst e;rw [if_pos rfl,if_neg hk]
 ·rw [if_neg e]
theorem Has.refl (f:Int -> Nat):Has f f:=fun _ _=>rfl
theorem Has.trans {f g h:Int -> Nat} (a:Has f g) (b:Has g h):Has f h:=fun n hn=>by
 have e:=a n hn;rw [b n (by rw [e];exact hn),e]
def Sound (S:List (Int × Int)) (sure:Int -> Bool) (f0 f:Int -> Nat):Prop:=∀ n,f n ≠ 0 -> f0 n = f n \/ rule S sure f n = f n
def Done (S:List (Int × Int)) (sure:Int -> Bool) (N:Nat) (f:Int -> Nat):Prop:=∀ n:Int,0 <= n -> n < N -> f n = 0 -> rule S sure f n = 0
theorem sound_start (S:List (Int × Int)) (sure:Int -> Bool) (f0:Int -> Nat):Sound S sure f0 f0:=fun _ _=>.inl rfl
theorem sound_hear {f0:Int -> Nat} (h:Sound S sure f0 f) (h3:Three f) (n:Int):Sound S sure f0 (hear S sure f n):=fun k hk=>by
 have hh:=has_hear S sure f n;by_cases h0:f k = 0
 ·by_cases e:k = n
  ·subst e;have e1:hear S sure f k k = rule S sure f k:=by unfold hear setF heard1;rw [if_pos rfl,if_pos h0]
   right;rw [e1] at hk ⊢;exact rule_has hh hk h3
  ·have e1:hear S sure f n k = f k:=by unfold hear setF;rw [if_neg e]
   rw [e1] at hk;exact absurd h0 hk
 ·have e1:=hh k h0;rw [e1];rcases h k h0 with h1 | h1
  ·exact .inl h1
  ·right;rw [<- h1];exact rule_has hh (by rw [h1];exact h0) h3
theorem has_of {f0:Int -> Nat} {N:Nat} (hg:Done S sure N g) (hf:Has f g) (hf3:Three f) (h0:∀ n:Int,0 <= n -> n < N -> g n ≠ 0 -> f0 n = g n \/ rule S sure g n = g n) (n:Int) (hn:0 <= n /\ n < N) (hst:f0 n = 0 \/ f n ≠ 0):Has (hear S sure f n) g:=fun k hk=>by
 by_cases hk0:f k = 0
 ·by_cases e:k = n
  ·subst e;have e1:hear S sure f k k = rule S sure f k:=by unfold hear setF heard1;rw [if_pos rfl,if_pos hk0]
   rw [e1] at hk ⊢;have hr:=rule_has hf hk hf3;by_cases hg0:g k = 0
   ·have:=hg k hn.1 hn.2 hg0;rw [hr] at this;exact absurd this hk
   ·rcases h0 k hn.1 hn.2 hg0 with h1 | h1
    ·rcases hst with h2 | h2
     ·rw [h2] at h1;exact absurd h1.symm hg0
     ·exact absurd hk0 h2
    ·rw [<- h1,hr]
  ·have e1:hear S sure f n k = f k:=by unfold hear setF;rw [if_neg e]
   rw [e1] at hk;exact absurd hk0 hk
 ·rw [has_hear S sure f n k hk0];exact hf k hk0
end
def hears (S:List (Int × Int)) (sure:Int -> Bool) (f:Int -> Nat) (order:List Int):Int -> Nat:=order.foldl (hear S sure) f
section
variable {S:List (Int × Int)} {sure:Int -> Bool} {f0 f g:Int -> Nat} {N:Nat} {x:(Int -> Nat) × (Int -> Nat)}
theorem hears_three (h:Three f):∀ (o:List Int),Three (hears S sure f o):=by
 intro o
 induction o generalizing f with
 | nil=>exact h
 | cons n r ih=>exact ih (hear_three h n)
theorem has_hears:∀ (o:List Int) (f:Int -> Nat),Has f (hears S sure f o)
 | [],f=>Has.refl f
 | n :: r,f=>(has_hear S sure f n).trans (has_hears r _)
theorem sound_hears (h3:Three f) (h:Sound S sure f0 f):∀ (o:List Int),Sound S sure f0 (hears S sure f o):=by
 intro o
 induction o generalizing f with
 | nil=>exact h
 | cons n r ih=>exact ih (hear_three h3 n) (sound_hear h h3 n)
theorem hears_has (hg:Done S sure N g) (hs:Sound S sure f0 g):∀ (o:List Int) (f:Int -> Nat),(∀ n,f0 n ≠ 0 -> f n ≠ 0) -> Three f -> Has f g -> (∀ n ∈ o,0 <= n /\ n < N) -> Has (hears S sure f o) g
 | [],_,_,_,h,_=>h
 | n :: r,f,hst,h3,h,ho=>hears_has hg hs r _ (fun k hk=>by
   have:=hst k hk;rw [has_hear S sure f n k this];exact this) (hear_three h3 n) (has_of hg h h3 (fun n _ _=>hs n) n (ho n List.mem_cons_self) (by
   by_cases e:f0 n = 0
   ·exact .inl e
   ·exact .inr (hst n e))) fun k hk=>ho k (List.mem_cons_of_mem _ hk)
theorem hears_append (S:List (Int × Int)) (sure:Int -> Bool) (f:Int -> Nat) (a b:List Int):hears S sure f (a ++ b) = hears S sure (hears S sure f a) b:=List.foldl_append
def Reach (S:List (Int × Int)) (sure:Int -> Bool) (N:Nat) (f0 f:Int -> Nat):Prop:=∃ o:List Int,(∀ n ∈ o,0 <= n /\ n < N) /\ f = hears S sure f0 o
theorem Reach.start (S:List (Int × Int)) (sure:Int -> Bool) (N:Nat) (f0:Int -> Nat):Reach S sure N f0 f0:=⟨[],by simp,rfl⟩
theorem Reach.step (h:Reach S sure N f0 f) (o:List Int) (ho:∀ n ∈ o,0 <= n /\ n < N):Reach S sure N f0 (hears S sure f o):=by
 obtain ⟨o',h1,rfl⟩:=h;exact ⟨o' ++ o,fun n hn=>(List.mem_append.1 hn).elim (h1 n) (ho n),(hears_append _ _ _ _ _).symm⟩
theorem Reach.three (h:Reach S sure N f0 f) (h0:Three f0):Three f:=by obtain ⟨o,-,rfl⟩:=h;exact hears_three h0 o
theorem Reach.sound (h:Reach S sure N f0 f) (h0:Three f0):Sound S sure f0 f:=by obtain ⟨o,-,rfl⟩:=h;exact sound_hears h0 (sound_start _ _ _) o
theorem Reach.has (h:Reach S sure N f0 f):Has f0 f:=by obtain ⟨o,-,rfl⟩:=h;exact has_hears o f0
theorem Reach.le (h:Reach S sure N f0 f) (h0:Three f0) (hg:Done S sure N g) (hs:Sound S sure f0 g) (hg0:Has f0 g):Has f g:=by
 obtain ⟨o,ho,rfl⟩:=h;exact hears_has hg hs o f0 (fun _ h=>h) h0 hg0 ho
theorem has_both (h:Has f g) (h':Has g f):f = g:=by
 funext n
 by_cases hf:f n = 0
 ·by_cases hg:g n = 0
  ·rw [hf,hg]
  ·exact h' n hg
 ·exact (h n hf).symm
theorem Reach.unique (h0:Three f0) (hf:Reach S sure N f0 f) (df:Done S sure N f) (hg:Reach S sure N f0 g) (dg:Done S sure N g):f = g :=
 has_both (hf.le h0 dg (hg.sound h0) hg.has) (hg.le h0 df (hf.sound h0) hf.has)
def allN (N:Nat):List Int:=(List.range N).map fun (i:Nat)=>(i:Int)
theorem mem_allN {N:Nat} {n:Int}:n ∈ allN N ↔ 0 <= n /\ n < N:=by
 unfold allN;rw [List.mem_map];constructor
 ·rintro ⟨i,hi,rfl⟩;have:=List.mem_range.1 hi;omega
 ·rintro ⟨h0,h1⟩;obtain ⟨i,rfl⟩:=Int.eq_ofNat_of_zero_le h0;exact ⟨i,List.mem_range.2 (by omega),rfl⟩
def round (S:List (Int × Int)) (sure:Int -> Bool) (N:Nat) (f:Int -> Nat):Int -> Nat:=hears S sure f (allN N)
theorem hears_same:∀ (o:List Int) (f:Int -> Nat),hears S sure f o = f -> ∀ n ∈ o,f n = 0 -> rule S sure f n = 0
 | [],_,_,n,hn,_=>by cases hn
 | m :: r,f,h,n,hn,h0=>by
  have e:hear S sure f m = f:=has_both (fun k hk=>by
    have:=has_hears (S:=S) (sure:=sure) r (hear S sure f m) k hk;have h':hears S sure (hear S sure f m) r = f:=h;rw [h'] at this;exact this) (has_hear S sure f m)
  rcases List.mem_cons.1 hn with rfl | hn
  ·have:=congrFun e n;unfold hear setF heard1 at this;rw [if_pos rfl,if_pos h0] at this;rw [this,h0]
  ·have h':hears S sure (hear S sure f m) r = f:=h;rw [e] at h';exact hears_same r f h' n hn h0
theorem done_of_round (h:round S sure N f = f):Done S sure N f:=fun n h1 h2 h0=>hears_same (allN N) f h n (mem_allN.2 ⟨h1,h2⟩) h0
def openN (N:Nat) (f:Int -> Nat):Nat:=(allN N).countP fun n=>decide (f n = 0)
theorem open_le (N:Nat) (f:Int -> Nat):openN N f <= N:=by
 unfold openN;refine Nat.le_trans List.countP_le_length ?_;unfold allN
 simp
theorem count_lt {l:List Int} {p q:Int -> Bool} (h:∀ x ∈ l,q x = true -> p x = true) {a:Int} (ha:a ∈ l) (hp:p a = true) (hq:q a = false):l.countP q < l.countP p:=by
 induction l with
 | nil=>cases ha
 | cons b r ih =>
  have hr:r.countP q <= r.countP p:=List.countP_mono_left fun x hx=>h x (List.mem_cons_of_mem _ hx)
  rcases List.mem_cons.1 ha with rfl | ha
  ·rw [List.countP_cons_of_pos hp,List.countP_cons_of_neg (by rw [hq];decide)];omega
  ·have:=ih (fun x hx=>h x (List.mem_cons_of_mem _ hx)) ha;by_cases hb:q b = true
   ·rw [List.countP_cons_of_pos hb,List.countP_cons_of_pos (h b List.mem_cons_self hb)];omega
   ·rw [List.countP_cons_of_neg hb];by_cases hpb:p b = true
    ·rw [List.countP_cons_of_pos hpb];omega
    ·rw [List.countP_cons_of_neg hpb];exact this
theorem open_less (h:Has f g) {n:Int} (hn:0 <= n /\ n < N) (h0:f n = 0) (h1:g n ≠ 0):openN N g < openN N f :=
 count_lt (fun x _ hx=>by
  have hx:g x = 0:=of_decide_eq_true hx;by_cases e:f x = 0
  ·exact decide_eq_true e
  ·rw [h x e] at hx;exact absurd hx e) (mem_allN.2 hn) (decide_eq_true h0) (decide_eq_false h1)
theorem hear_out {n k:Int} (h:k ≠ n):hear S sure f n k = f k:=by unfold hear setF;rw [if_neg h]
theorem hears_out:∀ (o:List Int) (f:Int -> Nat) (k:Int),k ∉ o -> hears S sure f o k = f k
 | [],_,_,_=>rfl
 | n :: r,f,k,h=>by
  have e:hears S sure f (n :: r) = hears S sure (hear S sure f n) r:=rfl;rw [e,hears_out r _ k (fun h'=>h (List.mem_cons_of_mem _ h')),hear_out (fun e=>h (by rw [e];exact List.mem_cons_self))]
theorem round_less (h:round S sure N f ≠ f):openN N (round S sure N f) < openN N f:=by
 have hh:Has f (round S sure N f):=has_hears _ _;have:∃ n:Int,round S sure N f n ≠ f n:=Classical.byContradiction fun hn=>h (funext fun n=>Classical.byContradiction fun e=>hn ⟨n,e⟩)
 obtain ⟨n,hn⟩:=this;have h0:f n = 0:=Classical.byContradiction fun e=>hn (hh n e)
 have hr:0 <= n /\ n < N:=Classical.byContradiction fun e=>hn (hears_out _ _ _ fun h'=>e (mem_allN.1 h'))
 exact open_less hh hr h0 (by rw [h0] at hn;exact hn)
def rounds (S:List (Int × Int)) (sure:Int -> Bool) (N:Nat):Nat -> (Int -> Nat) -> Int -> Nat
 | 0,f=>f
 | k + 1,f=>rounds S sure N k (round S sure N f)
theorem rounds_fix:∀ (k:Nat) (f:Int -> Nat),openN N f <= k -> round S sure N (rounds S sure N k f) = rounds S sure N k f
 | 0,f,h=>by
  show round S sure N f = f;exact Classical.byContradiction fun e=>by have:=round_less e;omega
 | k + 1,f,h=>by
  show round S sure N (rounds S sure N k (round S sure N f)) = rounds S sure N k (round S sure N f);by_cases e:round S sure N f = f
  ·rw [e];by_cases h1:openN N f <= k
   ·exact rounds_fix k f h1
   ·have:∀ j,rounds S sure N j f = f:=fun j=>by
     induction j with
     | zero=>rfl
     | succ j ih=>show rounds S sure N j (round S sure N f) = f;rw [e];exact ih
    rw [this];exact e
  ·exact rounds_fix k _ (by have:=round_less e;omega)
theorem Reach.rounds (h:Reach S sure N f0 f) (k:Nat):Reach S sure N f0 (rounds S sure N k f):=by
 induction k generalizing f with
 | zero=>exact h
 | succ k ih=>exact ih (h.step _ fun n hn=>mem_allN.1 hn)
def award (S:List (Int × Int)) (sure:Int -> Bool) (N:Nat) (f0:Int -> Nat):Int -> Nat:=rounds S sure N N f0
theorem award_done (S:List (Int × Int)) (sure:Int -> Bool) (N:Nat) (f0:Int -> Nat):Done S sure N (award S sure N f0):=done_of_round (rounds_fix N f0 (open_le N f0))
theorem award_reach (S:List (Int × Int)) (sure:Int -> Bool) (N:Nat) (f0:Int -> Nat):Reach S sure N f0 (award S sure N f0):=(Reach.start S sure N f0).rounds N
theorem award_eq (h0:Three f0) (h:Reach S sure N f0 f) (hd:Done S sure N f):f = award S sure N f0:=h.unique h0 hd (award_reach S sure N f0) (award_done S sure N f0)
def atOnce (S:List (Int × Int)) (sure:Int -> Bool) (N:Nat) (f:Int -> Nat):Int -> Nat:=fun n=>if 0 <= n /\ n < N then heard1 S sure f n else f n
theorem has_atOnce (S:List (Int × Int)) (sure:Int -> Bool) (N:Nat) (f:Int -> Nat):Has f (atOnce S sure N f):=fun n hn=>by
 by_cases hr:0 <= n /\ n < N
 ·unfold atOnce;rw [if_pos hr];unfold heard1;rw [if_neg hn]
 ·unfold atOnce;rw [if_neg hr]
theorem atOnce_three (h:Three f):Three (atOnce S sure N f):=fun n=>by
 unfold atOnce;split
 ·exact heard_le h n
 ·exact h n
theorem sound_atOnce (h:Sound S sure f0 f) (h3:Three f):Sound S sure f0 (atOnce S sure N f):=fun k hk=>by
 have hh:=has_atOnce S sure N f;by_cases hk0:f k = 0
 ·by_cases hr:0 <= k /\ k < N
  ·have e1:atOnce S sure N f k = rule S sure f k:=by unfold atOnce heard1;rw [if_pos hr,if_pos hk0]
   rw [e1] at hk ⊢;exact .inr (rule_has hh hk h3)
  ·have e1:atOnce S sure N f k = f k:=by unfold atOnce;rw [if_neg hr]
   rw [e1] at hk;exact absurd hk0 hk
 ·rw [hh k hk0];rcases h k hk0 with h1 | h1
  ·exact .inl h1
  ·right;rw [<- h1];exact rule_has hh (by rw [h1];exact hk0) h3
def manyOnce (S:List (Int × Int)) (sure:Int -> Bool) (N:Nat):Nat -> (Int -> Nat) -> Int -> Nat
 | 0,f=>f
 | k + 1,f=>manyOnce S sure N k (atOnce S sure N f)
theorem atOnce_done (h:atOnce S sure N f = f):Done S sure N f:=fun n h1 h2 h0=>by
 have:=congrFun h n;unfold atOnce heard1 at this;rw [if_pos ⟨h1,h2⟩,if_pos h0] at this;rw [this,h0]
theorem atOnce_less (h:atOnce S sure N f ≠ f):openN N (atOnce S sure N f) < openN N f:=by
 have hh:=has_atOnce S sure N f;have:∃ n:Int,atOnce S sure N f n ≠ f n:=Classical.byContradiction fun hn=>h (funext fun n=>Classical.byContradiction fun e=>hn ⟨n,e⟩)
 obtain ⟨n,hn⟩:=this;have h0:f n = 0:=Classical.byContradiction fun e=>hn (hh n e)
 have hr:0 <= n /\ n < N:=Classical.byContradiction fun e=>hn (by unfold atOnce;rw [if_neg e])
 exact open_less hh hr h0 (by rw [h0] at hn;exact hn)
theorem many_fix:∀ (k:Nat) (f:Int -> Nat),openN N f <= k -> Done S sure N (manyOnce S sure N k f)
 | 0,f,h=>atOnce_done (f:=f) (Classical.byContradiction fun e=>by have:=atOnce_less (f:=f) e;omega)
 | k + 1,f,h=>by
  by_cases e:atOnce S sure N f = f
  ·have:∀ j,manyOnce S sure N j f = f:=fun j=>by
    induction j with
    | zero=>rfl
    | succ j ih=>show manyOnce S sure N j (atOnce S sure N f) = f;rw [e];exact ih
   rw [this];exact atOnce_done e
  ·exact many_fix k _ (by have:=atOnce_less e;omega)
theorem many_sound:∀ (k:Nat) (f:Int -> Nat),Three f -> Sound S sure f0 f -> Sound S sure f0 (manyOnce S sure N k f) /\ Three (manyOnce S sure N k f)
 | 0,_,h3,h=>⟨h,h3⟩
 | k + 1,_,h3,h=>many_sound k _ (atOnce_three h3) (sound_atOnce h h3)
theorem many_has:∀ (k:Nat) (f:Int -> Nat),Has f (manyOnce S sure N k f)
 | 0,f=>Has.refl f
 | k + 1,f=>(has_atOnce S sure N f).trans (many_has k _)
theorem atOnce_has (hg:Done S sure N g) (hs:Sound S sure f0 g) (hst:∀ n,f0 n ≠ 0 -> f n ≠ 0) (h3:Three f) (h:Has f g):Has (atOnce S sure N f) g:=fun k hk=>by
 by_cases hk0:f k = 0
 ·by_cases hr:0 <= k /\ k < N
  ·have e:atOnce S sure N f k = hear S sure f k k:=by unfold atOnce hear setF;rw [if_pos hr,if_pos rfl]
   rw [e] at hk ⊢;exact has_of hg h h3 (fun n _ _=>hs n) k hr (by
    by_cases e:f0 k = 0
    ·exact .inl e
    ·exact .inr (hst k e)) k hk
  ·have e:atOnce S sure N f k = f k:=by unfold atOnce;rw [if_neg hr]
   rw [e] at hk;exact absurd hk0 hk
 ·rw [has_atOnce S sure N f k hk0];exact h k hk0
theorem many_le (hg:Done S sure N g) (hs:Sound S sure f0 g):∀ (k:Nat) (f:Int -> Nat),(∀ n,f0 n ≠ 0 -> f n ≠ 0) -> Three f -> Has f g -> Has (manyOnce S sure N k f) g
 | 0,_,_,_,h=>h
 | k + 1,f,hst,h3,h=>many_le hg hs k _ (fun n hn=>by
   have:=hst n hn;rw [has_atOnce S sure N f n this];exact this) (atOnce_three h3) (atOnce_has hg hs hst h3 h)
theorem many_award (h0:Three f0) {k:Nat} (hk:N <= k):manyOnce S sure N k f0 = award S sure N f0:=by
 have hd:=many_fix (S:=S) (sure:=sure) (N:=N) k f0 (Nat.le_trans (open_le N f0) hk);have hs:=(many_sound (S:=S) (sure:=sure) (N:=N) (f0:=f0) k f0 h0 (sound_start _ _ _)).1;have ha:=award_reach S sure N f0;exact has_both (many_le (award_done S sure N f0) (ha.sound h0) k f0 (fun _ h=>h) h0 ha.has) (ha.le h0 hd hs (many_has k f0))
def nextR (S:List (Int × Int)) (sure:Int -> Bool) (r:Int -> Nat) (n:Int):Nat:=S.foldl (fun m s=>if decide (s.2 = n) && !sure n then max m (r s.1 + 1) else m) 1
theorem foldl_max_ge:∀ (L:List (Int × Int)) (p:Int × Int -> Bool) (v:Int × Int -> Nat) (m:Nat),m <= L.foldl (fun m s=>if p s then max m (v s) else m) m /\ ∀ s ∈ L,p s = true -> v s <= L.foldl (fun m s=>if p s then max m (v s) else m) m
 | [],_,_,m=>⟨Nat.le_refl _,fun s h=>by cases h⟩
 | x :: L,p,v,m=>by
  obtain ⟨h1,h2⟩:=foldl_max_ge L p v (if p x then max m (v x) else m);rw [List.foldl_cons];refine ⟨Nat.le_trans (by split <;> omega) h1,fun s hs hp=>?_⟩;rcases List.mem_cons.1 hs with rfl | hs
  ·exact Nat.le_trans (by rw [if_pos hp];omega) h1
  ·exact h2 s hs hp
theorem foldl_max_le:∀ (L:List (Int × Int)) (p:Int × Int -> Bool) (v:Int × Int -> Nat) (m b:Nat),m <= b -> (∀ s ∈ L,p s = true -> v s <= b) -> L.foldl (fun m s=>if p s then max m (v s) else m) m <= b
 | [],_,_,_,_,h,_=>h
 | x :: L,p,v,m,b,h,h2=>by
  rw [List.foldl_cons];refine foldl_max_le L p v _ b ?_ fun s hs=>h2 s (List.mem_cons_of_mem _ hs)
  by_cases hp:p x = true
  ·rw [if_pos hp];have:=h2 x List.mem_cons_self hp;omega
  ·rw [if_neg hp];exact h
theorem next_ge {r:Int -> Nat} {n:Int} (hs:sure n = false) {s:Int × Int} (h:s ∈ S) (h2:s.2 = n):r s.1 + 1 <= nextR S sure r n :=
 (foldl_max_ge S (fun s=>decide (s.2 = n) && !sure n) (fun s=>r s.1 + 1) 1).2 s h (by simp [h2,hs])
theorem next_pos (S:List (Int × Int)) (sure:Int -> Bool) (r:Int -> Nat) (n:Int):1 <= nextR S sure r n:=(foldl_max_ge S (fun s=>decide (s.2 = n) && !sure n) (fun s=>r s.1 + 1) 1).1
theorem next_le {r:Int -> Nat} {n:Int} {b:Nat} (hb:1 <= b) (h:∀ s ∈ S,s.2 = n -> sure n = false -> r s.1 + 1 <= b):nextR S sure r n <= b :=
 foldl_max_le S _ _ 1 b hb fun s hs hp=>by
  simp only [Bool.and_eq_true,decide_eq_true_eq,Bool.not_eq_true'] at hp;exact h s hs hp.1 hp.2
def hearR (S:List (Int × Int)) (sure:Int -> Bool) (x:(Int -> Nat) × (Int -> Nat)) (n:Int):(Int -> Nat) × (Int -> Nat) :=
 if x.1 n = 0 /\ rule S sure x.1 n ≠ 0 then (setF x.1 n (rule S sure x.1 n),setF x.2 n (nextR S sure x.2 n)) else x
theorem hearR_fst (S:List (Int × Int)) (sure:Int -> Bool) (x:(Int -> Nat) × (Int -> Nat)) (n:Int):(hearR S sure x n).1 = hear S sure x.1 n:=by
 unfold hearR hear heard1;by_cases h0:x.1 n = 0
 ·rw [if_pos h0];by_cases h1:rule S sure x.1 n = 0
  ·rw [if_neg (fun h=>h.2 h1)]
   funext k
   unfold setF;by_cases e:k = n
   ·rw [if_pos e,h1,e,h0]
   ·rw [if_neg e]
  ·rw [if_pos ⟨h0,h1⟩]
 ·rw [if_neg (fun h=>h0 h.1),if_neg h0]
  funext k
  unfold setF;by_cases e:k = n
  ·rw [if_pos e,e]
  ·rw [if_neg e]
def hearsR (S:List (Int × Int)) (sure:Int -> Bool) (x:(Int -> Nat) × (Int -> Nat)) (o:List Int):(Int -> Nat) × (Int -> Nat):=o.foldl (hearR S sure) x
theorem hearsR_fst:∀ (o:List Int) (x:(Int -> Nat) × (Int -> Nat)),(hearsR S sure x o).1 = hears S sure x.1 o
 | [],_=>rfl
 | n :: r,x=>by
  show (hearsR S sure (hearR S sure x n) r).1 = hears S sure (hear S sure x.1 n) r;rw [hearsR_fst r,hearR_fst]
structure RankOk (S:List (Int × Int)) (sure:Int -> Bool) (N:Nat) (f0:Int -> Nat) (x:(Int -> Nat) × (Int -> Nat)):Prop where
 three:Three x.1
 zero:∀ n,x.1 n = 0 -> x.2 n = 0
 old:∀ n,f0 n ≠ 0 -> x.1 n = f0 n /\ x.2 n = 0
 up:∀ n,f0 n = 0 -> x.1 n = 1 -> 1 <= x.2 n /\ ∀ s ∈ S,s.2 = n -> sure n = false -> x.1 s.1 = 2 /\ x.2 s.1 < x.2 n
 down:∀ n,f0 n = 0 -> x.1 n = 2 -> sure n = false /\ ∃ s ∈ S,s.2 = n /\ x.1 s.1 = 1 /\ x.2 s.1 < x.2 n
 few:∀ n,x.2 n + openN N x.1 <= N
theorem RankOk.start (h3:Three f0) (N:Nat):RankOk S sure N f0 (f0,fun _=>0) :=
 ⟨h3,fun _ _=>rfl,fun _ _=>⟨rfl,rfl⟩,fun n h (h1:f0 n = 1)=>by omega,fun n h (h1:f0 n = 2)=>by omega,fun n=>by have:=open_le N f0;simpa using this⟩
theorem RankOk.hear (h:RankOk S sure N f0 x) {n:Int} (hn:0 <= n /\ n < N):RankOk S sure N f0 (hearR S sure x n):=by
 unfold hearR;by_cases hc:x.1 n = 0 /\ rule S sure x.1 n ≠ 0
 ·rw [if_pos hc];obtain ⟨h0,h1⟩:=hc;have hr:=rule_le S sure x.1 n;have hfo:f0 n = 0:=Classical.byContradiction fun e=>by have:=(h.old n e).1;omega
  have keep:∀ k,x.1 k ≠ 0 -> setF x.1 n (rule S sure x.1 n) k = x.1 k /\ setF x.2 n (nextR S sure x.2 n) k = x.2 k:=fun k hk=>by
   have e:k ≠ n:=fun e=>by rw [e] at hk;exact hk h0
   unfold setF;rw [if_neg e,if_neg e];exact ⟨rfl,rfl⟩
  have at1:setF x.1 n (rule S sure x.1 n) n = rule S sure x.1 n:=by unfold setF;rw [if_pos rfl]
  have at2:setF x.2 n (nextR S sure x.2 n) n = nextR S sure x.2 n:=by unfold setF;rw [if_pos rfl]
  have ne1:∀ k,k ≠ n -> setF x.1 n (rule S sure x.1 n) k = x.1 k /\ setF x.2 n (nextR S sure x.2 n) k = x.2 k:=fun k e=>by unfold setF;rw [if_neg e,if_neg e];exact ⟨rfl,rfl⟩
  refine ⟨fun k=>?_,fun k hk=>?_,fun k hk=>?_,fun k hk h1'=>?_,fun k hk h2'=>?_,fun k=>?_⟩
  ·show setF x.1 n _ k <= 2;unfold setF;split
   ·exact hr
   ·exact h.three k
  ·by_cases e:k = n
   ·subst e;have hk:setF x.1 k (rule S sure x.1 k) k = 0:=hk;rw [at1] at hk;exact absurd hk h1
   ·have hk:setF x.1 n (rule S sure x.1 n) k = 0:=hk;rw [(ne1 k e).1] at hk;show setF x.2 n _ k = 0;rw [(ne1 k e).2];exact h.zero k hk
  ·obtain ⟨a,b⟩:=h.old k hk;obtain ⟨c,d⟩:=keep k (by rw [a];exact hk);exact ⟨c.trans a,d.trans b⟩
  ·by_cases e:k = n
   ·subst e;have h1':setF x.1 k (rule S sure x.1 k) k = 1:=h1';rw [at1] at h1';refine ⟨by show 1 <= setF x.2 k _ k;rw [at2];exact next_pos _ _ _ _,fun s hs h2 hsu=>?_⟩
    have hfree:x.1 s.1 = 2:=by
     have a1:x.1 s.1 ≠ 1:=fun e=>by
      unfold rule at h1';rw [if_pos (struck_iff.2 ⟨hsu,s,hs,h2,e⟩)] at h1';cases h1'
     have a0:x.1 s.1 ≠ 0:=fun e=>by
      unfold rule at h1';by_cases q:struckB S sure x.1 k 1 = true
      ·rw [if_pos q] at h1';cases h1'
      ·rw [if_neg q,if_pos (struck_iff.2 ⟨hsu,s,hs,h2,e⟩)] at h1';cases h1'
     have:=h.three s.1;omega
    obtain ⟨c,d⟩:=keep s.1 (by rw [hfree];decide);refine ⟨c.trans hfree,?_⟩;show setF x.2 k _ s.1 < setF x.2 k _ k;rw [d,at2];exact next_ge hsu hs h2
   ·have h1':setF x.1 n (rule S sure x.1 n) k = 1:=h1';rw [(ne1 k e).1] at h1';obtain ⟨a,b⟩:=h.up k hk h1';refine ⟨by show 1 <= setF x.2 n _ k;rw [(ne1 k e).2];exact a,fun s hs h2 hsu=>?_⟩;obtain ⟨b1,b2⟩:=b s hs h2 hsu;obtain ⟨c,d⟩:=keep s.1 (by rw [b1];decide);refine ⟨c.trans b1,?_⟩;show setF x.2 n _ s.1 < setF x.2 n _ k;rw [d,(ne1 k e).2];exact b2
  ·by_cases e:k = n
   ·subst e;have h2':setF x.1 k (rule S sure x.1 k) k = 2:=h2';rw [at1] at h2'
    have hst:struckB S sure x.1 k 1 = true:=Classical.byContradiction fun q=>by
     unfold rule at h2';rw [if_neg q] at h2';split at h2' <;> cases h2'
    obtain ⟨hsu,s,hs,e1,e2⟩:=struck_iff.1 hst;obtain ⟨c,d⟩:=keep s.1 (by rw [e2];decide);refine ⟨hsu,s,hs,e1,c.trans e2,?_⟩;show setF x.2 k _ s.1 < setF x.2 k _ k;rw [d,at2];exact next_ge hsu hs e1
   ·have h2':setF x.1 n (rule S sure x.1 n) k = 2:=h2';rw [(ne1 k e).1] at h2';obtain ⟨hsu,s,hs,e1,e2,e3⟩:=h.down k hk h2';obtain ⟨c,d⟩:=keep s.1 (by rw [e2];decide);refine ⟨hsu,s,hs,e1,c.trans e2,?_⟩;show setF x.2 n _ s.1 < setF x.2 n _ k;rw [d,(ne1 k e).2];exact e3
  ·have hhas:Has x.1 (setF x.1 n (rule S sure x.1 n)):=fun k hk=>(keep k hk).1
   have hlt:=open_less (N:=N) hhas hn h0 (by rw [at1];exact h1);show setF x.2 n _ k + openN N (setF x.1 n _) <= N;by_cases e:k = n
   ·subst e;rw [at2];have hop:1 <= openN N x.1:=Nat.lt_of_le_of_lt (Nat.zero_le _) hlt;have hN:openN N x.1 <= N:=open_le N x.1;have:=next_le (S:=S) (sure:=sure) (r:=x.2) (n:=k) (b:=N + 1 - openN N x.1) (by omega) fun s _ _ _=>by have:=h.few s.1;omega
    omega
   ·rw [(ne1 k e).2];have:=h.few k;omega
 ·rw [if_neg hc];exact h
theorem RankOk.hears (h:RankOk S sure N f0 x):∀ (o:List Int),(∀ n ∈ o,0 <= n /\ n < N) -> RankOk S sure N f0 (hearsR S sure x o):=by
 intro o
 induction o generalizing x with
 | nil=>exact fun _=>h
 | cons n r ih=>exact fun ho=>ih (h.hear (ho n List.mem_cons_self)) fun k hk=>ho k (List.mem_cons_of_mem _ hk)
def HeldP (S:List (Int × Int)) (sure ref:Int -> Bool) (f r:Int -> Nat) (n:Int):Prop :=
 if ref n then f n = 2 /\ r n = 0 else if f n = 0 then r n = 0 /\ struckB S sure f n 1 = false /\ struckB S sure f n 0 = true else if f n = 1 then struckB S sure f n 1 = false /\ struckB S sure f n 0 = false /\ nextR S sure r n <= r n
 else sure n = false /\ ∃ s ∈ S,s.2 = n /\ f s.1 = 1 /\ r s.1 < r n
def begF (ref:Int -> Bool):Int -> Nat:=fun n=>if ref n then 2 else 0
theorem begF_three (ref:Int -> Bool):Three (begF ref):=fun n=>by unfold begF;split <;> omega
theorem rule_zero {n:Int}:rule S sure f n = 0 ↔ struckB S sure f n 1 = false /\ struckB S sure f n 0 = true:=by
 unfold rule;cases struckB S sure f n 1 <;> cases struckB S sure f n 0 <;> simp
theorem rule_one {n:Int}:rule S sure f n = 1 ↔ struckB S sure f n 1 = false /\ struckB S sure f n 0 = false:=by
 unfold rule;cases struckB S sure f n 1 <;> cases struckB S sure f n 0 <;> simp
theorem rule_two {n:Int}:rule S sure f n = 2 ↔ struckB S sure f n 1 = true:=by
 unfold rule;cases struckB S sure f n 1 <;> cases struckB S sure f n 0 <;> simp
theorem ranks_hold {ref:Int -> Bool} {x:(Int -> Nat) × (Int -> Nat)} (h:RankOk S sure N (begF ref) x) (hd:Done S sure N x.1) {n:Int} (hn:0 <= n /\ n < N):HeldP S sure ref x.1 x.2 n:=by
 unfold HeldP;by_cases hr:ref n = true
 ·rw [if_pos hr];have:=h.old n (by unfold begF;rw [if_pos hr];decide);unfold begF at this;rw [if_pos hr] at this;exact this
 ·rw [if_neg hr];have hb:begF ref n = 0:=by unfold begF;rw [if_neg hr]
  by_cases h0:x.1 n = 0
  ·rw [if_pos h0];have:=rule_zero.1 (hd n hn.1 hn.2 h0);exact ⟨h.zero n h0,this.1,this.2⟩
  ·rw [if_neg h0];by_cases h1:x.1 n = 1
   ·rw [if_pos h1];obtain ⟨a,b⟩:=h.up n hb h1;refine ⟨?_,?_,next_le a fun s hs h2 hsu=>(b s hs h2 hsu).2⟩
    ·cases q:struckB S sure x.1 n 1 with
     | false=>rfl
     | true =>
      obtain ⟨hsu,s,hs,e1,e2⟩:=struck_iff.1 q;have:=(b s hs e1 hsu).1;omega
    ·cases q:struckB S sure x.1 n 0 with
     | false=>rfl
     | true =>
      obtain ⟨hsu,s,hs,e1,e2⟩:=struck_iff.1 q;have:=(b s hs e1 hsu).1;omega
   ·rw [if_neg h1];have:=h.three n;exact h.down n hb (by omega)
end
end Court
end
section
/- Plain: stands. A full stand is a set of claims that strike none of their own and strike all others (that are not refuted);how the program lists them. -/
namespace Court
def strikeL (S:List (Int × Int)) (L:Int -> Bool) (n:Int):Bool:=S.any fun s=>decide (s.2 = n) && L s.1
theorem strikeL_iff {S:List (Int × Int)} {L:Int -> Bool} {n:Int}:strikeL S L n = true ↔ ∃ s ∈ S,s.2 = n /\ L s.1 = true:=by
 unfold strikeL;rw [List.any_eq_true];constructor
 ·rintro ⟨s,hs,h⟩;simp only [Bool.and_eq_true,decide_eq_true_eq] at h;exact ⟨s,hs,h.1,h.2⟩
 ·rintro ⟨s,hs,h1,h2⟩;exact ⟨s,hs,by simp [h1,h2]⟩
theorem strikeL_false {S:List (Int × Int)} {L:Int -> Bool} {n:Int}:strikeL S L n = false ↔ ∀ s ∈ S,s.2 = n -> L s.1 = false:=by
 constructor
 ·intro h s hs h1
  cases q:L s.1 with
  | false=>rfl
  | true=>rw [strikeL_iff.2 ⟨s,hs,h1,q⟩] at h;cases h
 ·intro h
  cases q:strikeL S L n with
  | false=>rfl
  | true =>
   obtain ⟨s,hs,h1,h2⟩:=strikeL_iff.1 q;rw [h s hs h1] at h2;cases h2
def standB (S:List (Int × Int)) (ref:Int -> Bool) (l:List Int):Bool :=
 l.all fun n=>!ref n && !strikeL S (fun x=>l.contains x) n && S.all fun s=>!decide (s.2 = n) || ref s.1 || strikeL S (fun x=>l.contains x) s.1
def coverB (S:List (Int × Int)) (ref:Int -> Bool) (N:Nat) (l:List Int):Bool:=(List.range N).all fun (n:Nat)=>l.contains (n:Int) || ref n || strikeL S (fun x=>l.contains x) n
def niceB (S:List (Int × Int)) (ref:Int -> Bool) (l:List Int):Bool:=l.all fun n=>!ref n && !strikeL S (fun x=>l.contains x) n
theorem niceB_iff {S:List (Int × Int)} {ref:Int -> Bool} {l:List Int}:niceB S ref l = true ↔ ∀ n ∈ l,ref n = false /\ ∀ s ∈ S,s.2 = n -> s.1 ∉ l:=by
 unfold niceB;rw [List.all_eq_true];constructor
 ·intro h n hn;have:=h n hn;simp only [Bool.and_eq_true,Bool.not_eq_true'] at this;refine ⟨this.1,fun s hs h2 hm=>?_⟩;have:=strikeL_false.1 this.2 s hs h2;rw [List.contains_iff_mem.2 hm] at this;cases this
 ·intro h n hn;obtain ⟨h1,h2⟩:=h n hn;simp only [Bool.and_eq_true,Bool.not_eq_true'];refine ⟨h1,strikeL_false.2 fun s hs e=>?_⟩
  cases q:l.contains s.1 with
  | false=>rfl
  | true=>exact absurd (List.contains_iff_mem.1 q) (h2 s hs e)
theorem coverB_iff {S:List (Int × Int)} {ref:Int -> Bool} {N:Nat} {l:List Int}:coverB S ref N l = true ↔ ∀ n:Int,0 <= n -> n < N -> n ∈ l \/ ref n = true \/ ∃ s ∈ S,s.2 = n /\ s.1 ∈ l:=by
 unfold coverB;rw [List.all_eq_true];constructor
 ·intro h n h0 h1;obtain ⟨k,rfl⟩:=Int.eq_ofNat_of_zero_le h0;have:=h k (List.mem_range.2 (by omega));simp only [Bool.or_eq_true] at this;rcases this with (h | h) | h
  ·exact .inl (List.contains_iff_mem.1 h)
  ·exact .inr (.inl h)
  ·obtain ⟨s,hs,h2,h3⟩:=strikeL_iff.1 h;exact .inr (.inr ⟨s,hs,h2,List.contains_iff_mem.1 h3⟩)
 ·intro h k hk;have hk:=List.mem_range.1 hk;simp only [Bool.or_eq_true];rcases h k (by omega) (by omega) with h | h | ⟨s,hs,h2,h3⟩
  ·exact .inl (.inl (List.contains_iff_mem.2 h))
  ·exact .inl (.inr h)
  ·exact .inr (strikeL_iff.2 ⟨s,hs,h2,List.contains_iff_mem.2 h3⟩)
theorem stand_of {S:List (Int × Int)} {ref:Int -> Bool} {N:Nat} {l:List Int} (hS:∀ s ∈ S,0 <= s.1 /\ s.1 < N) (h1:niceB S ref l = true) (h2:coverB S ref N l = true):standB S ref l = true:=by
 unfold standB;rw [List.all_eq_true];intro n hn;obtain ⟨a,b⟩:=niceB_iff.1 h1 n hn;simp only [Bool.and_eq_true,Bool.not_eq_true',List.all_eq_true,Bool.or_eq_true,decide_eq_false_iff_not];refine ⟨⟨a,strikeL_false.2 fun s hs e=>?_⟩,fun s hs=>?_⟩
 ·cases q:l.contains s.1 with
  | false=>rfl
  | true=>exact absurd (List.contains_iff_mem.1 q) (b s hs e)
 ·by_cases e:s.2 = n
  ·rcases coverB_iff.1 h2 s.1 (hS s hs).1 (hS s hs).2 with h | h | ⟨t,ht,e1,e2⟩
   ·exact absurd h (b s hs e)
   ·exact .inl (.inr h)
   ·exact .inr (strikeL_iff.2 ⟨t,ht,e1,List.contains_iff_mem.2 e2⟩)
  ·exact .inl (.inl e)
theorem nice_of {S:List (Int × Int)} {ref:Int -> Bool} {l:List Int} (h:standB S ref l = true):niceB S ref l = true:=by
 unfold standB at h;unfold niceB;rw [List.all_eq_true] at h ⊢;intro n hn;have:=h n hn;simp only [Bool.and_eq_true] at this ⊢;exact this.1
def fullB (S:List (Int × Int)) (ref:Int -> Bool) (N:Nat) (l:List Int):Bool:=niceB S ref l && coverB S ref N l
theorem full_iff {S:List (Int × Int)} {ref:Int -> Bool} {N:Nat} {l:List Int} (hS:∀ s ∈ S,0 <= s.1 /\ s.1 < N):(standB S ref l && coverB S ref N l) = fullB S ref N l:=by
 unfold fullB
 cases hc:coverB S ref N l with
 | false=>simp
 | true =>
  simp only [Bool.and_true]
  cases hn:niceB S ref l with
  | true=>exact stand_of hS hn hc
  | false =>
   cases hs:standB S ref l with
   | false=>rfl
   | true=>rw [nice_of hs] at hn;cases hn
def canB (S:List (Int × Int)) (ref:Int -> Bool) (l:List Int) (n:Int):Bool:=!ref n && !strikeL S (fun x=>(l ++ [n]).contains x) n && l.all fun o=>!strikeL S (fun x=>decide (x = n)) o
theorem can_nice {S:List (Int × Int)} {ref:Int -> Bool} {l:List Int} {n:Int} (hl:niceB S ref l = true):canB S ref l n = niceB S ref (l ++ [n]):=by
 rw [Bool.eq_iff_iff];rw [niceB_iff];have hl:=niceB_iff.1 hl;unfold canB;simp only [Bool.and_eq_true,Bool.not_eq_true',List.all_eq_true];constructor
 ·rintro ⟨⟨h1,h2⟩,h3⟩ m hm;rcases List.mem_append.1 hm with hm | hm
  ·refine ⟨(hl m hm).1,fun s hs e hs1=>?_⟩;rcases List.mem_append.1 hs1 with q | q
   ·exact (hl m hm).2 s hs e q
   ·have:=strikeL_false.1 (h3 m hm) s hs e;rw [decide_eq_true (List.mem_singleton.1 q)] at this;cases this
  ·rw [List.mem_singleton] at hm;subst hm;refine ⟨h1,fun s hs e hs1=>?_⟩;have:=strikeL_false.1 h2 s hs e;rw [List.contains_iff_mem.2 hs1] at this;cases this
 ·intro h;have hn:=h n (by simp);refine ⟨⟨hn.1,strikeL_false.2 fun s hs e=>?_⟩,fun o ho=>strikeL_false.2 fun s hs e=>?_⟩
  ·cases q:(l ++ [n]).contains s.1 with
   | false=>rfl
   | true=>exact absurd (List.contains_iff_mem.1 q) (hn.2 s hs e)
  ·refine decide_eq_false fun q=>?_
   exact (h o (by simp [ho])).2 s hs e (by simp [q])
theorem nice_pre {S:List (Int × Int)} {ref:Int -> Bool} {l t:List Int} (h:niceB S ref (l ++ t) = true):niceB S ref l = true :=
 niceB_iff.2 fun n hn=>by
  have:=niceB_iff.1 h n (by simp [hn]);exact ⟨this.1,fun s hs e q=>this.2 s hs e (by simp [q])⟩
def grow (S:List (Int × Int)) (ref:Int -> Bool) (N:Nat):Nat -> Nat -> List Int -> List (List Int)
 | 0,_,l=>if coverB S ref N l then [l] else []
 | k + 1,n,l=>(if canB S ref l n then grow S ref N k (n + 1) (l ++ [(n:Int)]) else []) ++ grow S ref N k (n + 1) l
theorem mem_grow {S:List (Int × Int)} {ref:Int -> Bool} {N:Nat}:∀ (k n:Nat) (l:List Int),niceB S ref l = true -> ∀ l',l' ∈ grow S ref N k n l ↔ ∃ t,l' = l ++ t /\ t.Pairwise (· < ·) /\ (∀ x ∈ t,(n:Int) <= x /\ x < n + k) /\ fullB S ref N l' = true
 | 0,n,l,hl,l'=>by
  unfold grow;constructor
  ·intro h;split at h
   ·rename_i hc
    rw [List.mem_singleton] at h;subst h;exact ⟨[],by simp,.nil,by simp,by unfold fullB;rw [hl,hc];rfl⟩
   ·cases h
  ·rintro ⟨t,rfl,-,ht,hf⟩
   have:t = []:=by
    cases t with
    | nil=>rfl
    | cons x r=>have:=ht x List.mem_cons_self;omega
   subst this;rw [List.append_nil] at hf ⊢;unfold fullB at hf;rw [hl,Bool.true_and] at hf;rw [if_pos hf];exact List.mem_singleton.2 rfl
 | k + 1,n,l,hl,l'=>by
  have e:grow S ref N (k + 1) n l = (if canB S ref l n then grow S ref N k (n + 1) (l ++ [(n:Int)]) else []) ++ grow S ref N k (n + 1) l:=rfl;rw [e,List.mem_append];constructor
  ·rintro (h | h)
   ·split at h
    ·rename_i hc
     rw [can_nice hl] at hc;obtain ⟨t,rfl,h1,h2,h3⟩:=(mem_grow k (n + 1) _ hc l').1 h;refine ⟨(n:Int) :: t,by simp,List.pairwise_cons.2 ⟨fun x hx=>by have:=h2 x hx;omega,h1⟩,fun x hx=>?_,h3⟩;rcases List.mem_cons.1 hx with rfl | hx
     ·omega
     ·have:=h2 x hx;omega
    ·cases h
   ·obtain ⟨t,rfl,h1,h2,h3⟩:=(mem_grow k (n + 1) l hl l').1 h;exact ⟨t,rfl,h1,fun x hx=>by have:=h2 x hx;omega,h3⟩
  ·rintro ⟨t,rfl,h1,h2,h3⟩;have key:∀ r:List Int,r.Pairwise (· < ·) -> (∀ x ∈ r,(n:Int) <= x /\ x < n + (k + 1:Nat)) -> (∀ x ∈ r,x ≠ (n:Int)) -> ∀ x ∈ r,((n + 1:Nat):Int) <= x /\ x < (n + 1:Nat) + k:=fun r _ hr hne x hx=>by have:=hr x hx;have:=hne x hx;omega
   cases t with
   | nil=>exact .inr ((mem_grow k (n + 1) l hl _).2 ⟨[],rfl,.nil,by simp,h3⟩)
   | cons y r =>
    rw [List.pairwise_cons] at h1;have hy:=h2 y List.mem_cons_self;by_cases e:y = (n:Int)
    ·subst e
     have hnice:niceB S ref (l ++ [(n:Int)]) = true:=by
      refine nice_pre (t:=r) ?_;unfold fullB at h3;rw [Bool.and_eq_true] at h3;simpa using h3.1
     left;rw [if_pos (by rw [can_nice hl];exact hnice)];refine (mem_grow k (n + 1) _ hnice _).2 ⟨r,by simp,h1.2,key r h1.2 (fun x hx=>h2 x (List.mem_cons_of_mem _ hx)) (fun x hx=>by have:=h1.1 x hx;omega),h3⟩
    ·right;refine (mem_grow k (n + 1) l hl _).2 ⟨y :: r,rfl,List.pairwise_cons.2 h1,key _ (List.pairwise_cons.2 h1) h2 (fun x hx=>?_),h3⟩;rcases List.mem_cons.1 hx with rfl | hx
     ·exact e
     ·have:=h1.1 x hx;omega
theorem nodup_grow {S:List (Int × Int)} {ref:Int -> Bool} {N:Nat}:∀ (k n:Nat) (l:List Int),niceB S ref l = true -> (grow S ref N k n l).Nodup
 | 0,n,l,_=>by unfold grow;split <;> simp
 | k + 1,n,l,hl=>by
  have e:grow S ref N (k + 1) n l = (if canB S ref l n then grow S ref N k (n + 1) (l ++ [(n:Int)]) else []) ++ grow S ref N k (n + 1) l:=rfl;rw [e,List.nodup_append];refine ⟨?_,nodup_grow k (n + 1) l hl,fun a ha b hb e=>?_⟩
  ·split
   ·rename_i hc
    exact nodup_grow k (n + 1) _ (by rw [<- can_nice hl];exact hc)
   ·exact .nil
  ·subst e;split at ha
   ·rename_i hc
    obtain ⟨t,e1,-,-,-⟩:=(mem_grow k (n + 1) _ (by rw [<- can_nice hl];exact hc) a).1 ha;obtain ⟨t',e2,-,h2,-⟩:=(mem_grow k (n + 1) l hl a).1 hb;rw [e1,List.append_assoc] at e2;have:=List.append_cancel_left e2;have:=h2 n (by rw [<- this];simp);omega
   ·cases ha
theorem mem_full {S:List (Int × Int)} {ref:Int -> Bool} {N:Nat} {l:List Int}:l ∈ grow S ref N N 0 [] ↔ l.Pairwise (· < ·) /\ (∀ x ∈ l,0 <= x /\ x < N) /\ fullB S ref N l = true:=by
 rw [mem_grow N 0 [] rfl];constructor
 ·rintro ⟨t,rfl,h1,h2,h3⟩;exact ⟨h1,fun x hx=>by have:=h2 x hx;omega,h3⟩
 ·rintro ⟨h1,h2,h3⟩;exact ⟨l,rfl,h1,fun x hx=>by have:=h2 x hx;omega,h3⟩
end Court
end
section
/- Plain: the award and the full stands (behind Aw and St). -/
namespace Court
section
variable {S:List (Int × Int)} {ref:Int -> Bool} {N:Nat} {l:List Int}
def noS:Int -> Bool:=fun _=>false
def upheld (f:Int -> Nat) (N:Nat):List Int:=(allN N).filter fun n=>decide (f n = 1)
theorem award_rule {n:Int} (hn:0 <= n /\ n < N) (hr:ref n ≠ true):rule S noS (award S noS N (begF ref)) n = award S noS N (begF ref) n:=by
 have ha:=award_reach S noS N (begF ref);by_cases e:award S noS N (begF ref) n = 0
 ·rw [award_done S noS N (begF ref) n hn.1 hn.2 e,e]
 ·rcases ha.sound (begF_three ref) n e with h | h
  ·unfold begF at h;rw [if_neg hr] at h;exact absurd h.symm e
  ·exact h
theorem award_ref {n:Int} (hr:ref n = true):award S noS N (begF ref) n = 2:=by
 have:=(award_reach S noS N (begF ref)).has n (by unfold begF;rw [if_pos hr];decide);rw [this];unfold begF;rw [if_pos hr]
end
end Court
end
section
/- Plain: surveys,and the fewest claims to be refuted (behind Aw,St,So). -/
namespace Court
section
variable {S:List (Int × Int)} {sure:Int -> Bool} {f f0:Int -> Nat} {N:Nat}
theorem struck_filter (n:Int) (v:Nat):struckB (S.filter fun s=>!sure s.2) noS f n v = struckB S sure f n v:=by
 rw [Bool.eq_iff_iff,struck_iff,struck_iff];constructor
 ·rintro ⟨-,s,hs,h1,h2⟩;rw [List.mem_filter] at hs;refine ⟨?_,s,hs.1,h1,h2⟩;have:=hs.2;rw [h1] at this;simpa using this
 ·rintro ⟨h0,s,hs,h1,h2⟩;exact ⟨rfl,s,List.mem_filter.2 ⟨hs,by rw [h1,h0];rfl⟩,h1,h2⟩
theorem rule_filter (n:Int):rule (S.filter fun s=>!sure s.2) noS f n = rule S sure f n:=by
 unfold rule;rw [struck_filter,struck_filter]
theorem hear_filter (n:Int):hear (S.filter fun s=>!sure s.2) noS f n = hear S sure f n:=by
 unfold hear heard1;rw [rule_filter]
theorem hears_filter:∀ (o:List Int) (f:Int -> Nat),hears (S.filter fun s=>!sure s.2) noS f o = hears S sure f o
 | [],_=>rfl
 | n :: r,f=>by
  show hears _ noS (hear _ noS f n) r = hears S sure (hear S sure f n) r;rw [hear_filter,hears_filter r]
theorem round_filter (f:Int -> Nat):round (S.filter fun s=>!sure s.2) noS N f = round S sure N f:=hears_filter _ _
theorem rounds_filter:∀ (k:Nat) (f:Int -> Nat),rounds (S.filter fun s=>!sure s.2) noS N k f = rounds S sure N k f
 | 0,_=>rfl
 | k + 1,f=>by
  show rounds _ noS N k (round _ noS N f) = rounds S sure N k (round S sure N f);rw [round_filter,rounds_filter k]
theorem award_filter:award (S.filter fun s=>!sure s.2) noS N f0 = award S sure N f0:=rounds_filter _ _
def combos (c:Int):Nat -> Nat -> Nat -> List Int -> List (List Int)
 | _,_,0,l=>[l]
 | 0,_,_ + 1,_=>[]
 | k + 1,n,m + 1,l=>(if (n:Int) ≠ c then combos c k (n + 1) m (l ++ [(n:Int)]) else []) ++ combos c k (n + 1) (m + 1) l
theorem mem_combos {c:Int}:∀ (k n m:Nat) (l l':List Int),l' ∈ combos c k n m l ↔ ∃ t,l' = l ++ t /\ t.Pairwise (· < ·) /\ (∀ x ∈ t,(n:Int) <= x /\ x < n + k /\ x ≠ c) /\ t.length = m
 | k,n,0,l,l'=>by
  have e:combos c k n 0 l = [l]:=by cases k <;> rfl
  rw [e,List.mem_singleton];constructor
  ·rintro rfl;exact ⟨[],by simp,.nil,by simp,rfl⟩
  ·rintro ⟨t,rfl,-,-,h⟩;rw [List.eq_nil_of_length_eq_zero h,List.append_nil]
 | 0,n,m + 1,l,l'=>by
  have e:combos c 0 n (m + 1) l = []:=rfl;rw [e];constructor
  ·intro h;cases h
  ·rintro ⟨t,-,-,ht,hl⟩
   cases t with
   | nil=>cases hl
   | cons x r=>have:=ht x List.mem_cons_self;omega
 | k + 1,n,m + 1,l,l'=>by
  have e:combos c (k + 1) n (m + 1) l = (if (n:Int) ≠ c then combos c k (n + 1) m (l ++ [(n:Int)]) else []) ++ combos c k (n + 1) (m + 1) l:=rfl;rw [e,List.mem_append];constructor
  ·rintro (h | h)
   ·split at h
    ·rename_i hc
     obtain ⟨t,rfl,h1,h2,h3⟩:=(mem_combos k (n + 1) m _ l').1 h;refine ⟨(n:Int) :: t,by simp,List.pairwise_cons.2 ⟨fun x hx=>by have:=h2 x hx;omega,h1⟩,fun x hx=>?_,by simp [h3]⟩;rcases List.mem_cons.1 hx with rfl | hx
     ·exact ⟨by omega,by omega,hc⟩
     ·have:=h2 x hx;exact ⟨by omega,by omega,this.2.2⟩
    ·cases h
   ·obtain ⟨t,rfl,h1,h2,h3⟩:=(mem_combos k (n + 1) (m + 1) l l').1 h;exact ⟨t,rfl,h1,fun x hx=>by have:=h2 x hx;exact ⟨by omega,by omega,this.2.2⟩,h3⟩
  ·rintro ⟨t,rfl,h1,h2,h3⟩
   cases t with
   | nil=>cases h3
   | cons y r =>
    rw [List.pairwise_cons] at h1;have hy:=h2 y List.mem_cons_self;by_cases e:y = (n:Int)
    ·subst e;left;rw [if_pos hy.2.2];exact (mem_combos k (n + 1) m _ _).2 ⟨r,by simp,h1.2,fun x hx=>by have:=h1.1 x hx;have:=h2 x (List.mem_cons_of_mem _ hx);exact ⟨by omega,by omega,this.2.2⟩,by simpa using h3⟩
    ·right;refine (mem_combos k (n + 1) (m + 1) l _).2 ⟨y :: r,rfl,List.pairwise_cons.2 h1,fun x hx=>?_,h3⟩;have hb:=h2 x hx;rcases List.mem_cons.1 hx with rfl | hx
     ·exact ⟨by omega,by omega,hb.2.2⟩
     ·have:=h1.1 x hx;exact ⟨by omega,by omega,hb.2.2⟩
theorem combos_len {c:Int} {k n m:Nat} {l':List Int} (h:l' ∈ combos c k n m []):l'.length = m:=by
 obtain ⟨t,rfl,-,-,h⟩:=(mem_combos k n m [] l').1 h;simpa using h
def refL (l:List Int):Int -> Bool:=fun n=>l.contains n
theorem all_refuted {c:Int} (hc:0 <= c /\ c < N) (hs:(c,c) ∉ S) (hS:∀ s ∈ S,0 <= s.1 /\ s.1 < N) {l:List Int} (hl:∀ n:Int,0 <= n -> n < N -> n ≠ c -> n ∈ l) (hcl:c ∉ l):award S noS N (begF (refL l)) c = 1:=by
 have hr:refL l c ≠ true:=fun q=>hcl (List.contains_iff_mem.1 q)
 have hx:=award_rule (S:=S) (ref:=refL l) (N:=N) hc hr
 have two:∀ s ∈ S,s.2 = c -> award S noS N (begF (refL l)) s.1 = 2:=fun s h e=>by
  have hsr:=hS s h;have hne:s.1 ≠ c:=fun q=>hs (by
   have e2:s = (c,c):=Prod.ext q e;rw [<- e2];exact h)
  exact award_ref (List.contains_iff_mem.2 (hl s.1 hsr.1 hsr.2 hne))
 have h1:rule S noS (award S noS N (begF (refL l))) c = 1:=by
  refine rule_one.2 ⟨?_,?_⟩
  ·cases q:struckB S noS (award S noS N (begF (refL l))) c 1 with
   | false=>rfl
   | true =>
    obtain ⟨-,s,h,e,v⟩:=struck_iff.1 q;rw [two s h e] at v;cases v
  ·cases q:struckB S noS (award S noS N (begF (refL l))) c 0 with
   | false=>rfl
   | true =>
    obtain ⟨-,s,h,e,v⟩:=struck_iff.1 q;rw [two s h e] at v;cases v
 rw [<- hx];exact h1
end
end Court
end
section
/- Plain: claims that are numbered otherwise (behind Aw,St,So,De). -/
namespace Court
theorem nodup_sub_len {α:Type} [DecidableEq α]:∀ {l m:List α},l.Nodup -> (∀ x ∈ l,x ∈ m) -> l.length <= m.length
 | [],m,_,_=>Nat.zero_le _
 | a :: l,m,hn,h=>by
  rw [List.nodup_cons] at hn;have ha:=h a List.mem_cons_self;have:=nodup_sub_len (m:=m.erase a) hn.2 fun x hx=>(List.mem_erase_of_ne (fun e=>hn.1 (by rw [<- e];exact hx))).2 (h x (List.mem_cons_of_mem _ hx))
  rw [List.length_erase_of_mem ha] at this;have:=List.length_pos_of_mem ha;simp only [List.length_cons];omega
theorem map_nodup {α β:Type} {g:α -> β}:∀ {l:List α},l.Nodup -> (∀ x ∈ l,∀ y ∈ l,g x = g y -> x = y) -> (l.map g).Nodup
 | [],_,_=>.nil
 | a :: l,hn,h=>by
  rw [List.nodup_cons] at hn;rw [List.map_cons,List.nodup_cons];refine ⟨fun hm=>?_,map_nodup hn.2 fun x hx y hy=>h x (List.mem_cons_of_mem _ hx) y (List.mem_cons_of_mem _ hy)⟩;obtain ⟨y,hy,e⟩:=List.mem_map.1 hm;exact hn.1 (by rw [h a List.mem_cons_self y (List.mem_cons_of_mem _ hy) e.symm];exact hy)
def Told (S S':List (Int × Int)) (p:Int -> Int):Prop:=∀ t,t ∈ S' ↔ ∃ s ∈ S,t = (p s.1,p s.2)
section
variable {S S':List (Int × Int)} {N:Nat} {p q:Int -> Int} {f f':Int -> Nat}
theorem sorted_ext:∀ {l m:List Int},l.Pairwise (· < ·) -> m.Pairwise (· < ·) -> (∀ x,x ∈ l ↔ x ∈ m) -> l = m
 | [],[],_,_,_=>rfl
 | [],b :: m,_,_,h=>by have:=(h b).2 List.mem_cons_self;cases this
 | a :: l,[],_,_,h=>by have:=(h a).1 List.mem_cons_self;cases this
 | a :: l,b :: m,hl,hm,h=>by
  rw [List.pairwise_cons] at hl hm
  have e:a = b:=by
   have h1:=(h a).1 List.mem_cons_self;have h2:=(h b).2 List.mem_cons_self;rcases List.mem_cons.1 h1 with e | h1
   ·exact e
   ·rcases List.mem_cons.1 h2 with e | h2
    ·exact e.symm
    ·have:=hl.1 b h2;have:=hm.1 a h1;omega
  subst e;rw [sorted_ext hl.2 hm.2 fun x=>?_];constructor
  ·intro hx;rcases List.mem_cons.1 ((h x).1 (List.mem_cons_of_mem _ hx)) with e | h'
   ·have:=hl.1 x hx;omega
   ·exact h'
  ·intro hx;rcases List.mem_cons.1 ((h x).2 (List.mem_cons_of_mem _ hx)) with e | h'
   ·have:=hm.1 x hx;omega
   ·exact h'
end
end Court
end
section
/- A case at work: how it lies in memory;marks of claims. -/
namespace Go.Proofs
open Go.RowKit
def mkL (m:Int -> Bool):List Value:=(List.range 14).map fun (i:Nat)=>Value.bool (m i)
def mnL (f:Int -> Nat):List Value:=(List.range 14).map fun (i:Nat)=>Value.int .i64 (f i:Nat)
def mk (m:Int -> Bool):Array Value:=(mkL m).toArray
theorem mkL_len (m:Int -> Bool):(mkL m).length = 14:=by unfold mkL;rw [List.length_map,List.length_range]
theorem mnL_len (f:Int -> Nat):(mnL f).length = 14:=by unfold mnL;rw [List.length_map,List.length_range]
theorem mkL_get (m:Int -> Bool) {i:Nat} (h:i < 14):(mkL m)[i]? = some (.bool (m i)):=by unfold mkL;rw [List.getElem?_map,List.getElem?_range h];rfl
theorem mnL_get (f:Int -> Nat) {i:Nat} (h:i < 14):(mnL f)[i]? = some (.int .i64 (f i:Nat)):=by unfold mnL;rw [List.getElem?_map,List.getElem?_range h];rfl
theorem mk_size (m:Int -> Bool):(mk m).size = 14:=by unfold mk;rw [List.size_toArray,mkL_len]
theorem mk_get (m:Int -> Bool) {i:Nat} (h:i < 14):(mk m)[i]? = some (.bool (m i)):=by unfold mk;rw [List.getElem?_toArray,mkL_get m h]
theorem mkL_one (m:Int -> Bool):∀ v ∈ mkL m,v.oneCell' = true:=by intro v hv;unfold mkL at hv;rw [List.mem_map] at hv;obtain ⟨i,-,rfl⟩:=hv;rfl
theorem mnL_one (f:Int -> Nat):∀ v ∈ mnL f,v.oneCell' = true:=by intro v hv;unfold mnL at hv;rw [List.mem_map] at hv;obtain ⟨i,-,rfl⟩:=hv;rfl
def setM (m:Int -> Bool) (n:Int):Int -> Bool:=fun k=>if k = n then true else m k
theorem mkL_set (m:Int -> Bool) {n:Nat} (h:n < 14):(mkL m).set n (.bool true) = mkL (setM m n):=by
 apply List.ext_getElem?;intro i;rw [List.getElem?_set];by_cases hi:i < 14
 ·rw [mkL_get _ hi,mkL_get _ hi,mkL_len];unfold setM;by_cases e:n = i
  ·subst e;simp [h]
  ·rw [if_neg e,if_neg (by omega)]
 ·rw [if_neg (by omega),List.getElem?_eq_none (by rw [mkL_len];omega),List.getElem?_eq_none (by rw [mkL_len];omega)]
theorem mnL_set (f:Int -> Nat) {n:Nat} (h:n < 14) (v:Nat):(mnL f).set n (.int .i64 v) = mnL (Court.setF f n v):=by
 apply List.ext_getElem?;intro i;rw [List.getElem?_set];by_cases hi:i < 14
 ·rw [mnL_get _ hi,mnL_get _ hi,mnL_len];unfold Court.setF;by_cases e:n = i
  ·subst e;simp [h]
  ·rw [if_neg e,if_neg (by omega)]
 ·rw [if_neg (by omega),List.getElem?_eq_none (by rw [mnL_len];omega),List.getElem?_eq_none (by rw [mnL_len];omega)]
theorem mk_set (m:Int -> Bool) {n:Nat} (h:n < 14):(mk m).setIfInBounds n (.bool true) = mk (setM m n):=by
 unfold mk;rw [List.setIfInBounds_toArray,mkL_set m h]
def deskL (C:CaseL) (a1 a2:Option Addr) (c1 c2:Nat) (ref sure:Int -> Bool) (f r:Int -> Nat):List Value :=
 [.int .i64 C.claims,.slice a1 C.strikes.length c1,.slice a2 C.surveys.length c2] ++ (mkL ref ++ (mkL sure ++ (mnL f ++ mnL r)))
section
variable (C:CaseL) (a1 a2:Option Addr) (c1 c2:Nat) (ref sure:Int -> Bool) (f r:Int -> Nat)
theorem deskL_len:(deskL C a1 a2 c1 c2 ref sure f r).length = 59:=by unfold deskL;simp only [List.length_append,mkL_len,mnL_len,List.length_cons,List.length_nil]
theorem deskL_0:(deskL C a1 a2 c1 c2 ref sure f r)[0]? = some (.int .i64 C.claims):=rfl
theorem deskL_1:(deskL C a1 a2 c1 c2 ref sure f r)[1]? = some (.slice a1 C.strikes.length c1):=rfl
theorem deskL_ref {i:Nat} (h:i < 14):(deskL C a1 a2 c1 c2 ref sure f r)[3 + i]? = some (.bool (ref i)):=by
 unfold deskL;rw [List.getElem?_append_right (by simp <;> omega),List.getElem?_append_left (by rw [mkL_len];simp <;> omega)];rw [show 3 + i - [Value.int .i64 C.claims,.slice a1 C.strikes.length c1,.slice a2 C.surveys.length c2].length = i by simp];exact mkL_get ref h
theorem deskL_sure {i:Nat} (h:i < 14):(deskL C a1 a2 c1 c2 ref sure f r)[17 + i]? = some (.bool (sure i)):=by
 unfold deskL;rw [List.getElem?_append_right (by simp <;> omega),List.getElem?_append_right (by rw [mkL_len];simp <;> omega),List.getElem?_append_left (by rw [mkL_len,mkL_len];simp <;> omega)];rw [show 17 + i - [Value.int .i64 C.claims,.slice a1 C.strikes.length c1,.slice a2 C.surveys.length c2].length - (mkL ref).length = i by rw [mkL_len];simp <;> omega];exact mkL_get sure h
theorem deskL_found {i:Nat} (h:i < 14):(deskL C a1 a2 c1 c2 ref sure f r)[31 + i]? = some (.int .i64 (f i:Nat)):=by
 unfold deskL;rw [List.getElem?_append_right (by simp <;> omega),List.getElem?_append_right (by rw [mkL_len];simp <;> omega),List.getElem?_append_right (by rw [mkL_len,mkL_len];simp <;> omega),List.getElem?_append_left (by rw [mkL_len,mkL_len,mnL_len];simp <;> omega)];rw [show 31 + i - [Value.int .i64 C.claims,.slice a1 C.strikes.length c1,.slice a2 C.surveys.length c2].length - (mkL ref).length - (mkL sure).length = i by rw [mkL_len,mkL_len];simp <;> omega];exact mnL_get f h
theorem deskL_rank {i:Nat} (h:i < 14):(deskL C a1 a2 c1 c2 ref sure f r)[45 + i]? = some (.int .i64 (r i:Nat)):=by
 unfold deskL;rw [List.getElem?_append_right (by simp <;> omega),List.getElem?_append_right (by rw [mkL_len];simp <;> omega),List.getElem?_append_right (by rw [mkL_len,mkL_len];simp <;> omega),List.getElem?_append_right (by rw [mkL_len,mkL_len,mnL_len];simp <;> omega)];rw [show 45 + i - [Value.int .i64 C.claims,.slice a1 C.strikes.length c1,.slice a2 C.surveys.length c2].length - (mkL ref).length - (mkL sure).length - (mnL f).length = i by rw [mkL_len,mkL_len,mnL_len];simp <;> omega];exact mnL_get r h
theorem deskL_set_found {n:Nat} (h:n < 14) (v:Nat):(deskL C a1 a2 c1 c2 ref sure f r).set (31 + n) (.int .i64 v) = deskL C a1 a2 c1 c2 ref sure (Court.setF f n v) r:=by
 unfold deskL;rw [List.set_append_right _ _ (by simp <;> omega),List.set_append_right _ _ (by rw [mkL_len];simp <;> omega),List.set_append_right _ _ (by rw [mkL_len,mkL_len];simp <;> omega),List.set_append_left _ _ (by rw [mkL_len,mkL_len,mnL_len];simp <;> omega)];rw [show 31 + n - [Value.int .i64 C.claims,.slice a1 C.strikes.length c1,.slice a2 C.surveys.length c2].length - (mkL ref).length - (mkL sure).length = n by rw [mkL_len,mkL_len];simp <;> omega,mnL_set f h]
theorem deskL_set_rank {n:Nat} (h:n < 14) (v:Nat):(deskL C a1 a2 c1 c2 ref sure f r).set (45 + n) (.int .i64 v) = deskL C a1 a2 c1 c2 ref sure f (Court.setF r n v):=by
 unfold deskL;rw [List.set_append_right _ _ (by simp <;> omega),List.set_append_right _ _ (by rw [mkL_len];simp <;> omega),List.set_append_right _ _ (by rw [mkL_len,mkL_len];simp <;> omega),List.set_append_right _ _ (by rw [mkL_len,mkL_len,mnL_len];simp <;> omega)];rw [show 45 + n - [Value.int .i64 C.claims,.slice a1 C.strikes.length c1,.slice a2 C.surveys.length c2].length - (mkL ref).length - (mkL sure).length - (mnL f).length = n by rw [mkL_len,mkL_len,mnL_len];simp <;> omega,mnL_set r h]
end
structure DeskAt (w0 w:World) (d:Nat) (C:CaseL) (a1 a2:Option Addr) (c1 c2:Nat) (ref sure:Int -> Bool) (f r:Int -> Nat):Prop where
 blk:Blk w d 94 (deskL C a1 a2 c1 c2 ref sure f r).toArray
 rep:CRep w0 C a1 a2
 base:w0.heap.size <= d
 aft:Aft w0 w
section
variable {w0 w w':World} {d:Nat} {C:CaseL} {a1 a2:Option Addr} {c1 c2:Nat} {ref sure:Int -> Bool} {f r:Int -> Nat}
theorem DeskAt.lt (h:DeskAt w0 w d C a1 a2 c1 c2 ref sure f r):d < w.heap.size:=h.blk.lt
theorem DeskAt.later (h:DeskAt w0 w d C a1 a2 c1 c2 ref sure f r) (ha:Aft w w'):DeskAt w0 w' d C a1 a2 c1 c2 ref sure f r:=⟨h.blk.aft ha,h.rep,h.base,h.aft.trans ha⟩
theorem DeskAt.strs (h:DeskAt w0 w d C a1 a2 c1 c2 ref sure f r):Strs w a1 C.strikes:=h.rep.strikes.aft h.aft
theorem DeskAt.k0 (h:DeskAt w0 w d C a1 a2 c1 c2 ref sure f r):w.cell? ⟨d,0,none⟩ = some (.int .i64 C.claims):=(h.blk.cell 0).trans (by rw [List.getElem?_toArray,deskL_0])
theorem DeskAt.k1 (h:DeskAt w0 w d C a1 a2 c1 c2 ref sure f r):w.cell? ⟨d,1,none⟩ = some (.slice a1 C.strikes.length c1):=(h.blk.cell 1).trans (by rw [List.getElem?_toArray,deskL_1])
theorem DeskAt.rf (h:DeskAt w0 w d C a1 a2 c1 c2 ref sure f r) {i:Nat} (hi:i < 14):w.cell? ⟨d,3 + i,none⟩ = some (.bool (ref i)):=(h.blk.cell _).trans (by rw [List.getElem?_toArray,deskL_ref _ _ _ _ _ _ _ _ _ hi])
theorem DeskAt.sr (h:DeskAt w0 w d C a1 a2 c1 c2 ref sure f r) {i:Nat} (hi:i < 14):w.cell? ⟨d,17 + i,none⟩ = some (.bool (sure i)):=(h.blk.cell _).trans (by rw [List.getElem?_toArray,deskL_sure _ _ _ _ _ _ _ _ _ hi])
theorem DeskAt.found (h:DeskAt w0 w d C a1 a2 c1 c2 ref sure f r) {i:Nat} (hi:i < 14):w.cell? ⟨d,31 + i,none⟩ = some (.int .i64 (f i:Nat)):=(h.blk.cell _).trans (by rw [List.getElem?_toArray,deskL_found _ _ _ _ _ _ _ _ _ hi])
theorem DeskAt.rank (h:DeskAt w0 w d C a1 a2 c1 c2 ref sure f r) {i:Nat} (hi:i < 14):w.cell? ⟨d,45 + i,none⟩ = some (.int .i64 (r i:Nat)):=(h.blk.cell _).trans (by rw [List.getElem?_toArray,deskL_rank _ _ _ _ _ _ _ _ _ hi])
theorem DeskAt.fz (h:DeskAt w0 w d C a1 a2 c1 c2 ref sure f r) (i:Nat):w.frozen? ⟨d,i,none⟩ = false:=h.blk.frozen i
theorem DeskAt.founds (h:DeskAt w0 w d C a1 a2 c1 c2 ref sure f r):w.rangeAt d 31 (mnL f):=fun j v hv=>by
 have hj:j < 14:=by have:=(List.getElem?_eq_some_iff.1 hv).1;rwa [mnL_len] at this
 rw [mnL_get f hj] at hv;rw [<- hv];exact h.found hj
theorem DeskAt.setFound (h:DeskAt w0 w d C a1 a2 c1 c2 ref sure f r) {n:Nat} (hn:n < 14) (v:Nat):DeskAt w0 (w.setCell ⟨d,31 + n,none⟩ (.int .i64 v)) d C a1 a2 c1 c2 ref sure (Court.setF f n v) r :=
 ⟨by have:=h.blk.store (31 + n) (.int .i64 v);rwa [List.setIfInBounds_toArray,deskL_set_found _ _ _ _ _ _ _ _ _ hn] at this,h.rep,h.base,h.aft.then_setCell h.base _⟩
theorem DeskAt.setRank (h:DeskAt w0 w d C a1 a2 c1 c2 ref sure f r) {n:Nat} (hn:n < 14) (v:Nat):DeskAt w0 (w.setCell ⟨d,45 + n,none⟩ (.int .i64 v)) d C a1 a2 c1 c2 ref sure f (Court.setF r n v) :=
 ⟨by have:=h.blk.store (45 + n) (.int .i64 v);rwa [List.setIfInBounds_toArray,deskL_set_rank _ _ _ _ _ _ _ _ _ hn] at this,h.rep,h.base,h.aft.then_setCell h.base _⟩
end
end Go.Proofs
end
