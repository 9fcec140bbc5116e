/- Own texts, merged: Xe Pvr Rgh WkU WkW Rdg Xf. -/
import Derived.Test.YtobpdobneocckaaGreatDoorP06
section
/- Walks: Proves. -/
attribute [local go_sem ↓] Go.wp_at_zero Go.wp_at_succ
namespace Go.Proofs
open Go.RowKit
section
variable {w:World} {T:Treaty} {a1 a2 a3 a4:Option Addr} {c1 c2 c3 c4:Nat} {R:List Int}
theorem read_bad' {AR:Option Addr} {cR:Nat} {o:Obj} (hT:TRep w T a1 a2 a3 a4) (hR:Ints w AR R) (hz:readE T R ≠ 0) :
  Calls Tryz.prog 69 #[.agg #[.int .i64 T.places,.slice a1 T.ways.length c1,.slice a2 T.words.length c2,.slice a3 T.starts.length c3,.slice a4 T.legs.length c4],.slice AR R.length cR] ((w.alloc (.cells #[.int .i64 T.places,.slice a1 T.ways.length c1,.slice a2 T.words.length c2,.slice a3 T.starts.length c3,.slice a4 T.legs.length c4] 27)).alloc o) fun e w'=>e = .returned (.tuple #[.pointer none,.int .i64 (readE T R)]) /\ Aft w w':=by
 have h1:Aft w ((w.alloc (.cells #[.int .i64 T.places,.slice a1 T.ways.length c1,.slice a2 T.words.length c2,.slice a3 T.starts.length c3,.slice a4 T.legs.length c4] 27)).alloc o):=(Aft.alloc _ _).then_alloc _;refine (read_any ((w.alloc (.cells #[.int .i64 T.places,.slice a1 T.ways.length c1,.slice a2 T.words.length c2,.slice a3 T.starts.length c3,.slice a4 T.legs.length c4] 27)).alloc o) T a1 a2 a3 a4 c1 c2 c3 c4 R AR cR (hT.aft h1) (hR.aft h1)).mono ?_;rintro e w' ⟨ha,⟨_,he⟩ | ⟨h0,_⟩⟩
 ·exact ⟨he,h1.trans ha⟩
 ·exact absurd h0 hz
theorem read_good' {AR:Option Addr} {cR:Nat} {cs:Array Value} {t:TypeId} {o:Obj} (ho:o = .cells cs t) (hT:TRep w T a1 a2 a3 a4) (hR:Ints w AR R) (hz:readE T R = 0) :
  Calls Tryz.prog 69 #[.agg #[.int .i64 T.places,.slice a1 T.ways.length c1,.slice a2 T.words.length c2,.slice a3 T.starts.length c3,.slice a4 T.legs.length c4],.slice AR R.length cR] ((w.alloc (.cells #[.int .i64 T.places,.slice a1 T.ways.length c1,.slice a2 T.words.length c2,.slice a3 T.starts.length c3,.slice a4 T.legs.length c4] 27)).alloc o) fun e w'=>∃ D cs',e = .returned (.tuple #[.pointer (some ⟨D,0,none⟩),.int .i64 0]) /\ Rd w T a1 a2 a3 a4 c1 c2 c3 c4 R D cs' w' /\ Blk w' (w.heap.size + 1) t cs:=by
 subst ho;have h1:Aft w ((w.alloc (.cells #[.int .i64 T.places,.slice a1 T.ways.length c1,.slice a2 T.words.length c2,.slice a3 T.starts.length c3,.slice a4 T.legs.length c4] 27)).alloc (.cells cs t)):=(Aft.alloc _ _).then_alloc _;refine (read_any ((w.alloc (.cells #[.int .i64 T.places,.slice a1 T.ways.length c1,.slice a2 T.words.length c2,.slice a3 T.starts.length c3,.slice a4 T.legs.length c4] 27)).alloc (.cells cs t)) T a1 a2 a3 a4 c1 c2 c3 c4 R AR cR (hT.aft h1) (hR.aft h1)).mono ?_;rintro e w' ⟨ha,⟨h0,_⟩ | ⟨_,D,cs',he,hD,hb,hg⟩⟩
 ·exact absurd hz h0
 ·refine ⟨D,cs',he,⟨h1.trans ha,((Blk.new _ _ _).alloc _).aft ha,?_,hb,hg⟩,?_⟩
  ·rw [World.size_alloc,World.size_alloc] at hD;omega
  ·have:=Blk.new (w.alloc (.cells #[.int .i64 T.places,.slice a1 T.ways.length c1,.slice a2 T.words.length c2,.slice a3 T.starts.length c3,.slice a4 T.legs.length c4] 27)) t cs;rw [World.size_alloc] at this;exact this.aft ha
end
def cellF (F:List (List Int)) (i j:Nat):Int:=(F.getD i []).getD j 0
def holdsB (T:Treaty) (f:Nat -> Nat -> Nat -> Bool) (F:List (List Int)):Bool:=(List.range T.legs.length).all fun i=>(List.range T.places.toNat).all fun a=>(List.range T.places.toNat).all fun b=>decide (cellF F (i + 1) b <= cellF F i a + brk f i a b)
def shapeB (T:Treaty) (F:List (List Int)):Bool:=decide (F.length = T.legs.length + 1) && F.all fun l=>(l.length:Int) == T.places
def valuesB (F:List (List Int)):Bool:=F.all fun l=>l.all fun x=>fromB x 0 (12 - 1)
def zerosB (T:Treaty) (F:List (List Int)):Bool:=T.starts.all fun s=>cellF F 0 s.toNat == 0
noncomputable def provesE (T:Treaty) (R:List Int) (F:List (List Int)):Int:=if readE T R = 0 then (if shapeB T F then (if valuesB F then (if zerosB T F then (if holdsB T (leadsF T R) F then 0 else 9) else 9) else 4) else 3) else readE T R
noncomputable def provesN (T:Treaty) (R:List Int) (F:List (List Int)):Int:=if provesE T R F = 0 then minTo (F.getD T.legs.length []) (F.getD T.legs.length []).length else 0
theorem holdsB_iff {T:Treaty} {f:Nat -> Nat -> Nat -> Bool} {F:List (List Int)}:holdsB T f F = true ↔ ∀ i,i < T.legs.length -> ∀ a,a < T.places.toNat -> ∀ b,b < T.places.toNat -> cellF F (i + 1) b <= cellF F i a + brk f i a b:=by
 unfold holdsB;simp only [List.all_eq_true,List.mem_range,decide_eq_true_eq]
theorem aft_cellC {W W':World} (h:Aft W W') {b i:Nat} (hb:b < W.heap.size):W'.cell? ⟨b,i,none⟩ = W.cell? ⟨b,i,none⟩:=by obtain ⟨u,rfl⟩:=h;exact World.lat_cell _ _ _ _ hb
theorem cellF_eq {F:List (List Int)} {i j:Nat} (h:i < F.length) (h':j < F[i].length):cellF F i j = F[i][j]:=by
 unfold cellF;have e:F.getD i [] = F[i]:=by rw [List.getD_eq_getElem?_getD,List.getElem?_eq_getElem h];rfl
 rw [e,List.getD_eq_getElem?_getD,List.getElem?_eq_getElem h'];rfl
theorem row_at {W:World} {AF:Option Addr} {F:List (List Int)} (h:Lists W AF F) {i p:Nat} (hi:i < F.length) (hr:(F.getD i []).length = p) (hp:1 <= p) :
  ∃ b o c,(∀ bF oF,AF = some ⟨bF,oF,none⟩ -> W.cell? ⟨bF,oF + i,none⟩ = some (.slice (some ⟨b,o,none⟩) p c)) /\ b < W.heap.size /\ ∀ j,j < p -> W.cell? ⟨b,o + j,none⟩ = some (.int .i64 (cellF F i j)):=by
 have e0:F.getD i [] = F[i]:=by rw [List.getD_eq_getElem?_getD,List.getElem?_eq_getElem hi];rfl
 rw [e0] at hr;obtain ⟨bF,oF,rfl,hb,hc⟩:=h.at hi;obtain ⟨Ai,ci,h1,h2⟩:=hc i hi;obtain ⟨b,o,rfl,h3,h4⟩:=h2.at (k:=0) (by omega);refine ⟨b,o,ci,fun b' o' e=>by cases e;rw [<- hr];exact h1,h3,fun j hj=>?_⟩;rw [cellF_eq hi (by omega)];exact h4 j (by omega)
theorem last_ints {W:World} {bF oF:Nat} {F:List (List Int)} (h:Lists W (some ⟨bF,oF,none⟩) F) {i p:Nat} (hi:i < F.length) (hr:(F.getD i []).length = p) {A:Option Addr} {c:Nat} (hc:W.cell? ⟨bF,oF + i,none⟩ = some (.slice A p c)) (_hp:1 <= p):Ints W A (F.getD i []):=by
 have e0:F.getD i [] = F[i]:=by rw [List.getD_eq_getElem?_getD,List.getElem?_eq_getElem hi];rfl
 obtain ⟨b',o',e,hb,hcl⟩:=h.at hi;cases e;obtain ⟨Ai,ci,h1,h2⟩:=hcl i hi;rw [h1] at hc;cases hc;rw [e0];exact h2
def ProvesR (w:World) (T:Treaty) (R:List Int) (F:List (List Int)) (e:Ending) (w':World):Prop:=Aft w w' /\ e = .returned (.tuple #[.int .i64 (provesN T R F),.int .i64 (provesE T R F)])
theorem runs_86 (args:Array Value) (w:World):(callFunc 102 args).run Tryz.prog w = .ok (.enter 102 args) w:=by simp [go_sem]
theorem runs_87 (args:Array Value) (w:World):(callFunc 103 args).run Tryz.prog w = .ok (.enter 103 args) w:=by simp [go_sem]
theorem runs_88 (args:Array Value) (w:World):(callFunc 104 args).run Tryz.prog w = .ok (.enter 104 args) w:=by simp [go_sem]
theorem asks86 (l:List Int) (v:Value) (B:Nat) (p:Int) (w:World) (hB:B < w.heap.size) (hc:w.cell? ⟨B,0,none⟩ = some (.int .i64 p)) (h:ListR w l [v]):Asks Tryz.prog 102 [.pointer (some ⟨B,0,none⟩)] w v ((l.length:Int) == p):=by
 obtain ⟨A,c,hv,hA⟩:=h;cases hv;intro u;have hl:=hA.len;have hc':=lat_keep w u hB hc;go_enter Tryz.func102,Tryz.ntmps102;go_wp2_with fail
 go_ret;exact ⟨rfl,Aft.refl _⟩
theorem asks87 (l:List Int) (v:Value) (w:World) (h:ListR w l [v]):Asks Tryz.prog 103 [] w v (l.all fun x=>fromB x 0 (12 - 1)):=by
 obtain ⟨A,c,hv,hA⟩:=h;cases hv;intro u;have hi:=hA.lat u;have HB:=Lib.hid (each_below A l c (w.lat u).heap.size 12 ((w.lat u).alloc (.cells #[.int .i64 12] 3)) (hi.aft (Aft.alloc _ _)) (by simp) (by simp) (by decide) (by decide));go_enter Tryz.func103,Tryz.ntmps103
 go_wp2_with (first
  | (go_at_call 84;refine (below_any _ _).mono ?_;rintro e w' ⟨rfl,rfl⟩)
  | (go_at_call 87;refine HB.out.mono ?_;rintro e w' ⟨rfl,ha⟩))
 go_ret;exact ⟨rfl,(Aft.alloc _ _).trans ha⟩
theorem asks88 (s:Int) (A:Option Addr) (F:List (List Int)) (c:Nat) (B:Nat) (w:World) (hB:B < w.heap.size) (hc:w.cell? ⟨B,0,none⟩ = some (.slice A F.length c)) (hF:Lists w A F) (h0:0 < F.length) (hs:0 <= s) (hs':s < (F.getD 0 []).length) :
  Asks Tryz.prog 104 [.pointer (some ⟨B,0,none⟩)] w (.int .i64 s) (cellF F 0 s.toNat == 0):=by
 intro u;have hc':=lat_keep w u hB hc;have hFl:=hF.len;obtain ⟨b,o,rfl,hb,hrow⟩:=(hF.lat u).at h0;obtain ⟨Ai,ci,h1,h2⟩:=hrow 0 h0;have e0:F.getD 0 [] = F[0]:=by rw [List.getD_eq_getElem?_getD,List.getElem?_eq_getElem h0];rfl
 have e1:cellF F 0 s.toNat = F[0].getD s.toNat 0:=by unfold cellF;rw [e0]
 rw [e0] at hs';rw [e1];clear hrow e1 e0;obtain ⟨n,rfl⟩:=Int.eq_ofNat_of_zero_le hs;simp only [Int.toNat_natCast];generalize F[0] = r at *;have hn:n < r.length:=by omega
 obtain ⟨b2,o2,rfl,hb2,hcl⟩:=h2.at hn;have hcn:=hcl n hn;have hrl:=h2.len;have e2:r.getD n 0 = r[n]:=by rw [List.getD_eq_getElem?_getD,List.getElem?_eq_getElem hn];rfl
 rw [e2];generalize r[n] = x at *;have h0':(0:Int) < (F.length:Int):=by omega
 have hz:(w.lat u).cell? ⟨b,o,none⟩ = some (.slice (some ⟨b2,o2,none⟩) r.length ci):=h1;clear hcl e2 h1 hF hs;go_enter Tryz.func104,Tryz.ntmps104;go_wp2_with fail
 go_ret;exact ⟨rfl,Aft.refl _⟩
set_option maxRecDepth 100000 in
set_option maxHeartbeats 2000000 in
theorem proves_any (w:World) (T:Treaty) (a1 a2 a3 a4:Option Addr) (c1 c2 c3 c4:Nat) (R:List Int) (AR:Option Addr) (cR:Nat) (F:List (List Int)) (AF:Option Addr) (cF:Nat) (hT:TRep w T a1 a2 a3 a4) (hR:Ints w AR R) (hF:Lists w AF F) :
  Calls Tryz.prog 44 #[.agg #[.int .i64 T.places,.slice a1 T.ways.length c1,.slice a2 T.words.length c2,.slice a3 T.starts.length c3,.slice a4 T.legs.length c4],.slice AR R.length cR,.slice AF F.length cF] w (ProvesR w T R F):=by
 have hfl:=hF.len;by_cases hre:readE T R = 0
 ·have HC:=Lib.hid (read_good' (c1:=c1) (c2:=c2) (c3:=c3) (c4:=c4) (cR:=cR) (cs:=#[.slice AF F.length cF]) (t:=37) rfl hT hR hre);have ok:=checkE_ok (readE_zero.1 hre).1;have hl:=ok.nlegs;obtain ⟨p,hpp⟩:=Int.eq_ofNat_of_zero_le (show 0 <= T.places by have:=ok.p1;omega);have hp12:p <= 12:=by have:=ok.p2;omega
  have hp1:1 <= p:=by have:=ok.p1;omega
  have HPP:=Lib.hid hpp;clear hpp;have HRE:=Lib.hid hre;have HOK:=Lib.hid ok;clear hre ok;by_cases hn:F.length = T.legs.length + 1
  ·have hb1:((F.length:Int) != (T.legs.length:Int) + 1) = false:=by rw [hn];simp
   have HN:=Lib.hid hn;clear hn;have H86:=Lib.hid (fun (W:World) (h:Aft w W) (hB:w.heap.size < W.heap.size) (hc:W.cell? ⟨w.heap.size,0,none⟩ = some (.int .i64 p))=>each_lists ListR ListR.mono 102 [.pointer (some ⟨w.heap.size,0,none⟩)] (fun l=>(l.length:Int) == p) AF F cF W (hF.aft h) runs_86 (fun l _ u v hv=>asks86 l v w.heap.size p (W.lat u) (Nat.lt_of_lt_of_le hB (W.lat_size u)) (lat_keep W u hB hc) hv));have H87:=Lib.hid (fun (W:World) (h:Aft w W)=>each_lists ListR ListR.mono 103 [] (fun l=>l.all fun x=>fromB x 0 (12 - 1)) AF F cF W (hF.aft h) runs_87 (fun l _ u v hv=>asks87 l v (W.lat u) hv));have hsh:shapeB T F = F.all fun l=>(l.length:Int) == p:=by unfold shapeB;rw [decide_eq_true HN.out,Bool.true_and,HPP.out]
   have HSH:=Lib.hid hsh;clear hsh;cases hs1:F.all fun l=>(l.length:Int) == p
   ·have HS1:=Lib.hid hs1;clear hs1;go_enter Tryz.func44,Tryz.ntmps44;go_wp2_with (go_at_call 69;refine HC.out.mono ?_;rintro e w1 ⟨D,cs,rfl,hrd,hx⟩;have HRD:=Lib.hid hrd;have k0:=hrd.at0;rw [HPP.out] at k0;have k4:=hrd.at4;have x0:w1.cell? ⟨w.heap.size + 1,0,none⟩ = some (.slice AF F.length cF):=hx.cell 0;have hlt:=hrd.lt;have hlx:=hx.lt;have HX:=Lib.hid hx;clear hrd hx)
    have hq:=H86.out w1 HRD.out.aft hlt k0;refine Calls.mono hq ?_;clear hq;rintro e w2 ⟨rfl,ha2⟩;rw [HS1.out];have x2:=(aft_cellC ha2 hlx).trans x0;have y4:=(aft_cellC ha2 hlt).trans k4;go_wp2_with fail
    go_ret2;have hE:provesE T R F = 3:=by unfold provesE;rw [if_pos HRE.out,HSH.out,HS1.out];rfl
    exact ⟨HRD.out.aft.trans ha2,by unfold provesN;rw [hE];rfl⟩
   ·have HS1:=Lib.hid hs1
    have hrow:∀ i,i < T.legs.length + 1 -> (F.getD i []).length = p:=fun i hi=>by
     have h1:i < F.length:=by have:=HN.out;omega
     have h2:=List.all_eq_true.1 hs1 _ (List.getElem_mem h1);rw [List.getD_eq_getElem?_getD,List.getElem?_eq_getElem h1,Option.getD_some];have:=beq_iff_eq.1 h2;omega
    have HROW:=Lib.hid hrow;clear hs1 hrow;cases hs2:F.all fun l=>l.all fun x=>fromB x 0 (12 - 1)
    ·have HS2:=Lib.hid hs2;clear hs2;go_enter Tryz.func44,Tryz.ntmps44;go_wp2_with (go_at_call 69;refine HC.out.mono ?_;rintro e w1 ⟨D,cs,rfl,hrd,hx⟩;have HRD:=Lib.hid hrd;have k0:=hrd.at0;rw [HPP.out] at k0;have k4:=hrd.at4;have x0:w1.cell? ⟨w.heap.size + 1,0,none⟩ = some (.slice AF F.length cF):=hx.cell 0;have hlt:=hrd.lt;have hlx:=hx.lt;have HX:=Lib.hid hx;clear hrd hx)
     have hq:=H86.out w1 HRD.out.aft hlt k0;refine Calls.mono hq ?_;clear hq;rintro e w2 ⟨rfl,ha2⟩;rw [HS1.out];have x2:=(aft_cellC ha2 hlx).trans x0;have y4:=(aft_cellC ha2 hlt).trans k4;go_wp2_with fail
     have hq:=H87.out w2 (HRD.out.aft.trans ha2);refine Calls.mono hq ?_;clear hq;rintro e w3 ⟨rfl,ha3⟩;rw [HS2.out];have z3:w3.cell? ⟨w.heap.size,3,none⟩ = some (.slice a3 T.starts.length c3):=((HRD.out.later ha2).later ha3).at3;have x3:=(aft_cellC ha3 (Nat.lt_of_lt_of_le hlx ha2.size)).trans x2;have y5:=(aft_cellC ha3 (Nat.lt_of_lt_of_le hlt ha2.size)).trans y4;go_wp2_with fail
     go_ret2;have hE:provesE T R F = 4:=by unfold provesE valuesB;rw [if_pos HRE.out,HSH.out,HS1.out,HS2.out];rfl
     exact ⟨(HRD.out.aft.trans ha2).trans ha3,by unfold provesN;rw [hE];rfl⟩
    ·have HS2:=Lib.hid hs2
     have hval:∀ i j,i < T.legs.length + 1 -> j < p -> 0 <= cellF F i j /\ cellF F i j <= 11:=fun i j hi hj=>by
      have h1:i < F.length:=by have:=HN.out;omega
      have h2:=List.all_eq_true.1 hs2 _ (List.getElem_mem h1);have h3:=HROW.out i hi;rw [List.getD_eq_getElem?_getD,List.getElem?_eq_getElem h1,Option.getD_some] at h3;have h4:=List.all_eq_true.1 h2 _ (List.getElem_mem (show j < F[i].length by omega));have h5:=fromB_iff.1 h4;rw [cellF_eq h1 (show j < F[i].length by omega)];omega
     have HVAL:=Lib.hid hval;clear hs2 hval
     have H88:=Lib.hid (fun (W:World) (h:Aft w W) (hB:w.heap.size + 1 < W.heap.size) (hc:W.cell? ⟨w.heap.size + 1,0,none⟩ = some (.slice AF F.length cF))=>each_int IntR IntR.mono 104 [.pointer (some ⟨w.heap.size + 1,0,none⟩)] (fun s=>cellF F 0 s.toNat == 0) a3 T.starts c3 W (hT.starts.aft h) runs_88 (fun s hs u v hv=>by
      cases hv;have hs2:=HOK.out.starts s hs;rw [HPP.out] at hs2;exact asks88 s AF F cF (w.heap.size + 1) (W.lat u) (Nat.lt_of_lt_of_le hB (W.lat_size u)) (lat_keep W u hB hc) ((hF.aft h).lat u) (by have:=HN.out;omega) hs2.1 (by rw [HROW.out 0 (by omega)];omega)))
     cases hs3:T.starts.all fun s=>cellF F 0 s.toNat == 0
     ·have HS3:=Lib.hid hs3;clear hs3;go_enter Tryz.func44,Tryz.ntmps44;go_wp2_with (go_at_call 69;refine HC.out.mono ?_;rintro e w1 ⟨D,cs,rfl,hrd,hx⟩;have HRD:=Lib.hid hrd;have k0:=hrd.at0;rw [HPP.out] at k0;have k4:=hrd.at4;have x0:w1.cell? ⟨w.heap.size + 1,0,none⟩ = some (.slice AF F.length cF):=hx.cell 0;have hlt:=hrd.lt;have hlx:=hx.lt;have HX:=Lib.hid hx;clear hrd hx)
      have hq:=H86.out w1 HRD.out.aft hlt k0;refine Calls.mono hq ?_;clear hq;rintro e w2 ⟨rfl,ha2⟩;rw [HS1.out];have x2:=(aft_cellC ha2 hlx).trans x0;have y4:=(aft_cellC ha2 hlt).trans k4;go_wp2_with fail
      have hq:=H87.out w2 (HRD.out.aft.trans ha2);refine Calls.mono hq ?_;clear hq;rintro e w3 ⟨rfl,ha3⟩;rw [HS2.out];have z3:w3.cell? ⟨w.heap.size,3,none⟩ = some (.slice a3 T.starts.length c3):=((HRD.out.later ha2).later ha3).at3;have x3:=(aft_cellC ha3 (Nat.lt_of_lt_of_le hlx ha2.size)).trans x2;have y5:=(aft_cellC ha3 (Nat.lt_of_lt_of_le hlt ha2.size)).trans y4;go_wp2_with fail
      have hq:=H88.out w3 ((HRD.out.aft.trans ha2).trans ha3) (Nat.lt_of_lt_of_le hlx (Nat.le_trans ha2.size ha3.size)) x3;refine Calls.mono hq ?_;clear hq;rintro e w4 ⟨rfl,ha4⟩;rw [HS3.out];have y6:=(aft_cellC ha4 (Nat.lt_of_lt_of_le hlt (Nat.le_trans ha2.size ha3.size))).trans y5;have x4:=(aft_cellC ha4 (Nat.lt_of_lt_of_le hlx (Nat.le_trans ha2.size ha3.size))).trans x3;go_wp2_with fail
      go_ret2;have hE:provesE T R F = 9:=by unfold provesE valuesB zerosB;rw [if_pos HRE.out,HSH.out,HS1.out,HS2.out,HS3.out];rfl
      exact ⟨((HRD.out.aft.trans ha2).trans ha3).trans ha4,by unfold provesN;rw [hE];rfl⟩
     ·have HS3:=Lib.hid hs3;clear hs3;have hE:provesE T R F = if holdsB T (leadsF T R) F then 0 else 9:=by unfold provesE valuesB zerosB;rw [if_pos HRE.out,HSH.out,HS1.out,HS2.out,HS3.out];rfl
      have HE:=Lib.hid hE;clear hE;go_enter Tryz.func44,Tryz.ntmps44;go_wp2_with (go_at_call 69;refine HC.out.mono ?_;rintro e w1 ⟨D,cs,rfl,hrd,hx⟩;have HRD:=Lib.hid hrd;have k0:=hrd.at0;rw [HPP.out] at k0;have k4:=hrd.at4;have x0:w1.cell? ⟨w.heap.size + 1,0,none⟩ = some (.slice AF F.length cF):=hx.cell 0;have hlt:=hrd.lt;have hlx:=hx.lt;have HX:=Lib.hid hx;clear hrd hx)
      have hq:=H86.out w1 HRD.out.aft hlt k0;refine Calls.mono hq ?_;clear hq;rintro e w2 ⟨rfl,ha2⟩;rw [HS1.out];have x2:=(aft_cellC ha2 hlx).trans x0;have y4:=(aft_cellC ha2 hlt).trans k4;go_wp2_with fail
      have hq:=H87.out w2 (HRD.out.aft.trans ha2);refine Calls.mono hq ?_;clear hq;rintro e w3 ⟨rfl,ha3⟩;rw [HS2.out];have z3:w3.cell? ⟨w.heap.size,3,none⟩ = some (.slice a3 T.starts.length c3):=((HRD.out.later ha2).later ha3).at3;have x3:=(aft_cellC ha3 (Nat.lt_of_lt_of_le hlx ha2.size)).trans x2;have y5:=(aft_cellC ha3 (Nat.lt_of_lt_of_le hlt ha2.size)).trans y4;go_wp2_with fail
      have hq:=H88.out w3 ((HRD.out.aft.trans ha2).trans ha3) (Nat.lt_of_lt_of_le hlx (Nat.le_trans ha2.size ha3.size)) x3;refine Calls.mono hq ?_;clear hq;rintro e w4 ⟨rfl,ha4⟩;rw [HS3.out];have y6:=(aft_cellC ha4 (Nat.lt_of_lt_of_le hlt (Nat.le_trans ha2.size ha3.size))).trans y5;have x4:=(aft_cellC ha4 (Nat.lt_of_lt_of_le hlx (Nat.le_trans ha2.size ha3.size))).trans x3;go_wp2_with fail
      have hA4:Aft w w4:=((HRD.out.aft.trans ha2).trans ha3).trans ha4;have HRD4:=Lib.hid (((HRD.out.later ha2).later ha3).later ha4);have HF4:=Lib.hid (hF.aft hA4);have HRW:=Lib.hid (fun (i:Nat) (hi:i < T.legs.length + 1)=>row_at HF4.out (show i < F.length by have:=HN.out;omega) (HROW.out i hi) hp1);have HA4:=Lib.hid hA4;obtain ⟨bF,oF,rfl,hbF,_⟩:=HF4.out.at (k:=0) (by have:=HN.out;omega);clear HRD HX ha2 ha3 ha4 k0 k4 x0 hlt hlx x2 y4 z3 x3 y5 H86 H87 H88 HC hA4;go_loop [52] (fun i=>∃ k:Nat,i = .int .i64 k /\ k <= T.legs.length /\ ∀ i,i < k -> ∀ a,a < p -> ∀ b,b < p -> cellF F (i + 1) b <= cellF F i a + brk (leadsF T R) i a b) (fun i=>T.legs.length - (intOf i).toNat)
      case atStart=>exact ⟨0,rfl,by omega,fun i hi=>by omega⟩
      case round =>
       obtain ⟨k,rfl,hk,hh⟩:=hrel;have HH:=Lib.hid hh;clear hh;by_cases hkl:k < T.legs.length
       ·obtain ⟨b1,o1,d1,e1,f1,g1⟩:=HRW.out k (by omega);obtain ⟨b2,o2,d2,e2,f2,g2⟩:=HRW.out (k + 1) (by omega);have q1:=e1 bF oF rfl;have q2:=e2 bF oF rfl;have G1:=Lib.hid g1;have G2:=Lib.hid g2;have i1:(0:Int) <= (k:Int) /\ (k:Int) < (F.length:Int):=by have:=HN.out;omega
        have i2:(0:Int) <= ((k + 1:Nat):Int) /\ ((k + 1:Nat):Int) < (F.length:Int):=by have:=HN.out;omega
        clear e1 e2 g1 g2;go_wp2_with fail
        go_loop [60] (fun i=>∃ a:Nat,i = .int .i64 a /\ a <= p /\ ∀ a',a' < a -> ∀ b,b < p -> cellF F (k + 1) b <= cellF F k a' + brk (leadsF T R) k a' b) (fun i=>p - (intOf i).toNat)
        case atStart=>exact ⟨0,rfl,by omega,fun i hi=>by omega⟩
        case round =>
         obtain ⟨a,rfl,hap,hh⟩:=hrel;have HH2:=Lib.hid hh;clear hh;by_cases hal:a < p
         ·have r1:=G1.out a hal;have v1:=HVAL.out k a (by omega) hal;go_wp2_with fail
          go_loop [71] (fun i=>∃ b:Nat,i = .int .i64 b /\ b <= p /\ ∀ b',b' < b -> cellF F (k + 1) b' <= cellF F k a + brk (leadsF T R) k a b') (fun i=>p - (intOf i).toNat)
          case atStart=>exact ⟨0,rfl,by omega,fun i hi=>by omega⟩
          case round =>
           obtain ⟨b,rfl,hbp,hh⟩:=hrel;have HH3:=Lib.hid hh;clear hh;by_cases hbl:b < p
           ·have r2:=G2.out b hbl;have v2:=HVAL.out (k + 1) b (by omega) hbl;have v3:=brk_bd (leadsF T R) k a b;have hbr:=broken_any D T a1 a2 a3 a4 c1 c2 c3 c4 (leadsF T R) k a b w4 HRD4.out.desk (by omega) (by omega) (by omega) (by omega) (by omega) (by omega);simp only [Int.toNat_natCast] at hbr;have HBR:=Lib.hid (show Calls Tryz.prog 99 #[.pointer (some ⟨D,0,none⟩),.int .i64 k,.int .i64 a,.int .i64 b] w4 (fun e w'=>e = .returned (.int .i64 (brk (leadsF T R) k a b)) /\ w4 = w') from hbr);clear hbr;by_cases hc:cellF F (k + 1) b <= cellF F k a + brk (leadsF T R) k a b
            ·have HCC:=Lib.hid hc;have hgt:decide (cellF F k a + brk (leadsF T R) k a b < cellF F (k + 1) b) = false:=by simp;omega
             clear hc;generalize hy:cellF F (k + 1) b = y at *;generalize hx:cellF F k a = x at *;generalize hz:brk (leadsF T R) k a b = z at *;have HZ:=Lib.hid hz;have HY:=Lib.hid hy;clear hx hy hz;go_wp2_with (go_at_call 99;refine HBR.out.mono ?_;rintro e w' ⟨rfl,rfl⟩)
             go_round
             case rel =>
              refine ⟨b + 1,by go_num,by omega,fun b' hb'=>?_⟩;by_cases e:b' = b
              ·subst e;rw [HY.out,HZ.out];exact HCC.out
              ·exact HH3.out b' (by omega)
             case measure=>simp [intOf];omega
            ·have hgt:decide (cellF F k a + brk (leadsF T R) k a b < cellF F (k + 1) b) = true:=by simp;omega
             have hno:holdsB T (leadsF T R) F = false:=by
              rw [Bool.eq_false_iff,ne_eq,holdsB_iff];intro h;exact hc (h k hkl a (by rw [HPP.out];simpa using hal) b (by rw [HPP.out];simpa using hbl))
             have hE9:provesE T R F = 9:=by rw [HE.out,hno];rfl
             have HE9:=Lib.hid hE9;clear hc hno hE9;generalize hy:cellF F (k + 1) b = y at *;generalize hx:cellF F k a = x at *;generalize hz:brk (leadsF T R) k a b = z at *;clear hx hy hz;go_wp2_with (go_at_call 99;refine HBR.out.mono ?_;rintro e w' ⟨rfl,rfl⟩)
             go_ret2;exact ⟨HA4.out,by unfold provesN;rw [HE9.out];rfl⟩
           ·obtain rfl:b = p:=by omega
            go_wp2_with fail
            go_round
            case rel =>
             refine ⟨a + 1,by go_num,by omega,fun a' ha' b' hb'=>?_⟩;by_cases e:a' = a
             ·subst e;exact HH3.out b' hb'
             ·exact HH2.out a' (by omega) b' hb'
            case measure=>simp [intOf];omega
         ·obtain rfl:a = p:=by omega
          go_wp2_with fail
          go_round
          case rel =>
           refine ⟨k + 1,by go_num,by omega,fun i hi a' ha' b' hb'=>?_⟩;by_cases e:i = k
           ·subst e;exact HH2.out a' ha' b' hb'
           ·exact HH.out i (by omega) a' ha' b' hb'
          case measure=>simp [intOf];omega
       ·obtain rfl:k = T.legs.length:=by omega
        have hyes:holdsB T (leadsF T R) F = true:=holdsB_iff.2 fun i hi a ha b hb=>HH.out i hi a (by rw [HPP.out] at ha;simpa using ha) b (by rw [HPP.out] at hb;simpa using hb)
        have hE0:provesE T R F = 0:=by rw [HE.out,hyes];rfl
        have HE0:=Lib.hid hE0;clear hyes hE0;obtain ⟨b1,o1,d1,e1,f1,g1⟩:=HRW.out T.legs.length (by omega);have q1:=e1 bF oF rfl;have hlast:T.legs.length < F.length:=by have:=HN.out;omega
        have i1:(0:Int) <= (T.legs.length:Int) /\ (T.legs.length:Int) < (F.length:Int):=by omega
        have hmn:=last_ints HF4.out hlast (HROW.out T.legs.length (by omega)) q1 hp1;have HMN:=Lib.hid (min_any _ (F.getD T.legs.length []) d1 w4 hmn (by rw [HROW.out _ (by omega)];omega));rw [HROW.out _ (by omega)] at HMN;obtain ⟨lst,hls⟩:∃ l,F.getD T.legs.length [] = l:=⟨_,rfl⟩;rw [hls] at HMN;have HLS:=Lib.hid hls;clear e1 g1 hmn hls;go_wp2_with (go_at_call 105;refine HMN.out.mono ?_;rintro e w' ⟨rfl,rfl⟩)
        go_ret2;refine ⟨HA4.out,?_⟩;unfold provesN;rw [if_pos HE0.out,HE0.out,HROW.out _ (by omega),HLS.out];rfl
  ·have hb1:((F.length:Int) != (T.legs.length:Int) + 1) = true:=by simp;omega
   have HN:=Lib.hid hn;clear hn;go_enter Tryz.func44,Tryz.ntmps44;go_wp2_with (go_at_call 69;refine HC.out.mono ?_;rintro e w1 ⟨D,cs,rfl,hrd,hx⟩;have HRD:=Lib.hid hrd;have k0:=hrd.at0;have k4:=hrd.at4;have x0:w1.cell? ⟨w.heap.size + 1,0,none⟩ = some (.slice AF F.length cF):=hx.cell 0;clear hrd hx)
   go_ret2;have hE:provesE T R F = 3:=by unfold provesE;rw [if_pos HRE.out,if_neg (by unfold shapeB;rw [decide_eq_false HN.out,Bool.false_and];decide)]
   exact ⟨HRD.out.aft,by unfold provesN;rw [hE];rfl⟩
 ·have hb:(readE T R != 0) = true:=by simpa using hre
  have HC:=Lib.hid (read_bad' (c1:=c1) (c2:=c2) (c3:=c3) (c4:=c4) (cR:=cR) (o:=.cells #[.slice AF F.length cF] 37) hT hR hre);have HRE:=Lib.hid hre;clear hre;go_enter Tryz.func44,Tryz.ntmps44;go_wp2_with (go_at_call 69;refine HC.out.mono ?_;rintro e w' ⟨rfl,ha⟩)
  go_ret2;have hE:provesE T R F = readE T R:=if_neg HRE.out;exact ⟨ha,by unfold provesN;rw [hE,if_neg HRE.out];rfl⟩
end Go.Proofs
end
section
/- Walks: TreatyProved: the region that writes a floor of a start. -/
namespace Go.Proofs
open Go.RowKit
theorem setc' (X:World) (L i:Nat) (v:Value):X.grownBy (X.setCell ⟨L,i,none⟩ v) (some L):=only_setCell (only_refl X (some L)) (p:=⟨L,i,none⟩) (.inl rfl) v
end Go.Proofs
end
section
/- A region that draws its order,by facts that may say which operations are done. -/
namespace Go
structure HeldE (ops:Array Oper) (Fact:(Nat -> Bool) -> Nat -> Value -> World -> Prop) (Wd:(Nat -> Bool) -> World -> Prop) (a0:Act) (done:Nat -> Bool) (a:Act) (w:World):Prop where
 wd:Wd done w
 size:a.tmps.size = a0.tmps.size
 defers:a.defers = a0.defers
 closed:∀ i o,ops[i]? = some o -> done i = true -> ∀ j ∈ Region.preds o,done j = true
 old:∀ s,(∀ i o,ops[i]? = some o -> o.dst = some s -> done i = false) -> a.eval (.tmp s) = a0.eval (.tmp s)
 fact:∀ (i:Nat) (o:Oper) (s:Nat),ops[i]? = some o -> o.dst = some s -> done i = true -> Fact done i (a.eval (.tmp s)) w
section
variable {P:Program} {ops:Array Oper} {Q:Exit -> Act -> World -> Prop} {Fact:(Nat -> Bool) -> Nat -> Value -> World -> Prop} {Wd:(Nat -> Bool) -> World -> Prop} {a0:Act}
theorem HeldE.put {done:Nat -> Bool} {a:Act} {w w':World} {i:Nat} {o:Oper} {v:Value} (h:HeldE ops Fact Wd a0 done a w) (ho:ops[i]? = some o) (hd:done i = false) (hp:∀ j ∈ Region.preds o,done j = true)
  (hdst:∀ (i j:Nat) (oi oj:Oper) (s:Nat),ops[i]? = some oi -> ops[j]? = some oj -> oi.dst = some s -> oj.dst = some s -> i = j) (hin:∀ (i:Nat) (o:Oper) (s:Nat),ops[i]? = some o -> o.dst = some s -> s < a0.tmps.size)
  (hf:Fact (upd done i) i v w') (hw:Wd (upd done i) w') (hk:∀ (j:Nat) (oj:Oper) (s:Nat),ops[j]? = some oj -> oj.dst = some s -> done j = true -> Fact done j (a.eval (.tmp s)) w -> Fact (upd done i) j (a.eval (.tmp s)) w'):HeldE ops Fact Wd a0 (upd done i) (a.put o.dst v) w':=by
 refine ⟨hw,?_,?_,fun k ok hk' hdk j hj=>?_,fun s hs=>?_,fun k ok s hk' hs hdk=>?_⟩
 ·rw [<- h.size];unfold Act.put;split <;> simp
 ·rw [<- h.defers];unfold Act.put;split <;> rfl
 ·unfold upd at hdk ⊢;by_cases e:j = i
  ·rw [if_pos e]
  ·rw [if_neg e];by_cases e2:k = i
   ·subst e2;rw [ho] at hk';cases hk';exact hp j hj
   ·rw [if_neg e2] at hdk;exact h.closed k ok hk' hdk j hj
 ·have hne:∀ d,o.dst = some d -> (Operand.tmp s) ≠ .tmp d:=fun d hd' e=>by
   cases e;have:=hs i o ho hd';simp [upd] at this
  rw [Act.eval_put hne];refine h.old s fun k ok hk' hs'=>?_
  have:=hs k ok hk' hs';unfold upd at this;split at this
  ·cases this
  ·exact this
 ·by_cases e:k = i
  ·subst e;rw [ho] at hk';cases hk';rw [hs,Act.eval_put_same _ _ _ (by rw [h.size];exact hin k o s ho hs)];exact hf
  ·unfold upd at hdk;rw [if_neg e] at hdk
   have hne:∀ d,o.dst = some d -> (Operand.tmp s) ≠ .tmp d:=fun d hd' e2=>by
    cases e2;exact e (hdst k i ok o s hk' ho hs hd')
   rw [Act.eval_put hne];exact hk k ok s hk' hs hdk (h.fact k ok s hk' hs hdk)
theorem wpAny_factsE (hg:∀ (i:Nat) (o:Oper),ops[i]? = some o -> o.guard = none) (hdst:∀ (i j:Nat) (oi oj:Oper) (s:Nat),ops[i]? = some oi -> ops[j]? = some oj -> oi.dst = some s -> oj.dst = some s -> i = j) (hin:∀ (i:Nat) (o:Oper) (s:Nat),ops[i]? = some o -> o.dst = some s -> s < a0.tmps.size)
  (hlt:∀ (i:Nat) (o:Oper),ops[i]? = some o -> ∀ j ∈ Region.preds o,j < i)
  (step:∀ (i:Nat) (o:Oper),ops[i]? = some o -> ∀ (done:Nat -> Bool) (a:Act) (w:World),HeldE ops Fact Wd a0 done a w -> done i = false -> (∀ j ∈ Region.preds o,done j = true) -> ∀ K:Act -> World -> Prop,
   (∀ (v:Value) (w':World),Fact (upd done i) i v w' -> Wd (upd done i) w' -> (∀ (j:Nat) (oj:Oper) (s:Nat),ops[j]? = some oj -> oj.dst = some s -> done j = true -> Fact done j (a.eval (.tmp s)) w -> Fact (upd done i) j (a.eval (.tmp s)) w') -> K (a.put o.dst v) w') -> Oper.wp P o a w K Q)
  (fin:∀ (done:Nat -> Bool) (a:Act) (w:World),(∀ i,i < ops.size -> done i = true) -> HeldE ops Fact Wd a0 done a w -> Q .normal a w) :
  ∀ (fuel:Nat) (listed:Array Bool) (a:Act) (w:World),listed.size = ops.size -> HeldE ops Fact Wd a0 (dn listed) a w -> (unl ops (dn listed)).length <= fuel -> wpAny P .any ops Q fuel listed a w
 | 0,listed,a,w,hs,h,hf=>by
  have hd:∀ i,i < ops.size -> dn listed i = true:=fun i hi=>by
   cases hd:dn listed i with
   | true=>rfl
   | false =>
    have:i ∈ unl ops (dn listed):=List.mem_filter.2 ⟨List.mem_range.2 hi,by simp [hd]⟩;have hz:unl ops (dn listed) = []:=List.eq_nil_of_length_eq_zero (by omega);rw [hz] at this;cases this
  refine ⟨?_,fin _ a w hd h⟩
  cases hr:Region.ready .any ops listed with
  | nil=>rfl
  | cons i r =>
   obtain ⟨o,ho,h1,_⟩:=mem_ready' rfl hs (show i ∈ Region.ready .any ops listed by rw [hr];simp);rw [hd i (Array.getElem?_eq_some_iff.1 ho).1] at h1;cases h1
 | fuel + 1,listed,a,w,hs,h,hf=>by
  refine ⟨fun hr=>fin _ a w (all_done hs hlt hr) h,fun i hi=>?_⟩;obtain ⟨o,ho,h1,h2⟩:=mem_ready' rfl hs hi;have hio:=(Array.getElem?_eq_some_iff.1 ho).1;unfold wpOp;simp only [ho];have hw:Region.wanted o (yielded ops a.tmps) = true:=by simp [Region.wanted,hg i o ho]
  rw [if_pos hw];refine .inl (step i o ho _ a w h h1 h2 _ fun v w' hf' hw' hk=>?_);refine wpAny_factsE hg hdst hin hlt step fin fuel _ _ _ (by simpa using hs) ?_ ?_
  ·rw [dn_set (by omega)];exact h.put ho h1 h2 hdst hin hf' hw' hk
  ·rw [dn_set (by omega)];have:=unl_lt (ops:=ops) hio h1;omega
theorem wp_region_factsE {id:Nat} {xs:List Oper} {w:World} (hm:P.follows .mixedOrders = true) (n:Nat) (hn:a0.tmps.size = n) (hB:factsB xs n = true)
  (Fact:(Nat -> Bool) -> Nat -> Value -> World -> Prop) (Wd:(Nat -> Bool) -> World -> Prop) (h0:Wd (fun _=>false) w.drew)
  (step:∀ (i:Nat) (o:Oper),xs[i]? = some o -> ∀ (done:Nat -> Bool) (a:Act) (w:World),HeldE xs.toArray Fact Wd a0 done a w -> done i = false -> (∀ j ∈ Region.preds o,done j = true) -> ∀ K:Act -> World -> Prop,
   (∀ (v:Value) (w':World),Fact (upd done i) i v w' -> Wd (upd done i) w' -> (∀ (j:Nat) (oj:Oper) (s:Nat),xs[j]? = some oj -> oj.dst = some s -> done j = true -> Fact done j (a.eval (.tmp s)) w -> Fact (upd done i) j (a.eval (.tmp s)) w') -> K (a.put o.dst v) w') -> Oper.wp P o a w K Q)
  (fin:∀ (done:Nat -> Bool) (a:Act) (w:World),(∀ i,i < xs.length -> done i = true) -> HeldE xs.toArray Fact Wd a0 done a w -> Q .normal a w):(Code.region id xs.toArray true).wp P Q a0 w:=by
 unfold factsB at hB;rw [Bool.and_eq_true,Bool.and_eq_true,Bool.and_eq_true] at hB;obtain ⟨⟨⟨h1,h2⟩,h3⟩,h4⟩:=hB;refine wp_region_any hm ?_
 have e0:dn (Array.replicate xs.toArray.size false) = fun _=>false:=by
  funext i
  unfold dn;rw [Array.getD_eq_getD_getElem?,Array.getElem?_replicate];split <;> rfl
 refine wpAny_factsE (Fact:=Fact) (Wd:=Wd) (a0:=a0) (fun i o ho=>?_) (fun i j oi oj s hi hj=>nodup_dst (of_decide_eq_true h2) i j oi oj s (by simpa using hi) (by simpa using hj)) (fun i o s ho hs=>?_) (fun i o ho j hj=>?_)
  (fun i o ho done a w h hd hp K hK=>step i o (by simpa using ho) done a w h hd hp K (fun v w' h1 h2 h3=>hK v w' h1 h2 (fun j oj s hj=>h3 j oj s (by simpa using hj)))) (fun done a w hd=>fin done a w (by simpa using hd)) _ _ _ _ (by simp) ?_ ?_
 ·have:=List.all_eq_true.1 h1 o (List.mem_of_getElem? (by simpa using ho));simpa using this
 ·have:=List.all_eq_true.1 h3 o (List.mem_of_getElem? (by simpa using ho));rw [hs] at this;rw [hn];simpa using this
 ·have ho':xs[i]? = some o:=by simpa using ho
  have:=List.all_eq_true.1 h4 i (List.mem_range.2 (List.getElem?_eq_some_iff.1 ho').1);rw [ho'] at this;have:=List.all_eq_true.1 this j hj;simpa using this
 ·rw [e0];exact ⟨h0,rfl,rfl,(fun i o _ h=>by cases h),(fun s _=>rfl),(fun i o s _ _ h=>by cases h)⟩
 ·have:(unl xs.toArray (dn (Array.replicate xs.toArray.size false))).length <= (List.range xs.toArray.size).length:=List.length_filter_le _ _;simpa using this
end
end Go
end
section
/- Walks: whether a line can begin;Enough. -/
namespace Go.Proofs
open Go.RowKit
theorem containsFunc_int {α:Type} (R:World -> α -> List Value -> Prop) (K:FuncId) (cap:List Value) (p:α -> Bool) (A:Option Addr) (l:List α) (c:Nat) (w:World) (hA:RowsP w A 1 R l)
  (hK:∀ args w,(callFunc K args).run Tryz.prog w = .ok (.enter K args) w)
  (hp:∀ x ∈ l,∀ v0,R w x [v0] -> Asks Tryz.prog K cap w v0 (p x)) :
  Calls Tryz.prog 51 #[.slice A l.length c,.func (.func K) #[] cap.toArray] w fun e w'=>e = .returned (.bool (l.any p)) /\ Aft w w':=by
 have HC:=Lib.hid (indexFunc_int R K cap p A l c w hA hK hp);go_enter Tryz.func51,Tryz.ntmps51;go_wp2_with (go_at_call 111;refine HC.out.mono ?_;rintro e w' ⟨hr,ha⟩;obtain ⟨n,rfl,hn⟩:=hr.sign;clear hr;have HN:=Lib.hid hn;clear hn)
 go_ret;exact ⟨ret_bool (by have:=HN.out;cases h:l.any p <;> simp_all),ha⟩
theorem runs_95 (args:Array Value) (w:World):(callFunc 128 args).run Tryz.prog w = .ok (.enter 128 args) w:=by simp [go_sem]
theorem runs_97 (args:Array Value) (w:World):(callFunc 52 args).run Tryz.prog w = .ok (.enter 52 args) w:=by simp [go_sem]
theorem rule95_any (B rb:Nat) (cs:Array Value) (g:Nat -> Nat -> Bool) (a:Int) (w:World) (hb:Blk w B 110 cs) (hg:BGrid cs g) (hr:w.cell? ⟨rb,0,none⟩ = some (.func (.func 110) #[] #[.pointer (some ⟨B,0,none⟩)])) (ha:0 <= a) (ha':a < 12) :
  Calls Tryz.prog 128 #[.int .i64 a,.pointer (some ⟨rb,0,none⟩)] w fun e w'=>e = .returned (.bool (g 0 a.toNat)) /\ w = w':=by
 have HA:=Lib.hid (ahead1_any B cs g 0 a w hb hg (by decide) (by decide) ha ha');go_enter Tryz.func128,Tryz.ntmps128;go_wp2_with (go_at_call 110;refine HA.out.mono ?_;rintro e w' ⟨rfl,rfl⟩)
 go_ret;exact ⟨rfl,rfl⟩
theorem rule97_any (B rb:Nat) (cs:Array Value) (g:Nat -> Nat -> Bool) (a:Int) (w:World) (hb:Blk w B 110 cs) (hg:BGrid cs g) (hr:w.cell? ⟨rb,0,none⟩ = some (.func (.func 110) #[] #[.pointer (some ⟨B,0,none⟩)])) (ha:0 <= a) (ha':a < 12) :
  Calls Tryz.prog 52 #[.int .i64 a,.pointer (some ⟨rb,0,none⟩)] w fun e w'=>e = .returned (.bool (g 0 a.toNat)) /\ w = w':=by
 have HA:=Lib.hid (ahead1_any B cs g 0 a w hb hg (by decide) (by decide) ha ha');go_enter Tryz.func52,Tryz.ntmps52;go_wp2_with (go_at_call 110;refine HA.out.mono ?_;rintro e w' ⟨rfl,rfl⟩)
 go_ret;exact ⟨rfl,rfl⟩
def opens (T:Treaty) (f:Nat -> Nat -> Nat -> Bool):Bool:=T.starts.any fun s=>ahd T f T.legs.length 0 s.toNat
theorem opens_any (K:Nat) (hK:K = 128 \/ K = 52) (T:Treaty) (f:Nat -> Nat -> Nat -> Bool) (a3:Option Addr) (c3:Nat) (B rb:Nat) (cs:Array Value) (g:Nat -> Nat -> Bool) (w:World) (hs:Ints w a3 T.starts) (hb:Blk w B 110 cs) (hg:BGrid cs g) (hrl:rb < w.heap.size) (hr:w.cell? ⟨rb,0,none⟩ = some (.func (.func 110) #[] #[.pointer (some ⟨B,0,none⟩)]))
  (hst:∀ s ∈ T.starts,0 <= s /\ s < T.places) (hp:T.places <= 12) (hgf:∀ j,j < T.places.toNat -> g 0 j = ahd T f T.legs.length 0 j) :
  Calls Tryz.prog 51 #[.slice a3 T.starts.length c3,.func (.func K) #[] #[.pointer (some ⟨rb,0,none⟩)]] w fun e w'=>e = .returned (.bool (opens T f)) /\ Aft w w':=by
 have key:∀ x ∈ T.starts,∀ v0,IntR w x [v0] -> Asks Tryz.prog K [.pointer (some ⟨rb,0,none⟩)] w v0 (ahd T f T.legs.length 0 x.toNat):=by
  intro x hx v0 hv u;cases hv;have:=hst x hx;rw [<- hgf x.toNat (by omega)];have hr':(w.lat u).cell? ⟨rb,0,none⟩ = some (.func (.func 110) #[] #[.pointer (some ⟨B,0,none⟩)]):=(World.lat_cell _ _ _ _ hrl).trans hr;rcases hK with rfl | rfl
  ·exact (rule95_any B rb cs g x (w.lat u) (hb.lat u) hg hr' (by omega) (by omega)).mono fun _ _ ⟨h1,h2⟩=>⟨h1,h2 ▸ Aft.refl _⟩
  ·exact (rule97_any B rb cs g x (w.lat u) (hb.lat u) hg hr' (by omega) (by omega)).mono fun _ _ ⟨h1,h2⟩=>⟨h1,h2 ▸ Aft.refl _⟩
 rcases hK with rfl | rfl
 ·exact containsFunc_int IntR 128 [.pointer (some ⟨rb,0,none⟩)] _ a3 T.starts c3 w hs runs_95 key
 ·exact containsFunc_int IntR 52 [.pointer (some ⟨rb,0,none⟩)] _ a3 T.starts c3 w hs runs_97 key
end Go.Proofs
end
section
/- Walks: Breaks. -/
namespace Go.Proofs
open Go.RowKit
def breaksE (T:Treaty) (R l:List Int):Int:=if readE T R = 0 then (if linedB T l then (if hasB T.starts (l.getD 0 0) then 0 else 9) else 2) else readE T R
def brkTo (f:Nat -> Nat -> Nat -> Bool) (l:List Int) (k:Nat):List Int:=((List.range k).filter fun i=>!f i (l.getD i 0).toNat (l.getD (i + 1) 0).toNat).map (fun i:Nat=>(i:Int))
theorem brkTo_succ (f:Nat -> Nat -> Nat -> Bool) (l:List Int) (k:Nat):brkTo f l (k + 1) = brkTo f l k ++ (if f k (l.getD k 0).toNat (l.getD (k + 1) 0).toNat then [] else [(k:Int)]):=by
 unfold brkTo;rw [List.range_succ,List.filter_append,List.map_append]
 congr 1
 cases h:f k (l.getD k 0).toNat (l.getD (k + 1) 0).toNat <;> (simp only [List.filter_cons,List.filter_nil,h];rfl)
theorem brkTo_le (f:Nat -> Nat -> Nat -> Bool) (l:List Int) (k:Nat):(brkTo f l k).length <= k:=by
 unfold brkTo;rw [List.length_map];have:=List.length_filter_le (fun i=>!f i (l.getD i 0).toNat (l.getD (i + 1) 0).toNat) (List.range k);simpa using this
def BreaksR (w:World) (T:Treaty) (R l:List Int) (e:Ending) (w':World):Prop :=
 Aft w w' /\ ((breaksE T R l ≠ 0 /\ e = .returned (.tuple #[.slice none 0 0,.int .i64 (breaksE T R l)])) \/ (breaksE T R l = 0 /\ ∃ v,e = .returned (.tuple #[v,.int .i64 0]) /\ w'.ownsRow w.heap.size 3 1 v (brkTo (leadsF T R) l T.legs.length).length ((brkTo (leadsF T R) l T.legs.length).map (Value.int .i64))))
theorem int_bool {l:List Int} {p:Int} (h:∀ x ∈ l,0 <= x /\ x < p) {k:Nat} (hk:k < l.length):∃ n:Nat,l[k] = n /\ (n:Int) < p /\ (l.getD k 0).toNat = n:=by
 have:=h _ (List.getElem_mem hk);obtain ⟨n,hn⟩:=Int.eq_ofNat_of_zero_le this.1;refine ⟨n,hn,by omega,?_⟩;rw [List.getD_eq_getElem?_getD,List.getElem?_eq_getElem hk,Option.getD_some,hn];simp
set_option maxRecDepth 100000 in
set_option maxHeartbeats 2000000 in
theorem breaks_any (w:World) (T:Treaty) (a1 a2 a3 a4:Option Addr) (c1 c2 c3 c4:Nat) (R:List Int) (AR:Option Addr) (cR:Nat) (l:List Int) (Al:Option Addr) (cl:Nat) (hT:TRep w T a1 a2 a3 a4) (hR:Ints w AR R) (hA:Ints w Al l) :
  Calls Tryz.prog 24 #[.agg #[.int .i64 T.places,.slice a1 T.ways.length c1,.slice a2 T.words.length c2,.slice a3 T.starts.length c3,.slice a4 T.legs.length c4],.slice AR R.length cR,.slice Al l.length cl] w (BreaksR w T R l):=by
 have hal:=hA.len;by_cases hre:readE T R = 0
 ·have HC:=Lib.hid (read_good (c1:=c1) (c2:=c2) (c3:=c3) (c4:=c4) (cR:=cR) hT hR hre);have ok:=checkE_ok (readE_zero.1 hre).1;have hl:=ok.nlegs;obtain ⟨p,hpp⟩:=Int.eq_ofNat_of_zero_le (show 0 <= T.places by have:=ok.p1;omega);have hp12:p <= 12:=by have:=ok.p2;omega
  have HPP:=Lib.hid hpp;clear hpp;have HRE:=Lib.hid hre;have HLI:=Lib.hid (fun (W:World) (h:Aft w W)=>lined_any W T a1 a2 a3 a4 c1 c2 c3 c4 l Al cl (hA.aft h) ok.p1 ok.p2 ok.nlegs);clear hre ok;cases hli:linedB T l
  ·have HL:=Lib.hid hli;clear hli;go_enter Tryz.func24,Tryz.ntmps24
   go_wp2_with (first
    | (go_at_call 69;refine HC.out.mono ?_;rintro e w1 ⟨D,cs,rfl,hrd⟩;have HRD:=Lib.hid hrd;have k0:=hrd.at0;have k1:=hrd.at1;have k2:=hrd.at2;have k3:=hrd.at3;have k4:=hrd.at4;clear hrd)
    | (go_at_call 68;refine (HLI.out _ HRD.out.aft).mono ?_;rintro e w2 ⟨rfl,ha⟩;rw [HL.out]))
   go_ret2;have hE:breaksE T R l = 2:=by unfold breaksE;rw [if_pos HRE.out,HL.out];rfl
   exact ⟨HRD.out.aft.trans ha,.inl ⟨by rw [hE];decide,by rw [hE];rfl⟩⟩
  ·have hL:=linedB_iff.1 hli;have hlen:=hL.1;have HLL:=Lib.hid hL.2;have HL:=Lib.hid hli;have HLN:=Lib.hid hlen;clear hli hL;have hpos:0 < l.length:=by omega
   obtain ⟨n0,hn0,hn0p,hn0d⟩:=int_bool HLL.out hpos;have HN0:=Lib.hid (show l.getD 0 0 = n0 by rw [List.getD_eq_getElem?_getD,List.getElem?_eq_getElem hpos,Option.getD_some,hn0]);have h0l:(0:Int) < (l.length:Int):=by omega
   clear hn0d hlen;cases hst:hasB T.starts n0
   ·have HS:=Lib.hid hst;clear hst;go_enter Tryz.func24,Tryz.ntmps24
    go_wp2_with (first
     | (go_at_call 69;refine HC.out.mono ?_;rintro e w1 ⟨D,cs,rfl,hrd⟩;have HRD:=Lib.hid hrd;have k0:=hrd.at0;have k1:=hrd.at1;have k2:=hrd.at2;have k3:=hrd.at3;have k4:=hrd.at4;clear hrd)
     | (go_at_call 68;refine (HLI.out _ HRD.out.aft).mono ?_;rintro e w2 ⟨rfl,ha⟩;rw [HL.out]))
    obtain ⟨bl,ol,rfl,hbl,hcl⟩:=(hA.aft (HRD.out.aft.trans ha)).at hpos;have cL:w2.drew.cell? ⟨bl,ol,none⟩ = some (.int .i64 n0):=by have:=hcl 0 hpos;rw [hn0] at this;exact this
    have k32:w2.drew.cell? ⟨w.heap.size,3,none⟩ = some (.slice a3 T.starts.length c3):=(HRD.out.later ha).at3;have HCT:=Lib.hid (show Calls Tryz.prog 60 #[.slice a3 T.starts.length c3,.int .i64 n0] w2.drew (fun e w'=>e = .returned (.bool false) /\ w' = w2.drew) from (contains_any a3 T.starts c3 n0 w2.drew ((hT.starts.aft (HRD.out.aft.trans ha)).aft (Aft.drew _))).mono fun _ _ ⟨h1,h2⟩=>⟨by rw [h1,HS.out],h2.symm⟩);clear hcl k0 k1 k2 k3 k4 hn0;refine wp_region_tail 7 (by kernel_rfl) (by kernel_rfl) ?_;simp only [List.take_succ_cons,List.take_zero,List.drop_succ_cons,List.drop_zero];repeat (first | go_big_quiet_skip | (go_big_quiet_want;go_big_quiet_op;go_big_quiet_on))
    (go_big_quiet_want;go_big_quiet_op;refine ⟨_,HCT.out,?_⟩;go_big_quiet_on);repeat (first | go_big_quiet_skip | (go_big_quiet_want;go_big_quiet_op;go_big_quiet_on))
    refine wpQuiet_nil ?_;go_wp2_with fail
    go_ret2;have hE:breaksE T R l = 9:=by unfold breaksE;rw [if_pos HRE.out,HL.out,HN0.out,HS.out];rfl
    exact ⟨(HRD.out.aft.trans ha).then_drew,.inl ⟨by rw [hE];decide,by rw [hE];rfl⟩⟩
   ·have HS:=Lib.hid hst;clear hst;go_enter Tryz.func24,Tryz.ntmps24
    go_wp2_with (first
     | (go_at_call 69;refine HC.out.mono ?_;rintro e w1 ⟨D,cs,rfl,hrd⟩;have HRD:=Lib.hid hrd;have k0:=hrd.at0;have k1:=hrd.at1;have k2:=hrd.at2;have k3:=hrd.at3;have k4:=hrd.at4;clear hrd)
     | (go_at_call 68;refine (HLI.out _ HRD.out.aft).mono ?_;rintro e w2 ⟨rfl,ha⟩;rw [HL.out]))
    obtain ⟨bl,ol,rfl,hbl,hcl⟩:=(hA.aft (HRD.out.aft.trans ha)).at hpos;have cL:w2.drew.cell? ⟨bl,ol,none⟩ = some (.int .i64 n0):=by have:=hcl 0 hpos;rw [hn0] at this;exact this
    have k32:w2.drew.cell? ⟨w.heap.size,3,none⟩ = some (.slice a3 T.starts.length c3):=(HRD.out.later ha).at3;have k42:w2.drew.cell? ⟨w.heap.size,4,none⟩ = some (.slice a4 T.legs.length c4):=(HRD.out.later ha).at4;have HCT:=Lib.hid (show Calls Tryz.prog 60 #[.slice a3 T.starts.length c3,.int .i64 n0] w2.drew (fun e w'=>e = .returned (.bool true) /\ w' = w2.drew) from (contains_any a3 T.starts c3 n0 w2.drew ((hT.starts.aft (HRD.out.aft.trans ha)).aft (Aft.drew _))).mono fun _ _ ⟨h1,h2⟩=>⟨by rw [h1,HS.out],h2.symm⟩);clear hcl k0 k1 k2 k3 k4 hn0;refine wp_region_tail 7 (by kernel_rfl) (by kernel_rfl) ?_;simp only [List.take_succ_cons,List.take_zero,List.drop_succ_cons,List.drop_zero];repeat (first | go_big_quiet_skip | (go_big_quiet_want;go_big_quiet_op;go_big_quiet_on))
    (go_big_quiet_want;go_big_quiet_op;refine ⟨_,HCT.out,?_⟩;go_big_quiet_on);repeat (first | go_big_quiet_skip | (go_big_quiet_want;go_big_quiet_op;go_big_quiet_on))
    refine wpQuiet_nil ?_;go_wp2_with fail
    have hrd3:=HRD.out.later ha.then_drew;have hE:breaksE T R l = 0:=by unfold breaksE;rw [if_pos HRE.out,HL.out,HN0.out,HS.out];rfl
    have HE:=Lib.hid hE;have HRD3:=Lib.hid hrd3;clear hE hrd3 HRD HC HLI cL k32 k42 HCT ha;generalize w2.drew = w3 at *;go_loopw [11,41] (fun v i wr=>∃ k:Nat,i = .int .i64 k /\ k <= T.legs.length /\ Aft w3 wr /\ wr.ownsRow w3.heap.size 3 1 v (brkTo (leadsF T R) l k).length ((brkTo (leadsF T R) l k).map (Value.int .i64))) (fun _ i _=>T.legs.length - (intOf i).toNat)
    case atStart=>exact ⟨0,rfl,by omega,Aft.refl _,World.ownsRow_nil _ _ 3 1⟩
    case round =>
     obtain ⟨k,rfl,hk,hw,hown⟩:=hrel;have HO:=Lib.hid hown;clear hown;by_cases hkl:k < T.legs.length
     ·have hk1:k < l.length:=by have:=HLN.out;omega
      have hk2:k + 1 < l.length:=by have:=HLN.out;omega
      obtain ⟨x,hx,hxp,hxd⟩:=int_bool HLL.out hk1;obtain ⟨y,hy,hyp,hyd⟩:=int_bool HLL.out hk2;have hsu:=brkTo_succ (leadsF T R) l k;rw [hxd,hyd] at hsu;have HSU:=Lib.hid hsu;have hle:=brkTo_le (leadsF T R) l k;have hai:=(hA.aft (HRD3.out.aft.trans hw)).aft (Aft.drew wr);obtain ⟨b',o',e,_,hcl⟩:=hai.at hk1;cases e;have cx:wr.drew.cell? ⟨bl,ol + k,none⟩ = some (.int .i64 x):=by have:=hcl k hk1;rwa [hx] at this
      have cy:wr.drew.cell? ⟨bl,ol + (k + 1),none⟩ = some (.int .i64 y):=by have:=hcl (k + 1) hk2;rwa [hy] at this
      have hdk:=(HRD3.out.later hw.then_drew).desk;have hca:=can_any D T a1 a2 a3 a4 c1 c2 c3 c4 (leadsF T R) k x y wr.drew hdk (by omega) (by omega) (by omega) (by rw [HPP.out] at hxp;omega) (by omega) (by rw [HPP.out] at hyp;omega);simp only [Int.toNat_natCast] at hca;have i1:(0:Int) <= (k:Int) /\ (k:Int) < (l.length:Int):=by omega
      have i2:(0:Int) <= ((k + 1:Nat):Int) /\ ((k + 1:Nat):Int) < (l.length:Int):=by omega
      have w1':IntKind.i64.wrap ((k:Int) + 1) = ((k + 1:Nat):Int):=by rw [IntWalk.i64_in _ (by omega)];omega
      clear hsu hx hy hxd hyd hcl hai hdk hxp hyp;cases hf:leadsF T R k x y
      all_goals
       rw [hf] at hca HSU;have HCA:=Lib.hid (hca.mono (R':=fun e w''=>e = .returned _ /\ w'' = wr.drew) fun _ _ ⟨h1,h2⟩=>⟨h1,h2.symm⟩);clear hf hca;go_wp2_with fail
       refine wp_region_tail 12 (by kernel_rfl) (by kernel_rfl) ?_;simp only [List.take_succ_cons,List.take_zero,List.drop_succ_cons,List.drop_zero];repeat (first | go_big_quiet_skip | (go_big_quiet_want;go_big_quiet_op;go_big_quiet_on))
       (go_big_quiet_want;go_big_quiet_op;refine ⟨_,HCA.out,?_⟩;go_big_quiet_on);repeat (first | go_big_quiet_skip | (go_big_quiet_want;go_big_quiet_op;go_big_quiet_on))
       refine wpQuiet_nil ?_;clear w1'
      ·have F1:w3.heap.size <= ((wr.alloc (.cells #[.int .i64 k] 3)).drew).heap.size:=((hw.then_alloc _).then_drew).size;have F2:((wr.alloc (.cells #[.int .i64 k] 3)).drew).cell? ⟨wr.heap.size,0,none⟩ = some (.int .i64 k):=by simp
       go_wp2_with (at_builtin;refine wpList_push rfl _ _ rfl (own_aft HO.out ((Aft.alloc _ _).then_drew)) F1 rfl rfl F2 (by omega) ?_;intro v' w5 hown5 hg5)
       have hlt:∀ g,u11.ownBlock = some g -> w3.heap.size <= g:=fun g hg=>(HO.out.lt g hg).1
       refine ⟨⟨k + 1,by go_num,by omega,(((hw.then_alloc _).then_drew).grown hg5 hlt),?_⟩,by simp [intOf];omega⟩;rw [HSU.out];exact hown5
      ·go_wp2_with fail
       refine ⟨⟨k + 1,by go_num,by omega,hw.then_drew,?_⟩,by simp [intOf];omega⟩;rw [HSU.out];simpa using own_aft HO.out (Aft.drew _)
     ·obtain rfl:k = T.legs.length:=by omega
      go_wp2_with fail
      go_ret2;exact ⟨HRD3.out.aft.trans hw,.inr ⟨HE.out,_,rfl,World.ownsRow.mono HO.out HRD3.out.aft.size⟩⟩
 ·have hb:(readE T R != 0) = true:=by simpa using hre
  have HC:=Lib.hid (read_bad (c1:=c1) (c2:=c2) (c3:=c3) (c4:=c4) (cR:=cR) hT hR hre);have HRE:=Lib.hid hre;clear hre;go_enter Tryz.func24,Tryz.ntmps24;go_wp2_with (go_at_call 69;refine HC.out.mono ?_;rintro e w' ⟨rfl,ha⟩)
  go_ret2;have hE:breaksE T R l = readE T R:=if_neg HRE.out;exact ⟨ha,.inl ⟨by rw [hE];exact HRE.out,by rw [hE];rfl⟩⟩
end Go.Proofs
end
section
/- Plain: the readings of a treaty,in their order. -/
namespace Go.Proofs
def prodN:List Nat -> Nat
 | []=>1
 | n :: ns=>n * prodN ns
def dig:List Nat -> Nat -> List Int
 | [],_=>[]
 | _ :: ns,k=>((k / prodN ns:Nat):Int) :: dig ns (k % prodN ns)
def inc:List Nat -> List Int -> Option (List Int)
 | n :: ns,d :: ds=>match inc ns ds with
  | some ds'=>some (d :: ds')
  | none=>if d = (n:Int) - 1 then none else some ((d + 1) :: ds.map fun _=>0)
 | _,_=>none
theorem prodN_pos:∀ {ns:List Nat},(∀ n ∈ ns,1 <= n) -> 1 <= prodN ns
 | [],_=>Nat.le_refl _
 | n :: ns,h=>Nat.mul_pos (h n (by simp)) (prodN_pos fun m hm=>h m (by simp [hm]))
theorem dig_len:∀ (ns:List Nat) (k:Nat),(dig ns k).length = ns.length
 | [],_=>rfl
 | _ :: ns,k=>by simp [dig,dig_len ns]
theorem dig_zero:∀ (ns:List Nat),dig ns 0 = ns.map fun _=>0
 | []=>rfl
 | _ :: ns=>by simp [dig,dig_zero ns]
theorem map_zero_len {α β:Type}:∀ (l:List α) (l':List β),l.length = l'.length -> (l.map fun _=>(0:Int)) = l'.map fun _=>0
 | [],[],_=>rfl
 | _ :: l,_ :: l',h=>by simp at h ⊢;have:=map_zero_len l l' h;simpa using this
theorem inc_dig:∀ (ns:List Nat) (k:Nat),(∀ n ∈ ns,1 <= n) -> k < prodN ns -> inc ns (dig ns k) = if k + 1 < prodN ns then some (dig ns (k + 1)) else none
 | [],k,_,hk=>by
  have:k = 0:=by unfold prodN at hk;omega
  subst this;rfl
 | n :: ns,k,h,hk=>by
  have hp:=prodN_pos (ns:=ns) fun m hm=>h m (by simp [hm])
  have ih:=inc_dig ns (k % prodN ns) (fun m hm=>h m (by simp [hm])) (Nat.mod_lt _ hp);have hk':k < n * prodN ns:=hk;have hq:k / prodN ns < n:=Nat.div_lt_of_lt_mul (by rwa [Nat.mul_comm] at hk');have hdm:=Nat.div_add_mod k (prodN ns);have hml:=Nat.mod_lt k hp
  show (match inc ns (dig ns (k % prodN ns)) with
   | some ds'=>some (((k / prodN ns:Nat):Int) :: ds')
   | none=>if ((k / prodN ns:Nat):Int) = (n:Int) - 1 then none else some ((((k / prodN ns:Nat):Int) + 1) :: (dig ns (k % prodN ns)).map fun _=>0)) = if k + 1 < n * prodN ns then some (((((k + 1) / prodN ns:Nat):Int)) :: dig ns ((k + 1) % prodN ns)) else none
  rw [ih];generalize hQ:k / prodN ns = q at *;generalize hR:k % prodN ns = r at *;generalize hP:prodN ns = P at *;have hmul:(q + 1) * P <= n * P:=Nat.mul_le_mul_right _ hq;have hqp:(q + 1) * P = P * q + P:=by rw [Nat.add_mul,Nat.mul_comm];omega
  by_cases e:r + 1 < P
  ·rw [if_pos e]
   have e1:(k + 1) / P = q:=by
    rw [<- hdm,Nat.add_assoc,Nat.mul_add_div hp,Nat.div_eq_of_lt e];rfl
   have e2:(k + 1) % P = r + 1:=by
    rw [<- hdm,Nat.add_assoc,Nat.mul_add_mod,Nat.mod_eq_of_lt e]
   have h1:k + 1 < n * P:=by omega
   rw [if_pos h1,e1,e2]
  ·rw [if_neg e];have er:r + 1 = P:=by omega
   have ek:k + 1 = P * (q + 1):=by rw [Nat.mul_add];omega
   by_cases eq:q + 1 = n
   ·have h1:¬ k + 1 < n * P:=by rw [ek,<- eq,Nat.mul_comm];omega
    rw [if_neg h1];show (if (q:Int) = (n:Int) - 1 then none else _) = none;rw [if_pos (by omega)]
   ·have h2:(q + 1 + 1) * P <= n * P:=Nat.mul_le_mul_right _ (by omega);have h3:(q + 1 + 1) * P = P * (q + 1) + P:=by rw [Nat.add_mul,Nat.mul_comm];omega
    have h4:k + 1 < n * P:=by omega
    rw [if_pos h4];show (if (q:Int) = (n:Int) - 1 then none else _) = _;rw [if_neg (by omega),ek,Nat.mul_div_cancel_left _ hp,Nat.mul_mod_right,dig_zero,map_zero_len (dig ns r) ns (dig_len _ _)];rfl
theorem inc_none_step {ns:List Nat} {ds:List Int} {i:Nat} (hn:i < ns.length) (hd:i < ds.length) (h:inc (ns.drop (i + 1)) (ds.drop (i + 1)) = none) (e:ds[i] = (ns[i]:Int) - 1):inc (ns.drop i) (ds.drop i) = none:=by
 rw [List.drop_eq_getElem_cons hn,List.drop_eq_getElem_cons hd];unfold inc;rw [h];simp [e]
theorem inc_some_step {ns:List Nat} {ds:List Int} {i:Nat} (hn:i < ns.length) (hd:i < ds.length) (h:inc (ns.drop (i + 1)) (ds.drop (i + 1)) = none) (e:ds[i] ≠ (ns[i]:Int) - 1):inc (ns.drop i) (ds.drop i) = some ((ds[i] + 1) :: (ds.drop (i + 1)).map fun _=>0):=by
 rw [List.drop_eq_getElem_cons hn,List.drop_eq_getElem_cons hd];unfold inc;rw [h];simp [e]
theorem inc_front {x:List Int}:∀ {ns:List Nat} {ds:List Int} {i:Nat},i <= ns.length -> i <= ds.length -> inc (ns.drop i) (ds.drop i) = some x -> inc ns ds = some (ds.take i ++ x)
 | ns,ds,0,_,_,h=>by simpa using h
 | [],_,i + 1,h,_,_=>by simp at h
 | _ :: _,[],i + 1,_,h,_=>by simp at h
 | n :: ns,d :: ds,i + 1,h1,h2,h=>by
  have:=inc_front (ns:=ns) (ds:=ds) (i:=i) (by simpa using h1) (by simpa using h2) (by simpa using h);unfold inc;rw [this]
  simp
def lensOf (T:Treaty):List Nat:=T.words.map List.length
def readingsL (T:Treaty):List (List Int):=(List.range (prodN (lensOf T))).map (dig (lensOf T))
theorem readingsL_len (T:Treaty):(readingsL T).length = prodN (lensOf T):=by simp [readingsL]
theorem readingsL_get (T:Treaty) {k:Nat} (h:k < (readingsL T).length):(readingsL T)[k] = dig (lensOf T) k:=by simp [readingsL]
theorem foldl_prod (l:List (List Mean)) (n:Nat):l.foldl (fun n w=>n * w.length) n = n * prodN (l.map List.length):=by
 induction l generalizing n with
 | nil=>simp [prodN]
 | cons w l ih=>rw [List.foldl_cons,ih,List.map_cons,prodN,Nat.mul_assoc]
theorem prodLen_eq (T:Treaty):prodLen T.words = prodN (lensOf T):=by unfold prodLen lensOf;rw [foldl_prod,Nat.one_mul]
def DigOk:List Nat -> List Int -> Prop
 | [],[]=>True
 | n :: ns,d :: ds=>0 <= d /\ d < n /\ DigOk ns ds
 | _,_=>False
theorem dig_ok:∀ (ns:List Nat) (k:Nat),(∀ n ∈ ns,1 <= n) -> k < prodN ns -> DigOk ns (dig ns k)
 | [],_,_,_=>trivial
 | n :: ns,k,h,hk=>by
  have hp:=prodN_pos (ns:=ns) fun m hm=>h m (by simp [hm])
  have hk':k < n * prodN ns:=hk;refine ⟨Int.natCast_nonneg _,Int.ofNat_lt.2 (Nat.div_lt_of_lt_mul (by rwa [Nat.mul_comm] at hk')),dig_ok ns _ (fun m hm=>h m (by simp [hm])) (Nat.mod_lt _ hp)⟩
theorem dig_onto:∀ (ns:List Nat) (ds:List Int),DigOk ns ds -> ∃ k,k < prodN ns /\ dig ns k = ds
 | [],[],_=>⟨0,Nat.zero_lt_one,rfl⟩
 | [],_ :: _,h=>h.elim
 | _ :: _,[],h=>h.elim
 | n :: ns,d :: ds,⟨h0,h1,h2⟩=>by
  obtain ⟨k,hk,e⟩:=dig_onto ns ds h2;obtain ⟨q,rfl⟩:=Int.eq_ofNat_of_zero_le h0;have hq:q < n:=by omega
  have hm:(q + 1) * prodN ns <= n * prodN ns:=Nat.mul_le_mul_right _ hq;have h3:(q + 1) * prodN ns = prodN ns * q + prodN ns:=by rw [Nat.add_mul,Nat.mul_comm];omega
  refine ⟨prodN ns * q + k,by show _ < n * prodN ns;omega,?_⟩;show (((prodN ns * q + k) / prodN ns:Nat):Int) :: dig ns ((prodN ns * q + k) % prodN ns) = _;rw [Nat.mul_add_div (by omega),Nat.div_eq_of_lt hk,Nat.mul_add_mod,Nat.mod_eq_of_lt hk,e];rfl
theorem digOk_iff:∀ (ws:List (List Mean)) (ds:List Int),DigOk (ws.map List.length) ds ↔ ds.length = ws.length /\ ∀ k,(h:k < ds.length) -> (h':k < ws.length) -> 0 <= ds[k] /\ ds[k] < ws[k].length
 | [],[]=>by simp [DigOk]
 | [],_ :: _=>by simp [DigOk]
 | _ :: _,[]=>by simp [DigOk]
 | w :: ws,d :: ds=>by
  have ih:=digOk_iff ws ds;show (0 <= d /\ d < (w.length:Nat) /\ DigOk (ws.map List.length) ds) ↔ _;rw [ih];constructor
  ·rintro ⟨h0,h1,h2,h3⟩;refine ⟨by simp [h2],fun k h h'=>?_⟩
   cases k with
   | zero=>exact ⟨h0,h1⟩
   | succ k=>exact h3 k (by simpa using h) (by simpa using h')
  ·rintro ⟨h2,h3⟩;have:=h3 0 (by simp) (by simp);exact ⟨this.1,this.2,by simpa using h2,fun k h h'=>h3 (k + 1) (by simpa using h) (by simpa using h')⟩
theorem readOk_iff {T:Treaty} {R:List Int}:ReadOk T R ↔ DigOk (lensOf T) R:=(digOk_iff T.words R).symm
theorem TOk.lens {T:Treaty} (ok:TOk T):∀ n ∈ lensOf T,1 <= n:=fun n hn=>by
 obtain ⟨l,hl,rfl⟩:=List.mem_map.1 hn;exact (ok.wlen l hl).1
theorem mem_readings {T:Treaty} (ok:TOk T) {R:List Int}:R ∈ readingsL T ↔ ReadOk T R:=by
 rw [readOk_iff];unfold readingsL;rw [List.mem_map];constructor
 ·rintro ⟨k,hk,rfl⟩;exact dig_ok _ _ ok.lens (List.mem_range.1 hk)
 ·intro h;obtain ⟨k,hk,e⟩:=dig_onto _ _ h;exact ⟨k,List.mem_range.2 hk,e⟩
theorem readings_many {T:Treaty} (ok:TOk T):(readingsL T).length <= 256 /\ 1 <= (readingsL T).length:=by
 rw [readingsL_len,<- prodLen_eq];exact ⟨ok.prod,by rw [prodLen_eq];exact prodN_pos ok.lens⟩
end Go.Proofs
end
section
/- Walks: lists of lists cloned,and compared. -/
namespace Go.Proofs
open Go.RowKit
set_option maxRecDepth 100000 in
set_option maxHeartbeats 1000000 in
theorem equalAll_any (w:World) (A A':Option Addr) (l l':List (List Int)) (c c':Nat) (hA:Lists w A l) (hA':Lists w A' l') :
  Calls Tryz.prog 14 #[.slice A l.length c,.slice A' l'.length c'] w fun e w'=>e = .returned (.bool (eqB l l')) /\ Aft w w':=by
 have hl:=hA.len;have hl':=hA'.len;go_enter Tryz.func14,Tryz.ntmps14;go_wp2_with fail
 go_loopw [8] (fun i wr=>∃ k:Nat,i = .int .i64 k /\ k <= l.length /\ k <= l'.length /\ (∀ j,(h:j < l.length) -> (h':j < l'.length) -> j < k -> l[j] = l'[j]) /\ Aft w wr) (fun i _=>l.length - (intOf i).toNat)
 case atStart=>exact ⟨0,rfl,by omega,by omega,fun j _ _ h=>by omega,Aft.refl _⟩
 case round =>
  obtain ⟨k,rfl,hk,hk',hh,hw⟩:=hrel;have HH:=Lib.hid hh;clear hh;by_cases hkl:k < l.length
  ·by_cases hkl':k < l'.length
   ·obtain ⟨b,o,rfl,hb,hc⟩:=(hA.aft hw.then_drew).at hkl;obtain ⟨A1,c1,h1,h2⟩:=hc k hkl;obtain ⟨b',o',rfl,hb',hc'⟩:=(hA'.aft hw.then_drew).at hkl';obtain ⟨A2,c2,h1',h2'⟩:=hc' k hkl';have HEQ:=Lib.hid (kitEqual_int A1 A2 l[k] l'[k] c1 c2 wr.drew h2 h2')
    have HST:=Lib.hid (show l[k] = l'[k] -> ∀ j,(h:j < l.length) -> (h':j < l'.length) -> j < k + 1 -> l[j] = l'[j] from fun e j h h' hj=>by
     by_cases e2:j = k
     ·subst e2;exact e
     ·exact HH.out j h h' (by omega))
    have HNE:=Lib.hid (show ¬ l[k] = l'[k] -> eqB l l' = false from fun e=>decide_eq_false fun e2=>e (by subst e2;rfl));have hge:decide (l'.length <= k) = false:=by simp;omega
    have i1:(0:Int) <= (k:Int) /\ (k:Int) < (l.length:Int):=by omega
    have i2:(0:Int) <= (k:Int) /\ (k:Int) < (l'.length:Int):=by omega
    clear hc hc' h2 h2';generalize l[k] = r at *;generalize l'[k] = r' at *;cases he:eqB r r'
    all_goals
     rw [he] at HEQ;have HE:=Lib.hid he;clear he;go_wp2_with fail
     refine wp_region_tail 13 (by kernel_rfl) (by kernel_rfl) ?_;simp only [List.take_succ_cons,List.take_zero,List.drop_succ_cons,List.drop_zero];repeat (first | go_big_quiet_skip | (go_big_quiet_want;go_big_quiet_op;go_big_quiet_on))
     refine wpQuiet_nil ?_;go_wp2_with (go_at_call 27;refine HEQ.out.mono ?_;rintro e w2 ⟨rfl,ha⟩)
    ·go_ret;exact ⟨ret_bool (HNE.out (of_decide_eq_false HE.out)).symm,hw.then_drew.trans ha⟩
    ·refine ⟨⟨k + 1,by go_num,by omega,by omega,HST.out (of_decide_eq_true HE.out),hw.then_drew.trans ha⟩,by simp [intOf];omega⟩
   ·have hge:decide (l'.length <= k) = true:=by simp;omega
    go_wp2_with fail
    refine wp_region_tail 13 (by kernel_rfl) (by kernel_rfl) ?_;simp only [List.take_succ_cons,List.take_zero,List.drop_succ_cons,List.drop_zero];repeat (first | go_big_quiet_skip | (go_big_quiet_want;go_big_quiet_op;go_big_quiet_on))
    refine wpQuiet_nil ?_;go_wp2_with fail
    go_ret;exact ⟨ret_bool (decide_eq_false fun e=>by subst e;omega).symm,hw.then_drew⟩
  ·go_wp2_with fail
   go_ret;refine ⟨ret_bool ?_,hw⟩;unfold eqB;by_cases e:l.length = l'.length
   ·rw [e];have:l = l':=eq_of_steps l l' (fun i h h'=>HH.out i h h' (by omega)) e;rw [decide_eq_true this];simp
   ·rw [decide_eq_false (fun e2=>e (by rw [e2]))]
    simp;omega
end Go.Proofs
end
