/- Own texts, merged: CtL5e CtL5. -/
import Derived.Test.YtbchfakfdikkjaaGreatS22
import Derived.Test.YtbchfakfdikkjaaGreatS23
import Derived.Test.YtbchfakfdikkjaaGreatS24
import Derived.Test.YtbchfakfdikkjaaGreatS25
set_option linter.unusedSimpArgs false
set_option linter.unusedVariables false
set_option linter.unnecessarySimpa false
section
/- Walks: the closed law CourtSmall (5): its fifth loop. -/
namespace Go.Proofs
open Go.RowKit
open Court (refL begF noS award)
attribute [local go_sem] Oper.semAt_some
set_option maxRecDepth 100000 in
set_option maxHeartbeats 80000000 in
theorem small5 {ja jb jc jd je jf jg jh ji jj jk jl jm jn jo jp jq jr js jt ju jv jw jx jy jz jA jB jC jD jE jF jG jH jI jJ jK jL jM jN jO jP jQ jR jS jT jU jV jW jX jY jZ ka kb kc kd ke kf kg kh ki kj kk kl km kn ko kp kq kr ks kt ku kv kw kx ky kz kA kB kC kD kE kF kG kH kI kJ kK kL kM kN kO kP kQ kR kS kT kU kV kW kX kY kZ qa qb qc qd qe qf qg qh qi qj qk ql qm qn qo qp qq qr qs qt qu qv qw qx qy qz qA qB qC qD qE qF qG qH qI qJ qK qL qM qN qO qP qQ qR qS qT qU qV qW qX qY qZ xa xb xc xd xe xf xg xh xi xj xk xl xm xn xo xp xq xr xs xt xu xv xw xx xy xz xA xB xC xD xE xF xG xH xI xJ xK xL xM xN xO xP xQ xR xS xT xU xV xW xX xY xZ ya yb yc yd ye yf yg yh yi yj yk yl ym yn yo yp yq yr ys yt yu yv yw yx yy yz yA yB yC yD yE yF yG yH yI yJ yK yL yM yN yO yP yQ yR yS yT yU yV yW yX yY yZ za zb zc zd ze zf zg zh zi zj zk zl zm zn zo zp zq zr zs zt zu zv zw zx zy zz zA zB zC zD zE zF zG zH zI zJ zK zL zM zN zO zP zQ zR zS zT zU zV zW zX zY zZ Ja Jb Jc Jd Je Jf Jg Jh Ji Jj Jk Jl Jm Jn Jo Jp Jq Jr Js Jt Ju Jv Jw Jx Jy Jz JA JB JC JD JE JF JG JH JI JJ JK JL JM JN JO JP JQ JR JS JT JU JV JW JX JY JZ Ka Kb Kc Kd Ke Kf Kg Kh Ki Kj Kk Kl Km Kn Ko Kp Kq Kr Ks Kt Ku Kv Kw Kx Ky Kz KA KB KC KD KE KF KG KH KI KJ KK KL KM KN KO KP KQ KR KS KT KU KV KW KX KY KZ Xa Xb Xc Xd Xe Xf Xg Xh Xi Xj Xk Xl Xm Xn Xo Xp Xq Xr Xs Xt Xu Xv Xw Xx Xy Xz XA XB XC XD XE XF XG XH XI XJ XK XL XM XN XO XP XQ XR XS XT XU XV XW XX XY XZ Ya Yb Yc Yd Ye Yf Yg Yh Yi Yj Yk Yl Ym Yn Yo Yp Yq Yr Ys Yt Yu Yv Yw Yx Yy Yz YA YB YC YD YE YF YG YH YI YJ YK YL YM YN YO YP YQ YR YS YT YU YV YW YX YY YZ Za Zb Zc Zd Ze Zf Zg Zh Zi Zj Zk Zl Zm Zn Zo Zp Zq Zr Zs Zt Zu Zv Zw Zx:Value} {Q:Exit -> Act -> World -> Prop} {Ws W7:World} {gP:Nat} (HCS:Hid (CsAt Ws W7 gP 14 (.slice none 0 0) [] (.slice none 0 0)))
  (hQ:∀ (ma mb mc md me mf mg mh mi mj mk ml mm mn mo mp mq mr ms mt mu mv:Value) (W:World) (vS:Value),CsAt Ws W gP 14 vS (pairS 7) (.slice none 0 0) -> Q .normal { tmps:=#[ja,jb,jc,jd,je,jf,jg,jh,ji,jj,jk,jl,jm,jn,jo,jp,jq,jr,js,jt,ju,jv,jw,jx,jy,jz,jA,.pointer (some ⟨gP,0,none⟩),ma,jC,jD,jE,jF,jG,jH,jI,jJ,jK,jL,jM,jN,jO,jP,jQ,jR,jS,jT,jU,jV,jW,jX,jY,jZ,ka,kb,kc,kd,ke,kf,kg,kh,ki,kj,kk,kl,km,kn,ko,kp,kq,kr,ks,kt,ku,kv,kw,kx,ky,kz,kA,kB,kC,kD,kE,kF,kG,kH,kI,kJ,kK,kL,kM,kN,kO,kP,kQ,kR,kS,kT,kU,kV,kW,kX,kY,kZ,qa,qb,qc,qd,qe,qf,qg,qh,qi,qj,qk,ql,qm,qn,qo,qp,qq,qr,qs,qt,qu,qv,qw,qx,qy,qz,qA,qB,qC,qD,qE,qF,qG,qH,qI,qJ,qK,qL,qM,qN,qO,qP,qQ,qR,qS,qT,qU,qV,qW,qX,qY,qZ,xa,xb,xc,xd,xe,xf,xg,xh,xi,xj,xk,xl,xm,xn,xo,xp,xq,xr,xs,xt,xu,xv,xw,xx,xy,xz,xA,xB,xC,xD,xE,xF,xG,xH,xI,xJ,xK,xL,xM,xN,xO,xP,xQ,xR,xS,xT,xU,xV,xW,xX,xY,xZ,ya,yb,yc,yd,ye,yf,yg,yh,yi,yj,yk,yl,ym,yn,yo,yp,yq,yr,ys,yt,yu,yv,yw,yx,yy,yz,yA,yB,yC,yD,yE,yF,yG,yH,yI,yJ,yK,yL,yM,yN,yO,yP,yQ,yR,yS,yT,yU,yV,yW,yX,yY,yZ,za,zb,zc,zd,ze,zf,zg,zh,zi,zj,zk,zl,zm,zn,zo,zp,zq,zr,zs,zt,zu,zv,zw,zx,zy,zz,zA,zB,zC,zD,zE,zF,zG,zH,zI,zJ,zK,zL,zM,zN,zO,zP,zQ,zR,zS,zT,zU,zV,zW,zX,zY,zZ,Ja,Jb,Jc,Jd,Je,Jf,Jg,Jh,Ji,Jj,Jk,Jl,Jm,Jn,Jo,Jp,Jq,Jr,Js,Jt,Ju,Jv,Jw,Jx,Jy,Jz,JA,JB,JC,JD,JE,JF,JG,JH,JI,JJ,JK,JL,JM,JN,JO,JP,JQ,JR,JS,JT,JU,JV,JW,JX,JY,JZ,Ka,Kb,Kc,Kd,Ke,Kf,Kg,Kh,Ki,Kj,Kk,Kl,Km,Kn,Ko,Kp,Kq,Kr,Ks,Kt,Ku,Kv,Kw,Kx,Ky,Kz,KA,KB,KC,KD,KE,KF,KG,KH,KI,KJ,KK,KL,KM,KN,KO,KP,KQ,KR,KS,KT,KU,KV,KW,KX,KY,KZ,Xa,Xb,Xc,Xd,Xe,Xf,Xg,Xh,Xi,Xj,Xk,Xl,Xm,Xn,Xo,Xp,Xq,Xr,Xs,Xt,Xu,Xv,Xw,Xx,Xy,Xz,XA,XB,XC,XD,XE,XF,XG,mb,mc,md,me,mf,mg,mh,mi,mj,mk,ml,mm,mn,mo,mp,mq,mr,ms,mt,mu,mv,Yb,Yc,Yd,Ye,Yf,Yg,Yh,Yi,Yj,Yk,Yl,Ym,Yn,Yo,Yp,Yq,Yr,Ys,Yt,Yu,Yv,Yw,Yx,Yy,Yz,YA,YB,YC,YD,YE,YF,YG,YH,YI,YJ,YK,YL,YM,YN,YO,YP,YQ,YR,YS,YT,YU,YV,YW,YX,YY,YZ,Za,Zb,Zc,Zd,Ze,Zf,Zg,Zh,Zi,Zj,Zk,Zl,Zm,Zn,Zo,Zp,Zq,Zr,Zs,Zt,Zu,Zv,Zw,Zx],defers:=[] } W) :
  Code.wp Tryz.prog (sndOf (seqAt 7 (Tryz.f5.body.getD .skip))) Q { tmps:=#[ja,jb,jc,jd,je,jf,jg,jh,ji,jj,jk,jl,jm,jn,jo,jp,jq,jr,js,jt,ju,jv,jw,jx,jy,jz,jA,.pointer (some ⟨gP,0,none⟩),jB,jC,jD,jE,jF,jG,jH,jI,jJ,jK,jL,jM,jN,jO,jP,jQ,jR,jS,jT,jU,jV,jW,jX,jY,jZ,ka,kb,kc,kd,ke,kf,kg,kh,ki,kj,kk,kl,km,kn,ko,kp,kq,kr,ks,kt,ku,kv,kw,kx,ky,kz,kA,kB,kC,kD,kE,kF,kG,kH,kI,kJ,kK,kL,kM,kN,kO,kP,kQ,kR,kS,kT,kU,kV,kW,kX,kY,kZ,qa,qb,qc,qd,qe,qf,qg,qh,qi,qj,qk,ql,qm,qn,qo,qp,qq,qr,qs,qt,qu,qv,qw,qx,qy,qz,qA,qB,qC,qD,qE,qF,qG,qH,qI,qJ,qK,qL,qM,qN,qO,qP,qQ,qR,qS,qT,qU,qV,qW,qX,qY,qZ,xa,xb,xc,xd,xe,xf,xg,xh,xi,xj,xk,xl,xm,xn,xo,xp,xq,xr,xs,xt,xu,xv,xw,xx,xy,xz,xA,xB,xC,xD,xE,xF,xG,xH,xI,xJ,xK,xL,xM,xN,xO,xP,xQ,xR,xS,xT,xU,xV,xW,xX,xY,xZ,ya,yb,yc,yd,ye,yf,yg,yh,yi,yj,yk,yl,ym,yn,yo,yp,yq,yr,ys,yt,yu,yv,yw,yx,yy,yz,yA,yB,yC,yD,yE,yF,yG,yH,yI,yJ,yK,yL,yM,yN,yO,yP,yQ,yR,yS,yT,yU,yV,yW,yX,yY,yZ,za,zb,zc,zd,ze,zf,zg,zh,zi,zj,zk,zl,zm,zn,zo,zp,zq,zr,zs,zt,zu,zv,zw,zx,zy,zz,zA,zB,zC,zD,zE,zF,zG,zH,zI,zJ,zK,zL,zM,zN,zO,zP,zQ,zR,zS,zT,zU,zV,zW,zX,zY,zZ,Ja,Jb,Jc,Jd,Je,Jf,Jg,Jh,Ji,Jj,Jk,Jl,Jm,Jn,Jo,Jp,Jq,Jr,Js,Jt,Ju,Jv,Jw,Jx,Jy,Jz,JA,JB,JC,JD,JE,JF,JG,JH,JI,JJ,JK,JL,JM,JN,JO,JP,JQ,JR,JS,JT,JU,JV,JW,JX,JY,JZ,Ka,Kb,Kc,Kd,Ke,Kf,Kg,Kh,Ki,Kj,Kk,Kl,Km,Kn,Ko,Kp,Kq,Kr,Ks,Kt,Ku,Kv,Kw,Kx,Ky,Kz,KA,KB,KC,KD,KE,KF,KG,KH,KI,KJ,KK,KL,KM,KN,KO,KP,KQ,KR,KS,KT,KU,KV,KW,KX,KY,KZ,Xa,Xb,Xc,Xd,Xe,Xf,Xg,Xh,Xi,Xj,Xk,Xl,Xm,Xn,Xo,Xp,Xq,Xr,Xs,Xt,Xu,Xv,Xw,Xx,Xy,Xz,XA,XB,XC,XD,XE,XF,XG,.int .i64 0,XH,XI,XJ,XK,XL,XM,XN,XO,XP,XQ,XR,XS,XT,XU,XV,XW,XX,XY,XZ,Ya,Yb,Yc,Yd,Ye,Yf,Yg,Yh,Yi,Yj,Yk,Yl,Ym,Yn,Yo,Yp,Yq,Yr,Ys,Yt,Yu,Yv,Yw,Yx,Yy,Yz,YA,YB,YC,YD,YE,YF,YG,YH,YI,YJ,YK,YL,YM,YN,YO,YP,YQ,YR,YS,YT,YU,YV,YW,YX,YY,YZ,Za,Zb,Zc,Zd,Ze,Zf,Zg,Zh,Zi,Zj,Zk,Zl,Zm,Zn,Zo,Zp,Zq,Zr,Zs,Zt,Zu,Zv,Zw,Zx],defers:=[] } W7:=by
 dsimp only [sndOf,seqAt,Tryz.f5,Option.getD];refine wp_block ?_;go_loopw [450] (fun i wr=>∃ m:Nat,i = .int .i64 m /\ m <= 7 /\ ∃ vS,CsAt Ws wr gP 14 vS (pairS m) (.slice none 0 0)) (fun i _=>7 - (intOf i).toNat)
 case atStart=>exact ⟨0,rfl,by omega,_,HCS.out⟩
 case round =>
  obtain ⟨m,rfl,hm,vS,hcx⟩:=hrel;have HCX:=Lib.hid hcx;clear hcx;by_cases hml:m < 7
  ·have t4:decide (m < 7) = true:=by simpa using hml
   have t4':decide ((m:Int) < 7) = true:=decide_eq_true (by omega);obtain ⟨d,e,d1,d2,e1,e2,hd,he⟩:=dbl_ex m (by omega);have HPS:=Lib.hid (show pairS (m + 1) = pairS m ++ [((d:Int),(e:Int)),((e:Int),(d:Int))] by rw [pairS_succ,hd,he]);clear hd he;have hll:(pairS m).length <= 14:=by rw [pairS_len];omega
   obtain ⟨L,hL⟩:∃ L,pairS m = L:=⟨_,rfl⟩;rw [hL] at HCX HPS hll;clear hL;obtain ⟨A,cS,rfl,-,-⟩:=own_strs HCX.out.st (by omega);have x1:=HCX.out.box.cell 1;simp at x1;have x3:=HCX.out.box.lt;have HO2:=Lib.hid (own_aft HCX.out.st (Aft.alloc wr (.cells #[.int .i64 d,.int .i64 e,.int .i64 e,.int .i64 d] 57)));have HB2:=Lib.hid (Blk.new wr 57 #[.int .i64 d,.int .i64 e,.int .i64 e,.int .i64 d]);have hbase:Ws.heap.size <= (wr.alloc (.cells #[.int .i64 d,.int .i64 e,.int .i64 e,.int .i64 d] 57)).heap.size:=(HCX.out.aft.then_alloc _).size;go_upto_region 71 with (at_builtin;refine wpList_push44 rfl _ _ rfl HO2.out hbase rfl rfl HB2.out (by omega) ?_;intro v7 w7 hr7 hg7;obtain ⟨A7,c7,rfl,-,-⟩:=own_strs hr7 (by simp;omega);have hpu:=(HCX.out.on (Aft.alloc wr (.cells #[.int .i64 d,.int .i64 e,.int .i64 e,.int .i64 d] 57))).push hr7 hg7;rw [List.length_append] at hpu;have HR7:=Lib.hid hpu;have hb7:=(HCX.out.box.alloc (.cells #[.int .i64 d,.int .i64 e,.int .i64 e,.int .i64 d] 57)).grown hg7 HCX.out.apart;have y1:=hb7.cell 1;simp at y1;have yf:=hb7.frozen 1;have y3:=hb7.lt;clear hr7 hg7 hb7 x1 x3 hpu)
   go_wp2_with fail
   exact ⟨⟨m + 1,by go_num,by omega,_,by rw [HPS.out];exact HR7.out⟩,by simp [intOf];omega⟩
  ·have t4:decide (m < 7) = false:=by simpa using hml
   have t4':decide ((m:Int) < 7) = false:=decide_eq_false (by omega);have hm7:m = 7:=by omega
   subst hm7;go_wp2_with fail
   exact hQ _ _ _ _ _ _ _ _ _ _ _ _ _ _ _ _ _ _ _ _ _ _ _ _ HCX.out
end Go.Proofs
end
section
/- Walks: the closed law CourtSmall (5). -/
namespace Go.Proofs
open Go.RowKit
open Court (refL begF noS award)
attribute [local go_sem] Oper.semAt_some
set_option maxRecDepth 100000 in
set_option maxHeartbeats 80000000 in
theorem smallLaw_any (w:World):Calls Tryz.prog 5 #[] w fun e w'=>e = .returned (.bool true) /\ Aft w w':=by
 have HV:Hid (Ints (w.alloc (.cells #[.int .i64 (-2),.int .i64 (-1),.int .i64 0,.int .i64 1,.int .i64 2,.int .i64 3,.int .i64 4,.int .i64 5,.int .i64 13,.int .i64 14,.int .i64 15,.int .i64 9223372036854775807,.int .i64 (-9223372036854775808)] 3)) (some ⟨w.heap.size,0,none⟩) valsL):=Lib.hid (Nums.ints (Blk.new _ _ _) (nums_self valsL) (by decide));have HA:=Lib.hid (Aft.alloc w (.cells #[.int .i64 (-2),.int .i64 (-1),.int .i64 0,.int .i64 1,.int .i64 2,.int .i64 3,.int .i64 4,.int .i64 5,.int .i64 13,.int .i64 14,.int .i64 15,.int .i64 9223372036854775807,.int .i64 (-9223372036854775808)] 3));go_enter Tryz.func5,Tryz.ntmps5;go_upto_block 0 with fail
 generalize w.alloc (.cells #[.int .i64 (-2),.int .i64 (-1),.int .i64 0,.int .i64 1,.int .i64 2,.int .i64 3,.int .i64 4,.int .i64 5,.int .i64 13,.int .i64 14,.int .i64 15,.int .i64 9223372036854775807,.int .i64 (-9223372036854775808)] 3) = W1 at *;generalize w.heap.size = bV at *;refine small1 HV ?_
 intros
 rename_i W2 hA2
 replace HA:=Lib.hid (HA.out.trans hA2)
 clear HV hA2;go_upto_block 4 with fail
 obtain ⟨hL,hLa⟩:=lists8_made W2;have HL:=Lib.hid hL
 replace HA:=Lib.hid (HA.out.trans hLa)
 clear hL hLa;generalize ((((((((W2.alloc (.cells #[.int .i64 0] 3)).alloc (.cells #[.int .i64 1] 3)).alloc (.cells #[.int .i64 0,.int .i64 1] 3)).alloc (.cells #[.int .i64 2] 3)).alloc (.cells #[.int .i64 0,.int .i64 2] 3)).alloc (.cells #[.int .i64 1,.int .i64 2] 3)).alloc (.cells #[.int .i64 0,.int .i64 1,.int .i64 2] 3)).alloc (.cells #[.slice none 0 0,.slice (some ⟨W2.heap.size,0,none⟩) 1 1,.slice (some ⟨W2.heap.size + 1,0,none⟩) 1 1,.slice (some ⟨W2.heap.size + 1 + 1,0,none⟩) 2 2,.slice (some ⟨W2.heap.size + 1 + 1 + 1,0,none⟩) 1 1,.slice (some ⟨W2.heap.size + 1 + 1 + 1 + 1,0,none⟩) 2 2,.slice (some ⟨W2.heap.size + 1 + 1 + 1 + 1 + 1,0,none⟩) 2 2,.slice (some ⟨W2.heap.size + 1 + 1 + 1 + 1 + 1 + 1,0,none⟩) 3 3] 33)) = W3 at *;generalize W2.heap.size + 1 + 1 + 1 + 1 + 1 + 1 + 1 = bL at *;refine small2 HL ?_
 intros
 rename_i W4 hA2
 replace HA:=Lib.hid (HA.out.trans hA2)
 replace HL:=Lib.hid (HL.out.aft hA2)
 clear hA2;go_upto_block 10 with fail
 refine small3 HL ?_
 intros
 rename_i W5 hA2
 replace HA:=Lib.hid (HA.out.trans hA2)
 clear HL hA2;go_upto_block 14 with fail
 refine small4 ?_
 intros
 rename_i W6 hA2
 replace HA:=Lib.hid (HA.out.trans hA2)
 clear hA2;go_upto_block 18 with fail
 have HA0:=HA;have HCS:=Lib.hid (cs_made W6 14 (.slice none 0 0));generalize W6.alloc (.cells #[.int .i64 14,.slice none 0 0,.slice none 0 0] 25) = W7 at *;generalize W6.heap.size = gP at *;refine small5 HCS ?_
 intros
 rename_i W8 vS hC
 obtain ⟨gS,cS,rfl,h14,hst,hbx,hsp,hslt,hall⟩:=hC.seven;have HSP:=Lib.hid hsp;have HSL:=Lib.hid hslt;clear hsp hslt
 replace HA:=Lib.hid (HA.out.trans hC.aft)
 have HST:=Lib.hid hst;have HBX:=Lib.hid hbx;have HALL:=Lib.hid hall;have HB6:Hid (W6.heap.size <= gP):=Lib.hid hC.base;have HA6:=Lib.hid hC.aft;clear HCS hC hst hbx hall;have HXX:=Lib.hid (Aft.refl W8);obtain ⟨x0,x1,x2⟩:=box25 HBX.out;go_upto_region 74 with (first | (go_at_call 27;refine (full_pairs HST.out).mono ?_;rintro e Wn ⟨rfl,ha⟩;replace HXX:=Lib.hid (HXX.out.trans ha);replace HST:=Lib.hid (HST.out.aft ha);clear x0 x1 x2;obtain ⟨x0,x1,x2⟩:=box25 (HBX.out.aft HXX.out);clear ha) | (go_at_call 30;refine (always_pairs HST.out).mono ?_;rintro e Wn ⟨⟨A9,c9,rfl⟩,ha⟩;replace HXX:=Lib.hid (HXX.out.trans ha);replace HST:=Lib.hid (HST.out.aft ha);clear x0 x1 x2;obtain ⟨x0,x1,x2⟩:=box25 (HBX.out.aft HXX.out);clear ha))
 have HBN:=Lib.hid (HBX.out.aft HXX.out)
 replace HALL:Hid (∀ W2,W2.heap[gS]? = Wn.heap[gS]? -> Strs W2 (some ⟨gS,0,none⟩) (pairS 7)):=Lib.hid fun W2 h=>HALL.out W2 (h.trans (HXX.out.below.block gS HSL.out))
 replace HA:=Lib.hid (HA.out.trans HXX.out)
 replace HA6:=Lib.hid (HA6.out.trans HXX.out)
 clear HST HBX HXX HSL x2;have yf:=HBN.out.frozen 0;have yf1:=HBN.out.frozen 1;have y3:=HBN.out.lt;have i10:(10:Nat) <= cS:=by omega
 refine wp_region_valsT (by kernel_rfl) 5 546 rfl (by kernel_rfl) (by kernel_rfl) (by kernel_rfl) [.pointer (some ⟨gP,1,none⟩),.slice (some ⟨gS,0,none⟩) 14 cS,.slice (some ⟨gS,0,none⟩) 10 cS,.pointer (some ⟨gP,0,none⟩),undef] rfl (fun done W=>(done 4 = true -> done 1 = true) /\ W = (if done 4 = true then Wn.drew.setCell ⟨gP,0,none⟩ (.int .i64 10) else Wn.drew)) (⟨(fun h=>by cases h),rfl⟩) ?st1 ?fi1
 case st1 =>
  intro i o v ho hv
  match i,ho,hv with
  | 0,ho,hv =>
   cases ho;cases hv;refine .inl ⟨rfl,fun done a W hd hp hk hw K hK=>?_⟩;have e27:=hk.s 27;exact op_val (by simp [go_sem,ev' e27]) (hK _ (⟨(fun h=>by rw [upd_ne' (by decide)] at h;first | exact upd_same' | (rw [upd_ne' (by decide)];exact hw.1 h)),by rw [upd_ne' (by decide)];exact hw.2⟩))
  | 1,ho,hv =>
   cases ho;cases hv;refine .inl ⟨rfl,fun done a W hd hp hk hw K hK=>?_⟩;have e481:=hk.t 0;have d4:done 4 = false:=Bool.eq_false_iff.2 fun h=>by rw [hw.1 h] at hd;cases hd
   have h2:=hw.2;rw [d4] at h2;simp only [Bool.false_eq_true,if_false] at h2;subst h2;exact op_val (by simp [go_sem,ev' e481,x1]) (hK _ ⟨(fun h=>upd_same'),by rw [upd_ne' (by decide),d4];rfl⟩)
  | 2,ho,hv =>
   cases ho;cases hv;refine .inl ⟨rfl,fun done a W hd hp hk hw K hK=>?_⟩;have e482:=hk.t 1;refine op_val ?_ (hK _ ⟨(fun h=>by rw [upd_ne' (by decide)] at h ⊢;exact hw.1 h),by rw [upd_ne' (by decide)];exact hw.2⟩);simp [go_sem,ev' e482];intro h;omega
  | 3,ho,hv =>
   cases ho;cases hv;refine .inl ⟨rfl,fun done a W hd hp hk hw K hK=>?_⟩;have e27:=hk.s 27;exact op_val (by simp [go_sem,ev' e27]) (hK _ (⟨(fun h=>by rw [upd_ne' (by decide)] at h;first | exact upd_same' | (rw [upd_ne' (by decide)];exact hw.1 h)),by rw [upd_ne' (by decide)];exact hw.2⟩))
  | 4,ho,hv =>
   cases ho;cases hv;refine .inl ⟨rfl,fun done a W hd hp hk hw K hK=>?_⟩;have e484:=hk.t 3;have h2:=hw.2;rw [hd] at h2;simp only [Bool.false_eq_true,if_false] at h2;subst h2;exact op_skipW (w':=Wn.drew.setCell ⟨gP,0,none⟩ (.int .i64 10)) (by simp [go_sem,ev' e484,x0,yf,y3]) (hK _ ⟨(fun _=>by rw [upd_ne' (by decide)];exact hp 1 (by decide)),by rw [upd_same',if_pos rfl]⟩)
  | _ + 5,_,hv=>cases hv
 intro done W hd hw;simp only [List.drop_succ_cons,List.drop_zero,List.zip_cons_cons,List.zip_nil_right,putAll];simp only [Act.put,List.setIfInBounds_toArray,List.set];have hw4:=hw.2;rw [if_pos (hd 4 (by decide))] at hw4;clear hw hd;subst hw4;have hb1:=HBN.out.store 0 (.int .i64 10);have z1:=hb1.cell 1;have z2:=hb1.frozen 1;have z3:=hb1.lt;simp at z1;have hb2:=hb1.store 1 (.slice (some ⟨gS,0,none⟩) 10 cS);have HB9:Hid (Blk ((Wn.setCell ⟨gP,0,none⟩ (.int .i64 10)).setCell ⟨gP,1,none⟩ (.slice (some ⟨gS,0,none⟩) 10 cS)) gP 25 #[.int .i64 10,.slice (some ⟨gS,0,none⟩) 10 cS,.slice none 0 0]):=Lib.hid (by simpa using hb2);have HS9:=Lib.hid (HALL.out ((Wn.setCell ⟨gP,0,none⟩ (.int .i64 10)).setCell ⟨gP,1,none⟩ (.slice (some ⟨gS,0,none⟩) 10 cS)).drew ((heap_setCell_other _ ⟨gP,1,none⟩ gS _ HSP.out).trans ((heap_setCell_other _ ⟨gP,0,none⟩ gS _ HSP.out))));have HW9:=Lib.hid (HA0.out.trans (((HA6.out.then_setCell (p:=⟨gP,0,none⟩) HB6.out (.int .i64 10)).then_setCell (p:=⟨gP,1,none⟩) HB6.out (.slice (some ⟨gS,0,none⟩) 10 cS)).trans (Aft.drew _)));clear x0 x1 yf yf1 y3 hb1 hb2 i10 HALL HSP HBN h14 HA HA6;obtain ⟨x0,x1,x2⟩:=box25 HB9.out;go_upto_region 76 with (go_at_call 27;refine (full_five HS9.out).mono ?_;rintro e W10 ⟨⟨A8,c8,rfl⟩,ha⟩;have HA:=Lib.hid (HW9.out.trans ha);clear ha)
 clear x0 x1 x2 z1 z2 z3 HS9 HB9;refine wp_region_valsU (by kernel_rfl) 7 546 rfl (by kernel_rfl) (by kernel_rfl) [none,none,none,none,none,some (.int .i64 0),none] (by kernel_rfl) rfl (Hd 492 493 494 491 0 W10 400) (Hd.start) ?st2 ?fi2
 case st2 =>
  intro i o v ho hv
  match i,ho,hv with
  | 0,ho,hv =>
   cases ho;cases hv;refine .inl ⟨rfl,fun done a W hz hd hp hk hw K hK=>?_⟩;refine op_callN rfl rfl rfl _ rfl (vs:=#[]) (by simp) (five_own W) fun e w' h=>?_
   obtain ⟨b1,c1,g1,rfl,hf⟩:=h;exact ⟨_,rfl,hK _ _ (fun u hu=>by cases hu) (hw.step0 (by decide) hf.aft hf (by rw [hz];decide))⟩
  | 1,ho,hv =>
   cases ho;cases hv;refine .inl ⟨rfl,fun done a W hz hd hp hk hw K hK=>?_⟩;obtain ⟨Wm,hm1,hm2,hm3⟩:=zeros_make W 400 (by decide);have hm4:(Instr.makeSlice 33 (.int .i64 400) (.int .i64 400)).run Tryz.prog W = .ok (.slice (some ⟨W.heap.size,0,none⟩) 400 400) Wm:=hm1;exact op_valW (w':=Wm) (v:=.slice (some ⟨W.heap.size,0,none⟩) 400 400) (by simp [go_sem,hm4]) (hK _ _ (fun u hu=>by cases hu) (hw.step1 (by decide) hm3 hm2 (by rw [hz];decide)))
  | 2,ho,hv =>
   cases ho;cases hv;refine .inl ⟨rfl,fun done a W hz hd hp hk hw K hK=>?_⟩;obtain ⟨X,b1,c1,g1,f0,h5⟩:=hw.o0 (hp 0 (by decide));obtain ⟨g2,f1,i1⟩:=hw.o1 (hp 1 (by decide));refine op_callN rfl rfl rfl _ rfl (vs:=#[.agg #[.int .i64 5,.slice (some ⟨b1,0,none⟩) 5 c1,.slice (some ⟨g1 + 1 + 1,0,none⟩) 2 2],.slice none 0 0,.slice (some ⟨g2,0,none⟩) 400 400]) (by simp [f0,f1];rfl) (heard_n h5.rep i1 0 heard400) fun e w' h=>?_
   obtain ⟨⟨v,rfl⟩,ha⟩:=h;exact ⟨_,rfl,hK _ _ (fun u hu=>by cases hu) (hw.step2 (by decide) ha (by rw [hz];decide))⟩
  | 3,ho,hv =>
   cases ho;cases hv;refine .inl ⟨rfl,fun done a W hz hd hp hk hw K hK=>?_⟩;obtain ⟨v,f2⟩:=hw.o2 (hp 2 (by decide));exact op_val (v:=.tuple #[v,.int .i64 0]) (by simp [go_sem,ev' f2]) (hK _ _ (fun u hu=>by cases hu) (hw.step3 (by decide) (by rw [hz];decide)))
  | 4,ho,hv =>
   cases ho;cases hv;refine .inl ⟨rfl,fun done a W hz hd hp hk hw K hK=>?_⟩;obtain ⟨v,f3⟩:=hw.o3 (hp 3 (by decide));exact op_val (v:=v) (by simp [go_sem,ev' f3]) (hK _ _ (fun u hu=>by cases hu) (hw.keep (by decide) (by decide)))
  | 5,ho,hv =>
   cases ho;cases hv;refine .inl ⟨rfl,fun done a W hz hd hp hk hw K hK=>?_⟩;obtain ⟨v,f3⟩:=hw.o3 (hp 3 (by decide));exact op_val (v:=.int .i64 0) (by simp [go_sem,ev' f3]) (hK _ _ (fun u hu=>by cases hu;rfl) (hw.keep (by decide) (by decide)))
  | 6,ho,hv =>
   cases ho;cases hv;refine .inl ⟨rfl,fun done a W hz hd hp hk hw K hK=>?_⟩;exact op_val (v:=a.eval (.tmp 495)) (by simp [go_sem]) (hK _ _ (fun u hu=>by cases hu) (hw.keep (by decide) (by decide)))
  | _ + 7,_,hv=>cases hv
 intro done us W hus hd hw;obtain ⟨y1,y2,y3,y4,y5,y6,rfl⟩:=list6s hus
 replace HA:=Lib.hid (HA.out.trans hw.aft)
 clear hw hd hus;simp only [fill,List.drop_succ_cons,List.drop_zero,List.zip_cons_cons,List.zip_nil_right,putAll];simp only [Act.put,List.setIfInBounds_toArray,List.set];go_upto_region 77 with fail
 obtain ⟨W11,hW11⟩:∃ W11,W = W11:=⟨_,rfl⟩;rw [hW11] at HA ⊢;clear hW11;refine wp_region_valsU (by kernel_rfl) 7 546 rfl (by kernel_rfl) (by kernel_rfl) [none,none,none,none,none,some (.int .i64 3),none] (by kernel_rfl) rfl (Hd 498 499 500 497 3 W11 401) (Hd.start) ?st3 ?fi3
 case st3 =>
  intro i o v ho hv
  match i,ho,hv with
  | 0,ho,hv =>
   cases ho;cases hv;refine .inl ⟨rfl,fun done a W hz hd hp hk hw K hK=>?_⟩;refine op_callN rfl rfl rfl _ rfl (vs:=#[]) (by simp) (five_own W) fun e w' h=>?_
   obtain ⟨b1,c1,g1,rfl,hf⟩:=h;exact ⟨_,rfl,hK _ _ (fun u hu=>by cases hu) (hw.step0 (by decide) hf.aft hf (by rw [hz];decide))⟩
  | 1,ho,hv =>
   cases ho;cases hv;refine .inl ⟨rfl,fun done a W hz hd hp hk hw K hK=>?_⟩;obtain ⟨Wm,hm1,hm2,hm3⟩:=zeros_make W 401 (by decide);have hm4:(Instr.makeSlice 33 (.int .i64 401) (.int .i64 401)).run Tryz.prog W = .ok (.slice (some ⟨W.heap.size,0,none⟩) 401 401) Wm:=hm1;exact op_valW (w':=Wm) (v:=.slice (some ⟨W.heap.size,0,none⟩) 401 401) (by simp [go_sem,hm4]) (hK _ _ (fun u hu=>by cases hu) (hw.step1 (by decide) hm3 hm2 (by rw [hz];decide)))
  | 2,ho,hv =>
   cases ho;cases hv;refine .inl ⟨rfl,fun done a W hz hd hp hk hw K hK=>?_⟩;obtain ⟨X,b1,c1,g1,f0,h5⟩:=hw.o0 (hp 0 (by decide));obtain ⟨g2,f1,i1⟩:=hw.o1 (hp 1 (by decide));refine op_callN rfl rfl rfl _ rfl (vs:=#[.agg #[.int .i64 5,.slice (some ⟨b1,0,none⟩) 5 c1,.slice (some ⟨g1 + 1 + 1,0,none⟩) 2 2],.slice none 0 0,.slice (some ⟨g2,0,none⟩) 401 401]) (by simp [f0,f1];rfl) (heard_n h5.rep i1 3 heard401) fun e w' h=>?_
   obtain ⟨⟨v,rfl⟩,ha⟩:=h;exact ⟨_,rfl,hK _ _ (fun u hu=>by cases hu) (hw.step2 (by decide) ha (by rw [hz];decide))⟩
  | 3,ho,hv =>
   cases ho;cases hv;refine .inl ⟨rfl,fun done a W hz hd hp hk hw K hK=>?_⟩;obtain ⟨v,f2⟩:=hw.o2 (hp 2 (by decide));exact op_val (v:=.tuple #[v,.int .i64 3]) (by simp [go_sem,ev' f2]) (hK _ _ (fun u hu=>by cases hu) (hw.step3 (by decide) (by rw [hz];decide)))
  | 4,ho,hv =>
   cases ho;cases hv;refine .inl ⟨rfl,fun done a W hz hd hp hk hw K hK=>?_⟩;obtain ⟨v,f3⟩:=hw.o3 (hp 3 (by decide));exact op_val (v:=v) (by simp [go_sem,ev' f3]) (hK _ _ (fun u hu=>by cases hu) (hw.keep (by decide) (by decide)))
  | 5,ho,hv =>
   cases ho;cases hv;refine .inl ⟨rfl,fun done a W hz hd hp hk hw K hK=>?_⟩;obtain ⟨v,f3⟩:=hw.o3 (hp 3 (by decide));exact op_val (v:=.int .i64 3) (by simp [go_sem,ev' f3]) (hK _ _ (fun u hu=>by cases hu;rfl) (hw.keep (by decide) (by decide)))
  | 6,ho,hv =>
   cases ho;cases hv;refine .inl ⟨rfl,fun done a W hz hd hp hk hw K hK=>?_⟩;exact op_val (v:=a.eval (.tmp 501)) (by simp [go_sem]) (hK _ _ (fun u hu=>by cases hu) (hw.keep (by decide) (by decide)))
  | _ + 7,_,hv=>cases hv
 intro done us W hus hd hw;obtain ⟨y1,y2,y3,y4,y5,y6,rfl⟩:=list6s hus
 replace HA:=Lib.hid (HA.out.trans hw.aft)
 clear hw hd hus;simp only [fill,List.drop_succ_cons,List.drop_zero,List.zip_cons_cons,List.zip_nil_right,putAll];simp only [Act.put,List.setIfInBounds_toArray,List.set];(repeat (first | go_big_skip | go_big_want | go_big_move | go_big_op | go_step | go_upon | go_back));refine (hear_n (crep0 W) (ints_none _) (ints_none _) (ints_none _) (ints_none _) 0 0 0 0 rfl rfl rfl rfl rfl rfl rfl).mono ?_;rintro e W12 ⟨rfl,ha⟩;dsimp only
 replace HA:=Lib.hid (HA.out.trans ha)
 clear ha;(repeat (first | go_big_skip | go_big_want | go_big_move | go_big_op | go_step | go_upon | go_back));refine (stand_n (crep0 W12) (ints_none _) (ints_none _) 0 0 rfl rfl rfl rfl rfl).mono ?_;rintro e W13 ⟨rfl,ha⟩;dsimp only
 replace HA:=Lib.hid (HA.out.trans ha)
 clear ha;(repeat (first | go_big_skip | go_big_want | go_big_move | go_big_op | go_step | go_upon | go_back));refine (surv_n (crep0 W13) 0 0 rfl rfl rfl).mono ?_;rintro e W14 ⟨rfl,ha⟩;dsimp only
 replace HA:=Lib.hid (HA.out.trans ha)
 clear ha;(repeat (first | go_big_skip | go_big_want | go_big_move | go_big_op | go_step | go_upon | go_back));refine (awake_any W14).mono ?_;rintro e W15 ⟨rfl,ha⟩;dsimp only
 replace HA:=Lib.hid (HA.out.trans ha)
 clear ha;(repeat (first | go_big_skip | go_big_want | go_big_move | go_big_op | go_step | go_upon | go_back));go_ret;exact ⟨rfl,HA.out⟩
end Go.Proofs
end
