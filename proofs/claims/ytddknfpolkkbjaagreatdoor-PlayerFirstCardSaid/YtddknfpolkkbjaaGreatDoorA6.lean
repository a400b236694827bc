/- Texts of this claim, one behind the other. -/
import Derived.Test.YtddknfpolkkbjaaGreatDoorA4
import Derived.Test.YtddknfpolkkbjaaGreatDoorA5
import Derived.Test.YtddknfpolkkbjaaGreatDoorA1
import Derived.Test.YtddknfpolkkbjaaGreatDoorA2
import Derived.Lib.ParseIntBTie
set_option linter.unusedVariables false
set_option linter.unusedSimpArgs false
namespace Go.Proofs.YtddknfpolkkbjaaGreatDoor.Ax
open Go Go.Acq Go.RowKit Go.Proofs
set_option maxHeartbeats 8000000
set_option maxRecDepth 20000
theorem Z31:Ua Tryz.prog 192 2=true:=by kernel_rfl
theorem Z10:Ua Tryz.prog 35 3=true:=by kernel_rfl
theorem Z77:Tryz.prog.underlying 185=some (.array 2 69):=by kernel_rfl
theorem TWQPL.b5:Vn Tryz.prog 5=some 1:=by kernel_rfl
theorem Zfc:Zz Tryz.prog 101=true:=by kernel_rfl
theorem Zcp:Zz Tryz.prog 102=true:=by kernel_rfl
theorem Zfs:Zz Tryz.prog 109=true:=by kernel_rfl
theorem Ze5:Zz Tryz.prog 11=true:=by kernel_rfl
theorem Zld:Zz Tryz.prog 110=true:=by kernel_rfl
theorem Zko:Zz Tryz.prog 111=true:=by kernel_rfl
theorem Zi1:Zz Tryz.prog 112=true:=by kernel_rfl
theorem Zhl:Zz Tryz.prog 113=true:=by kernel_rfl
theorem Zhp:Zz Tryz.prog 13=true:=by kernel_rfl
theorem Zl0:Zz Tryz.prog 14=true:=by kernel_rfl
theorem Zca:Zz Tryz.prog 19=true:=by kernel_rfl
theorem Zgv:Zz Tryz.prog 20=true:=by kernel_rfl
theorem Zd5:Zz Tryz.prog 29=true:=by kernel_rfl
theorem Zdz:Zz Tryz.prog 31=true:=by kernel_rfl
theorem Zhg:Zz Tryz.prog 32=true:=by kernel_rfl
theorem Zfv:Zz Tryz.prog 38=true:=by kernel_rfl
theorem Zle:Zz Tryz.prog 46=true:=by kernel_rfl
theorem Zg3:Zz Tryz.prog 47=true:=by kernel_rfl
theorem Zid:Zz Tryz.prog 48=true:=by kernel_rfl
theorem Zge:Zz Tryz.prog 49=true:=by kernel_rfl
theorem Ziv:Zz Tryz.prog 50=true:=by kernel_rfl
theorem Zjj:Zz Tryz.prog 57=true:=by kernel_rfl
theorem Zkq:Zz Tryz.prog 58=true:=by kernel_rfl
theorem Zcr:Zz Tryz.prog 65=true:=by kernel_rfl
theorem Z1b:Zz Tryz.prog 8=true:=by kernel_rfl
theorem Zgc:Wk Tryz.prog 104 0=some 0:=by kernel_rfl
theorem Zfz:Wk Tryz.prog 104 1=some 1:=by kernel_rfl
theorem Jn:Wk Tryz.prog 132 0=some 0:=by kernel_rfl
theorem Z0r:Wk Tryz.prog 132 1=some 4:=by kernel_rfl
theorem Z0o:Wk Tryz.prog 132 2=some 5:=by kernel_rfl
theorem Z0v:Wk Tryz.prog 132 3=some 6:=by kernel_rfl
theorem Z2x:Wk Tryz.prog 192 0=some 0:=by kernel_rfl
theorem Z28:Wk Tryz.prog 192 1=some 1:=by kernel_rfl
theorem Z81:Wk Tryz.prog 35 0=some 0:=by kernel_rfl
theorem Zi0:Wk Tryz.prog 35 1=some 1:=by kernel_rfl
theorem Z0q:Ym Tryz.prog 193=some 192:=by kernel_rfl
theorem Zjk:Yg Tryz.prog 104=some 3:=by kernel_rfl
theorem Ziw:Yg Tryz.prog 106=some 6:=by kernel_rfl
theorem Nt:Yg Tryz.prog 192=some 2:=by kernel_rfl
theorem Z5s:Yg Tryz.prog 35=some 3:=by kernel_rfl
theorem Z7c:Yg Tryz.prog 69=some 3:=by kernel_rfl
theorem Z3s:Xi Tryz.prog 48=true:=by kernel_rfl
theorem Zll:Xb Tryz.prog 104=some (.agg #[.slice none 0 0,.slice none 0 0,iV 0]):=by kernel_rfl
theorem Zjf:Xb Tryz.prog 106=some (.agg #[iV 0,iV 0,iV 0,iV 0,iV 0,iV 0]):=by kernel_rfl
theorem Zic:Xb Tryz.prog 185=some (.agg #[.slice none 0 0,iV 0,.int .i8 0,.slice none 0 0,iV 0,.int .i8 0]):=by kernel_rfl
theorem Z0t:Xb Tryz.prog 192=some (.agg #[.nilFunc,iV 0]):=by kernel_rfl
theorem Zep:Xb Tryz.prog 35=some (.agg #[iV 0,iV 0,.slice none 0 0]):=by kernel_rfl
theorem Zh8:ElemT Tryz.prog 27 5 1 1 (.int .u8 0):=⟨Xq,Jd,TWQPL.b5,TWQSY.z5,rfl⟩
theorem Zib {a0:CheckAnswer}{d2 a4 a5 b9 a9 d0 a8 b6 c4:Nat}{a6 b7 c9 a7:Option Addr}(w:World)(a3:RS w [] Zu 3 a6 a4 a5 a0.Net.Arcs)(b8:RS w [] iC 1 b7 b9 a9 a0.f)(d1:RS w [] boolC 1 c9 d0 a8 a0.s)(d3:RS w [] iC 1 a7 b6 c4 a0.out)(a2:HB w [] d2 [iV a0.Net.N,iV a0.Net.S,iV a0.Net.T,.slice a6 a4 a5,.slice b7 b9 a9,.slice c9 d0 a8,.slice a7 b6 c4]){r0:Bool}(H:Z8r a0=some r0):Fnc Tryz.prog 109 #[pV d2] w [] (fun v N=>v=.bool r0∧N=[]):=by
 unfold Z8r at H;refine Fnc.enter (vs:=[pV d2]) Tryz.func109 rfl rfl (Inv.refl w) ?_;refine sR Y1 rfl ?_;refine aN Za ?_;refine Zi ?_;rcases Zq H with ⟨g1,H⟩ | ⟨g1,H⟩
 ·refine Ws 23 [0,1,2,3,4,5,6,7,8,9,10,11,12,13,14,15,16,17,18,19,20,21,22] rfl Xu (by kernel_rfl) (by kernel_rfl) rfl (by kernel_rfl) ?_;refine TQ.move Za ?_;refine TQ.nilCheck Za ?_;refine Yn Za Z0r ?_;refine Um a2 Zb Uh ?_;refine Rn (xs:=a0.f) b8.len Zb Wg ?_;refine TQ.move Za ?_;refine TQ.nilCheck Za ?_;refine Yn Za Jn ?_;refine Yn Za Wz ?_;refine Um a2 Zb Vk ?_;refine Rn (xs:=a0.Net.Arcs) a3.len Zb Xv ?_;refine Kb Zl ?_;refine TQ.move Za ?_;refine Uj (t:=15) (b':=true) rfl (decide_eq_true g1) ?_;refine TQ.move Za ?_;refine TQ.nilCheck Za ?_;refine Yn Za Z0o ?_;refine Um a2 Zb Gd ?_;refine Rn (xs:=a0.s) d1.len Zb Jv ?_;refine TQ.move Za ?_;refine TQ.nilCheck Za ?_;refine Yn Za Jn ?_;refine Yn Za Vq ?_;refine Um a2 Zb Yf ?_;refine TQ.tail [23,24,25] Yp ?_;refine Zr Zl ?_;refine Yi Zb ?_;refine aN Za ?_;refine Zo (aT [2] rfl) ?_;refine T.ret ?_;obtain rfl:=ret1 H;exact Ye Za (Res.tmp rfl) Zf ⟨rfl,rfl⟩
 ·refine Ws 23 [0,1,2,3,4,5,6,7,8,9,10,11,12,13,14,15,16,17,18,19,20,21,22] rfl Xu (by kernel_rfl) (by kernel_rfl) rfl (by kernel_rfl) ?_;refine TQ.move Za ?_;refine TQ.nilCheck Za ?_;refine Yn Za Z0r ?_;refine Um a2 Zb Uh ?_;refine Rn (xs:=a0.f) b8.len Zb Wg ?_;refine TQ.move Za ?_;refine TQ.nilCheck Za ?_;refine Yn Za Jn ?_;refine Yn Za Wz ?_;refine Um a2 Zb Vk ?_;refine Rn (xs:=a0.Net.Arcs) a3.len Zb Xv ?_;refine Kb Zl ?_;refine TQ.move Za ?_;refine Uj (t:=15) (b':=false) rfl (decide_eq_false g1) ?_;refine Yh Za ?_;refine Yh Za ?_;refine Yh Za ?_;refine Yh Za ?_;refine Yh Za ?_;refine Yh Za ?_;refine Yh Za ?_;refine Yh Za ?_;refine Yh Za ?_;refine Yh Za ?_;refine TQ.tail [23,24,25] Yp ?_;refine Zg Za ?_;refine Yl Zb ?_;refine aN Za ?_;refine Zo (aT [2] rfl) ?_;refine T.ret ?_;obtain rfl:=ret1 H;exact Ye Za (Res.tmp rfl) Zf ⟨rfl,rfl⟩
theorem Zgd {a0:CheckAnswer}{d1 a4 a5 b9 b6 d0 a9 b7 c4:Nat}{a6 b8 c9 a8:Option Addr}(w:World)(a3:RS w [] Zu 3 a6 a4 a5 a0.Net.Arcs)(a2:RS w [] iC 1 b8 b9 b6 a0.f)(d6:RS w [] boolC 1 c9 d0 a9 a0.s)(d7:RS w [] iC 1 a8 b7 c4 a0.out)(a7:HB w [] d1 [iV a0.Net.N,iV a0.Net.S,iV a0.Net.T,.slice a6 a4 a5,.slice b8 b9 b6,.slice c9 d0 a9,.slice a8 b7 c4]){r0:Bool}(H:Zaw a0=some r0):Fnc Tryz.prog 110 #[pV d1] w [] (fun v N=>v=.bool r0∧N=[]):=by
 unfold Zaw at H;refine Fnc.enter (vs:=[pV d1]) Tryz.func110 rfl rfl (Inv.refl w) ?_;refine sR Y1 rfl ?_;refine aN Za ?_;refine Zi ?_;refine sR Y7 rfl ?_;refine Zc Za ?_;refine TO.nilCheck Za ?_;refine Zs Za Jn ?_;refine Zs Za Wz ?_;refine Vz a7 Zb Vk ?_;refine Yt (xs:=a0.Net.Arcs) a3.len Zb Xv ?_;refine Zc Za ?_;refine dN ?_;refine Wf (fun (d4:Unit)=>Z89=some r0) (fun (d4:Unit)=>[]) (fun (d4:Unit)=>[]) ?_ ?_
 ·
  refine T.block ?_;obtain ⟨d8,d9,d5⟩:=Zm H;refine Z2r (fun (d2:Nat) (x1:Int)=>Xd (fun s=>Z6g a0 s) d2 x1=some d8) (fun (d2:Nat) (x1:Int)=>[(0,pV d1),(9,.slice a6 a4 a5),(10,iV (a0.Net.Arcs.length:Int)),(11,iV x1)]) (fun (d2:Nat) (x1:Int)=>[]) (fun (d2:Nat) (x1:Int)=>d2) Xf 0 d9 (aF rfl) Zf ?_;rintro d2 x1 H;obtain ⟨e1,e2,rfl,H,d3⟩:=Ub H;have H:Z6g a0 x1=some e2:=H;unfold Z6g at H;refine sR Y1 rfl ?_;refine Zr Zl ?_;refine dS ?_;rcases Zq H with ⟨g2,H⟩ | ⟨g2,H⟩
  ·
   refine Yx rfl g2 ?_;refine T.skip ?_;refine Yb ?_;refine Zi ?_;refine T.block ?_;obtain ⟨g3,H⟩:=Zx H;refine sR Y6 rfl ?_;refine Zc Za ?_;refine Xy a3 g3 Zb Xv Wt ?_;refine Gi (cs:=[iV ((a0.Net.Arcs.getD x1.toNat default).fr),iV ((a0.Net.Arcs.getD x1.toNat default).to),iV ((a0.Net.Arcs.getD x1.toNat default).cap)]) default a3 g3 Zb Jf ?_;refine Wb Zk Jr ?_;intro b4;refine Zy Za ?_;refine Xx Za Ze Wt Zk ?_;refine dN ?_;refine Zi ?_;obtain ⟨g6,H⟩:=Zx H;rcases Zq H with ⟨g7,H⟩ | ⟨g7,H⟩
   ·refine Ws 18 [0,1,2,3,4,5,6,7,8,9,10,11,12,13,14,15,16,17] rfl Xu (by kernel_rfl) (by kernel_rfl) rfl (by kernel_rfl) ?_;refine TQ.move Za ?_;refine TQ.nilCheck Za ?_;refine Yn Za Z0r ?_;refine Um a7 Zb Uh ?_;refine TQ.move Za ?_;refine Kf a2 g6 Zb Wg Wd ?_;refine Nl a2 g6 Za Wn ?_;refine Kb Zl ?_;refine TQ.move Za ?_;refine Uj (t:=24) (b':=true) rfl (decide_eq_true g7) ?_;refine Yh Za ?_;refine Yh Za ?_;refine Yh Za ?_;refine Yh Za ?_;refine Yh Za ?_;refine Yh Za ?_;refine Yh Za ?_;refine Yh Za ?_;refine Yh Za ?_;refine TQ.tail [18,19] Yp ?_;refine Zg Za ?_;refine Yi Zb ?_;refine dN ?_;refine Zo (aT [0,9,10,11,25,26,27,28,29,30,31,32,33,34,35] rfl) ?_;refine Yz rfl rfl ?_;refine sR Y1 rfl ?_;refine aN Za ?_;refine Zo (aT [2] rfl) ?_;refine T.ret ?_;refine Xc ?_;refine Yc ?_;have H:=Wi H d3▸d5;refine Yc ?_;refine Xc ?_;refine Yc ?_;obtain rfl:=ret1 H;exact Ye Za (Res.tmp rfl) Zf ⟨rfl,rfl⟩
   ·
    obtain ⟨g8,H⟩:=Zx H;refine Ws 18 [0,1,2,3,4,5,6,7,8,9,10,11,12,13,14,15,16,17] rfl Xu (by kernel_rfl) (by kernel_rfl) rfl (by kernel_rfl) ?_;refine TQ.move Za ?_;refine TQ.nilCheck Za ?_;refine Yn Za Z0r ?_;refine Um a7 Zb Uh ?_;refine TQ.move Za ?_;refine Kf a2 g6 Zb Wg Wd ?_;refine Nl a2 g6 Za Wn ?_;refine Kb Zl ?_;refine TQ.move Za ?_;refine Uj (t:=24) (b':=false) rfl (decide_eq_false g7) ?_;refine TQ.move Za ?_;refine TQ.nilCheck Za ?_;refine Yn Za Z0r ?_;refine Um a7 Zb Uh ?_;refine TQ.move Za ?_;refine Kf a2 g8 Zb Wg Wd ?_;refine Nl a2 g8 Za Wn ?_;refine Yn Za Np ?_;refine Yw Za Wn Zh rfl ?_;refine TQ.tail [18,19] Yp ?_;refine Zr Zl ?_;refine Yl Zb ?_;refine dN ?_;refine Zo (aT [0,9,10,11,25,26,27,28,29,30,31,32,33,34,35] rfl) ?_;rcases Zq H with ⟨g9,H⟩ | ⟨g9,H⟩
    ·refine Yx rfl g9 ?_;refine sR Y1 rfl ?_;refine aN Za ?_;refine Zo (aT [2] rfl) ?_;refine T.ret ?_;refine Xc ?_;refine Yc ?_;have H:=Wi H d3▸d5;refine Yc ?_;refine Xc ?_;refine Yc ?_;obtain rfl:=ret1 H;exact Ye Za (Res.tmp rfl) Zf ⟨rfl,rfl⟩
    ·refine Yu rfl g9 ?_;refine T.skip ?_;refine Yv ?_;refine Yb ?_;obtain ⟨e3,H⟩:=Zx H;refine rG Y2 rfl ?_;refine Xt e3 Zb ?_;refine Zc Za ?_;refine Zj ?_;have H:=Wu H d3;exact Z07 e1 (x1+1) H (Nat.lt_succ_self _) (aF rfl) Zf
  ·refine Yu rfl g2 ?_;refine T.exit ?_;refine Xk ?_;have H:=Wi H d3▸d5;refine Xk ?_;refine Vr ?_;exact Xa () H Z00 Zf
 ·rintro d4 H;unfold Z89 at H;refine sR Y1 rfl ?_;refine aN Za ?_;refine T.ret ?_;obtain rfl:=ret1 H;exact Ye Za (Res.tmp rfl) Zf ⟨rfl,rfl⟩
theorem Zk2 {a0:CheckAnswer}{b9 a2 a3 a8 a6 b6 a5 b8 c4:Nat}{a4 a7 a9 b7:Option Addr}(w:World)(hin:Inv w (([(eC b9 #[iV a0.Net.N,iV a0.Net.S,iV a0.Net.T,.slice a4 a2 a3,.slice a7 a8 a6,.slice a9 b6 a5,.slice b7 b8 c4] 132)]:Heap).filterMap Prod.fst) w [(eC b9 #[iV a0.Net.N,iV a0.Net.S,iV a0.Net.T,.slice a4 a2 a3,.slice a7 a8 a6,.slice a9 b6 a5,.slice b7 b8 c4] 132)])(d0:RS w (([(eC b9 #[iV a0.Net.N,iV a0.Net.S,iV a0.Net.T,.slice a4 a2 a3,.slice a7 a8 a6,.slice a9 b6 a5,.slice b7 b8 c4] 132)]:Heap).filterMap Prod.fst) Zu 3 a4 a2 a3 a0.Net.Arcs)(d1:RS w (([(eC b9 #[iV a0.Net.N,iV a0.Net.S,iV a0.Net.T,.slice a4 a2 a3,.slice a7 a8 a6,.slice a9 b6 a5,.slice b7 b8 c4] 132)]:Heap).filterMap Prod.fst) iC 1 a7 a8 a6 a0.f)(e8:RS w (([(eC b9 #[iV a0.Net.N,iV a0.Net.S,iV a0.Net.T,.slice a4 a2 a3,.slice a7 a8 a6,.slice a9 b6 a5,.slice b7 b8 c4] 132)]:Heap).filterMap Prod.fst) boolC 1 a9 b6 a5 a0.s)(e9:RS w (([(eC b9 #[iV a0.Net.N,iV a0.Net.S,iV a0.Net.T,.slice a4 a2 a3,.slice a7 a8 a6,.slice a9 b6 a5,.slice b7 b8 c4] 132)]:Heap).filterMap Prod.fst) iC 1 b7 b8 c4 a0.out){r0:Bool}{o0:CheckAnswer}(H:Z9u a0=some (r0,o0)):Fnc Tryz.prog 111 #[pV b9] w (([(eC b9 #[iV a0.Net.N,iV a0.Net.S,iV a0.Net.T,.slice a4 a2 a3,.slice a7 a8 a6,.slice a9 b6 a5,.slice b7 b8 c4] 132)]:Heap).filterMap Prod.fst) (fun v N=>∃ (d5:Option Nat) (e1 e2:Nat) (f0:List Value),v=.bool r0∧N=[(eC b9 #[iV a0.Net.N,iV a0.Net.S,iV a0.Net.T,.slice a4 a2 a3,.slice a7 a8 a6,.slice a9 b6 a5,sV d5 e1 e2] 132),(eI d5 o0.out f0 2)]∧o0.out.length=e1∧e1≤e2∧f0.length=(e2-e1)*1∧(d5=none→e2=0)):=by
 unfold Z9u at H;refine Fnc.enter (vs:=[pV b9]) Tryz.func111 rfl rfl hin ?_;refine sR Y1 rfl ?_;refine aN Za ?_;obtain ⟨g2,H⟩:=Zx H;refine sR Y10 rfl ?_;refine Zc Za ?_;refine Zc Za ?_;refine TO.nilCheck Za ?_;refine Zs Za Jn ?_;refine Zs Za Vq ?_;refine Zt Za Yf Zh rfl ?_;refine Z2s g2 Zb Wg Wd Z2d Z93 rfl ?_;intro b3;refine TO.nilCheck Za ?_;refine Zs Za Z0v ?_;refine Xp (cs':=[iV a0.Net.N,iV a0.Net.S,iV a0.Net.T,.slice a4 a2 a3,.slice a7 a8 a6,.slice a9 b6 a5,nV b3 a0.Net.N.toNat a0.Net.N.toNat]) Za Zn Z01 Zk ?_;refine dN ?_;refine Zo (aT [0] rfl) ?_;refine Zi ?_;refine sR Y7 rfl ?_;refine Zc Za ?_;refine TO.nilCheck Za ?_;refine Zs Za Jn ?_;refine Zs Za Wz ?_;refine Zt Za Vk Zh rfl ?_;refine Yt (xs:=a0.Net.Arcs) d0.len Zb Xv ?_;refine Zc Za ?_;refine dN ?_;refine Wf (fun (c9:List Int)=>Za8 a0 c9=some (r0,o0)∧c9.length=a0.Net.N.toNat) (fun (c9:List Int)=>[(0,pV b9)]) (fun (c9:List Int)=>[(eC b9 #[iV a0.Net.N,iV a0.Net.S,iV a0.Net.T,.slice a4 a2 a3,.slice a7 a8 a6,.slice a9 b6 a5,nV b3 a0.Net.N.toNat a0.Net.N.toNat] 132),(eI (some b3) c9 ([]) 2)]) ?_ ?_
 ·
  refine T.block ?_;obtain ⟨g1,g3,g4⟩:=Zm H;refine Rt (fun (d6:Nat) (d2:List Int) (x7:Int)=>Xd (fun s=>Z6y a0 s.1 s.2) d6 (d2,x7)=some g1∧d2.length=a0.Net.N.toNat) (fun (d6:Nat) (d2:List Int) (x7:Int)=>[(0,pV b9),(20,.slice a4 a2 a3),(21,iV (a0.Net.Arcs.length:Int)),(22,iV x7)]) (fun (d6:Nat) (d2:List Int) (x7:Int)=>[(eC b9 #[iV a0.Net.N,iV a0.Net.S,iV a0.Net.T,.slice a4 a2 a3,.slice a7 a8 a6,.slice a9 b6 a5,nV b3 a0.Net.N.toNat a0.Net.N.toNat] 132),(eI (some b3) d2 ([]) 2)]) (fun (d6:Nat) (d2:List Int) (x7:Int)=>d6) Xf (List.replicate a0.Net.N.toNat (0:Int)) 0 ⟨g3,List.length_replicate⟩ (aF rfl) (Zd Ze (Zd Ze Zf)) ?_;rintro d6 d2 x7 ⟨H,d7⟩;obtain ⟨g5,g6,rfl,H,f2⟩:=Ub H;have H:Z6y a0 d2 x7=some g6:=H;unfold Z6y at H;refine sR Y1 rfl ?_;refine Zr Zl ?_;refine dS ?_;rcases Zq H with ⟨g8,H⟩ | ⟨g8,H⟩
  ·refine Yx rfl g8 ?_;refine T.skip ?_;refine Yb ?_;refine Zi ?_;refine T.block ?_;obtain ⟨g9,H⟩:=Zx H;refine sR Y6 rfl ?_;refine Zc Za ?_;refine Xy d0 g9 Zb Xv Wt ?_;refine Gi (cs:=[iV ((a0.Net.Arcs.getD x7.toNat default).fr),iV ((a0.Net.Arcs.getD x7.toNat default).to),iV ((a0.Net.Arcs.getD x7.toNat default).cap)]) default d0 g9 Zb Jf ?_;refine Wb Zk Jr ?_;intro h8;refine Zy Za ?_;refine Xx Za Ze Wt Zk ?_;refine dN ?_;refine Zi ?_;obtain ⟨f3,f4,g7,f5,H⟩:=gd4 H;refine Ws 15 [0,1,2,3,4,5,6,7,8,9,10,11,12,13,14] rfl Xu (by kernel_rfl) (by kernel_rfl) rfl (by kernel_rfl) ?_;refine TQ.move Za ?_;refine TQ.nilCheck Za ?_;refine Yn Za Z0v ?_;refine Yw Za Uh Yk rfl ?_;refine Yn Za Gh ?_;refine Yw Za Yf Zh rfl ?_;refine Z1u d7 f3 Zb Wg Wd ?_;refine Z25 f3 Za Wn Wj ?_;refine TQ.move Za ?_;refine TQ.nilCheck Za ?_;refine Yn Za Z0r ?_;refine Yw Za Uh Yk rfl ?_;refine TQ.move Za ?_;refine Kf d1 f4 Zb Wg Wd ?_;refine Nl d1 f4 Za Wn ?_;refine TQ.tail [15,16,17] Yp ?_;refine Xt g7 Zb ?_;refine Jm d7 f5 Zb Wg Wd ?_;refine Z08 f5 Za Yo Wd ?_;refine dN ?_;refine Zo (aT [0,20,21,22,4,3] rfl) ?_;obtain ⟨f6,f7,h0,f8,H⟩:=gd4 H;refine Ws 15 [0,1,2,3,4,5,6,7,8,9,10,11,12,13,14] rfl Xu (by kernel_rfl) (by kernel_rfl) rfl (by kernel_rfl) ?_;refine TQ.move Za ?_;refine TQ.nilCheck Za ?_;refine Yn Za Z0v ?_;refine Yw Za Uh Wj rfl ?_;refine Yn Za Nj ?_;refine Yw Za Yf Yk rfl ?_;refine Z1u (List.length_set.trans d7) f6 Zb Wg Wd ?_;refine Z25 f6 Za Wn Zh ?_;refine TQ.move Za ?_;refine TQ.nilCheck Za ?_;refine Yn Za Z0r ?_;refine Yw Za Uh Wj rfl ?_;refine TQ.move Za ?_;refine Kf d1 f7 Zb Wg Wd ?_;refine Nl d1 f7 Za Wn ?_;refine TQ.tail [15,16,17] Yp ?_;refine Lk h0 Zb ?_;refine Jm (List.length_set.trans d7) f8 Zb Wg Wd ?_;refine Z08 f8 Za Ze Wd ?_;refine Zj ?_;refine Yv ?_;refine Yb ?_;refine Zo (aT [0,20,21,22] rfl) ?_;obtain ⟨h1,H⟩:=Zx H;refine rG Y2 rfl ?_;refine Xt h1 Zb ?_;refine Zc Za ?_;refine Zj ?_;have H:=Wu H f2;exact La g5 ((d2.set ((a0.Net.Arcs.getD x7.toNat default).fr).toNat ((d2.getD ((a0.Net.Arcs.getD x7.toNat default).fr).toNat 0)+(a0.f.getD x7.toNat 0))).set ((a0.Net.Arcs.getD x7.toNat default).to).toNat (((d2.set ((a0.Net.Arcs.getD x7.toNat default).fr).toNat ((d2.getD ((a0.Net.Arcs.getD x7.toNat default).fr).toNat 0)+(a0.f.getD x7.toNat 0))).getD ((a0.Net.Arcs.getD x7.toNat default).to).toNat 0) - (a0.f.getD x7.toNat 0))) (x7+1) ⟨H,(List.length_set.trans (List.length_set.trans d7))⟩ (Nat.lt_succ_self _) (aF rfl) (Zd Yo (Zd Ze Zf))
  ·refine Yu rfl g8 ?_;refine T.exit ?_;refine Xk ?_;have H:=Wi H f2▸g4;refine Xk ?_;refine Vr ?_;exact Xa d2 ⟨H,d7⟩ (aF rfl) (Zd Ze (Zd Ze Zf))
 ·
  rintro c9 ⟨H,d4⟩;unfold Za8 at H;refine Zi ?_;refine sR Y6 rfl ?_;refine Zc Za ?_;refine TO.nilCheck Za ?_;refine Zs Za Z0v ?_;refine Zt Za Uh Zh rfl ?_;refine Yt (xs:=c9) d4 Zb Wg ?_;refine Zc Za ?_;refine dN ?_;refine Wf (fun (u32:Unit)=>Z8n a0 c9=some (r0,o0)) (fun (u32:Unit)=>[]) (fun (u32:Unit)=>[(eC b9 #[iV a0.Net.N,iV a0.Net.S,iV a0.Net.T,.slice a4 a2 a3,.slice a7 a8 a6,.slice a9 b6 a5,nV b3 a0.Net.N.toNat a0.Net.N.toNat] 132),(eI (some b3) c9 ([]) 2)]) ?_ ?_
  ·
   refine T.block ?_;obtain ⟨h2,h3,f9⟩:=Zm H;refine Z2r (fun (d8:Nat) (d3:Int)=>Xd (fun s=>Z6d a0 c9 s) d8 d3=some h2) (fun (d8:Nat) (d3:Int)=>[(0,pV b9),(65,nV b3 a0.Net.N.toNat a0.Net.N.toNat),(66,iV (c9.length:Int)),(67,iV d3)]) (fun (d8:Nat) (d3:Int)=>[(eC b9 #[iV a0.Net.N,iV a0.Net.S,iV a0.Net.T,.slice a4 a2 a3,.slice a7 a8 a6,.slice a9 b6 a5,nV b3 a0.Net.N.toNat a0.Net.N.toNat] 132),(eI (some b3) c9 ([]) 2)]) (fun (d8:Nat) (d3:Int)=>d8) Xf 0 h3 (aF rfl) (Zd Ze (Zd Ze Zf)) ?_;rintro d8 d3 H;obtain ⟨e4,h4,rfl,H,d9⟩:=Ub H;have H:Z6d a0 c9 d3=some h4:=H;unfold Z6d at H;refine sR Y1 rfl ?_;refine Zr Zl ?_;refine dS ?_;rcases Zq H with ⟨e5,H⟩ | ⟨e5,H⟩
   ·
    refine Yx rfl e5 ?_;refine T.skip ?_;refine Yb ?_;refine Zi ?_;refine T.block ?_;obtain ⟨g0,H⟩:=Zx H;refine sR Y5 rfl ?_;refine Zc Za ?_;refine Jm d4 g0 Zb Wg Wd ?_;refine Z1d g0 Za Wn Yk ?_;refine Zy Za ?_;refine aN Za ?_;refine Zi ?_;rcases Zq H with ⟨e3,H⟩ | ⟨e3,H⟩
    ·
     rcases Zq H with ⟨e6,H⟩ | ⟨e6,H⟩
     ·
      refine rG Y20 rfl ?_;refine Zc Za ?_;refine Zr Zl ?_;refine Zc Za ?_;refine Ya (t:=74) (b':=true) rfl (decide_eq_true e3) ?_;refine Zc Za ?_;refine Zc Za ?_;refine TO.nilCheck Za ?_;refine Zs Za Jn ?_;refine Zs Za Ku ?_;refine Zt Za Yf Zh rfl ?_;refine Zr Zl ?_;refine Yi Zb ?_;refine Zc Za ?_;refine Ya (t:=83) (b':=true) rfl (decide_eq_true e6) ?_;refine Zc Za ?_;refine Zc Za ?_;refine TO.nilCheck Za ?_;refine Zs Za Jn ?_;refine Zs Za Gb ?_;refine Zt Za Yf Zh rfl ?_;refine Zr Zl ?_;refine Yi Zb ?_;refine dN ?_;refine Zo (aT [0,65,66,67,75,76,77,78,79,80,81,84,85,86,87,88,89,90,91] rfl) ?_;rcases Zq H with ⟨e7,H⟩ | ⟨e7,H⟩
      ·refine Yx rfl e7 ?_;refine sR Y1 rfl ?_;refine aN Za ?_;refine Zo (aT [2] rfl) ?_;refine T.ret ?_;refine Xc ?_;refine Yc ?_;have H:=Wi H d9▸f9;refine Yc ?_;refine Xc ?_;refine Yc ?_;obtain ⟨rfl,rfl⟩:=ret2 H;exact Ye Za (Res.tmp rfl) (Zd Ze (Zd Ze Zf)) ⟨(some b3),a0.Net.N.toNat,a0.Net.N.toNat,([]),rfl,rfl,d4,(Nat.le_refl _),(Xg _ _),Wa⟩
      ·refine Yu rfl e7 ?_;refine T.skip ?_;refine Yv ?_;refine Yb ?_;obtain ⟨h5,H⟩:=Zx H;refine rG Y2 rfl ?_;refine Xt h5 Zb ?_;refine Zc Za ?_;refine Zj ?_;have H:=Wu H d9;exact Z07 e4 (d3+1) H (Nat.lt_succ_self _) (aF rfl) (Zd Ze (Zd Ze Zf))
     ·refine rG Y20 rfl ?_;refine Zc Za ?_;refine Zr Zl ?_;refine Zc Za ?_;refine Ya (t:=74) (b':=true) rfl (decide_eq_true e3) ?_;refine Zc Za ?_;refine Zc Za ?_;refine TO.nilCheck Za ?_;refine Zs Za Jn ?_;refine Zs Za Ku ?_;refine Zt Za Yf Zh rfl ?_;refine Zr Zl ?_;refine Yi Zb ?_;refine Zc Za ?_;refine Ya (t:=83) (b':=false) rfl (decide_eq_false e6) ?_;refine Zg Za ?_;refine Zg Za ?_;refine Zg Za ?_;refine Zg Za ?_;refine Zg Za ?_;refine Zg Za ?_;refine Zg Za ?_;refine Yl Zb ?_;refine dN ?_;refine Zo (aT [0,65,66,67,75,76,77,78,79,80,81,84,85,86,87,88,89,90,91] rfl) ?_;refine Xl rfl rfl ?_;refine T.skip ?_;refine Yv ?_;refine Yb ?_;obtain ⟨h6,H⟩:=Zx H;refine rG Y2 rfl ?_;refine Xt h6 Zb ?_;refine Zc Za ?_;refine Zj ?_;have H:=Wu H d9;exact Z07 e4 (d3+1) H (Nat.lt_succ_self _) (aF rfl) (Zd Ze (Zd Ze Zf))
    ·refine rG Y20 rfl ?_;refine Zc Za ?_;refine Zr Zl ?_;refine Zc Za ?_;refine Ya (t:=74) (b':=false) rfl (decide_eq_false e3) ?_;refine Zg Za ?_;refine Zg Za ?_;refine Zg Za ?_;refine Zg Za ?_;refine Zg Za ?_;refine Zg Za ?_;refine Zg Za ?_;refine Yl Zb ?_;refine Zc Za ?_;refine Zg Za ?_;refine Zg Za ?_;refine Zg Za ?_;refine Zg Za ?_;refine Zg Za ?_;refine Zg Za ?_;refine Zg Za ?_;refine Yl Zb ?_;refine dN ?_;refine Zo (aT [0,65,66,67,75,76,77,78,79,80,81,84,85,86,87,88,89,90,91] rfl) ?_;refine Xl rfl rfl ?_;refine T.skip ?_;refine Yv ?_;refine Yb ?_;obtain ⟨h7,H⟩:=Zx H;refine rG Y2 rfl ?_;refine Xt h7 Zb ?_;refine Zc Za ?_;refine Zj ?_;have H:=Wu H d9;exact Z07 e4 (d3+1) H (Nat.lt_succ_self _) (aF rfl) (Zd Ze (Zd Ze Zf))
   ·refine Yu rfl e5 ?_;refine T.exit ?_;refine Xk ?_;have H:=Wi H d9▸f9;refine Xk ?_;refine Vr ?_;exact Xa () H Z00 (Zd Ze (Zd Ze Zf))
  ·rintro u32 H;unfold Z8n at H;refine sR Y1 rfl ?_;refine aN Za ?_;refine T.ret ?_;obtain ⟨rfl,rfl⟩:=ret2 H;exact Ye Za (Res.tmp rfl) (Zd Ze (Zd Ze Zf)) ⟨(some b3),a0.Net.N.toNat,a0.Net.N.toNat,([]),rfl,rfl,d4,(Nat.le_refl _),(Xg _ _),Wa⟩
theorem Zj3 {a0:CheckAnswer}{d0 a4 a5 b8 a9 c9 a8 b6 b9:Nat}{a6 b7 c4 a7:Option Addr}(w:World)(d1:RS w [] Zu 3 a6 a4 a5 a0.Net.Arcs)(d3:RS w [] iC 1 b7 b8 a9 a0.f)(a2:RS w [] boolC 1 c4 c9 a8 a0.s)(d2:RS w [] iC 1 a7 b6 b9 a0.out)(a3:HB w [] d0 [iV a0.Net.N,iV a0.Net.S,iV a0.Net.T,.slice a6 a4 a5,.slice b7 b8 a9,.slice c4 c9 a8,.slice a7 b6 b9]){r0:Bool}(H:Z8t a0=some r0):Fnc Tryz.prog 112 #[pV d0] w [] (fun v N=>v=.bool r0∧N=[]):=by
 unfold Z8t at H;refine Fnc.enter (vs:=[pV d0]) Tryz.func112 rfl rfl (Inv.refl w) ?_;refine sR Y1 rfl ?_;refine aN Za ?_;refine Zi ?_;obtain ⟨g1,H⟩:=Zx H;rcases Zq H with ⟨g2,H⟩ | ⟨g2,H⟩
 ·obtain ⟨g3,H⟩:=Zx H;refine Ws 21 [0,1,2,3,4,5,6,7,8,9,10,11,12,13,14,15,16,17,18,19,20] rfl Xu (by kernel_rfl) (by kernel_rfl) rfl (by kernel_rfl) ?_;refine TQ.move Za ?_;refine TQ.nilCheck Za ?_;refine Yn Za Z0o ?_;refine Um a3 Zb Gd ?_;refine TQ.move Za ?_;refine TQ.nilCheck Za ?_;refine Yn Za Jn ?_;refine Yn Za Ku ?_;refine Um a3 Zb Yf ?_;refine Kf a2 g1 Zb Jv Kc ?_;refine Z4w a2 g1 Za Jc ?_;refine TQ.move Za ?_;refine Uj (t:=14) (b':=true) rfl g2 ?_;refine TQ.move Za ?_;refine TQ.nilCheck Za ?_;refine Yn Za Z0o ?_;refine Um a3 Zb Gd ?_;refine TQ.move Za ?_;refine TQ.nilCheck Za ?_;refine Yn Za Jn ?_;refine Yn Za Gb ?_;refine Um a3 Zb Yf ?_;refine TQ.tail [21,22,23,24,25] Yp ?_;refine Xy a2 g3 Zb Jv Kc ?_;refine Z94 a2 g3 Za Jc ?_;refine TO.not Za ?_;refine Yi Zb ?_;refine aN Za ?_;refine Zo (aT [2] rfl) ?_;refine T.ret ?_;obtain rfl:=ret1 H;exact Ye Za (Res.tmp rfl) Zf ⟨rfl,rfl⟩
 ·refine Ws 21 [0,1,2,3,4,5,6,7,8,9,10,11,12,13,14,15,16,17,18,19,20] rfl Xu (by kernel_rfl) (by kernel_rfl) rfl (by kernel_rfl) ?_;refine TQ.move Za ?_;refine TQ.nilCheck Za ?_;refine Yn Za Z0o ?_;refine Um a3 Zb Gd ?_;refine TQ.move Za ?_;refine TQ.nilCheck Za ?_;refine Yn Za Jn ?_;refine Yn Za Ku ?_;refine Um a3 Zb Yf ?_;refine Kf a2 g1 Zb Jv Kc ?_;refine Z4w a2 g1 Za Jc ?_;refine TQ.move Za ?_;refine Uj (t:=14) (b':=false) rfl (Bool.eq_false_iff.2 g2) ?_;refine Yh Za ?_;refine Yh Za ?_;refine Yh Za ?_;refine Yh Za ?_;refine Yh Za ?_;refine Yh Za ?_;refine Yh Za ?_;refine Yh Za ?_;refine Yh Za ?_;refine TQ.tail [21,22,23,24,25] Yp ?_;refine Zg Za ?_;refine Zg Za ?_;refine Zg Za ?_;refine Yl Zb ?_;refine aN Za ?_;refine Zo (aT [2] rfl) ?_;refine T.ret ?_;obtain rfl:=ret1 H;exact Ye Za (Res.tmp rfl) Zf ⟨rfl,rfl⟩
theorem Zgp {a0:CheckAnswer}{d2 a3 a4 d1 b9 d5 b8 c9 d3:Nat}{a5 d0 d4 b7:Option Addr}(w:World)(a9:RS w [] Zu 3 a5 a3 a4 a0.Net.Arcs)(e1:RS w [] iC 1 d0 d1 b9 a0.f)(a6:RS w [] boolC 1 d4 d5 b8 a0.s)(c4:RS w [] iC 1 b7 c9 d3 a0.out)(a7:HB w [] d2 [iV a0.Net.N,iV a0.Net.S,iV a0.Net.T,.slice a5 a3 a4,.slice d0 d1 b9,.slice d4 d5 b8,.slice b7 c9 d3]){r0:Bool}(H:Z9b a0=some r0):Fnc Tryz.prog 113 #[pV d2] w [] (fun v N=>v=.bool r0∧N=[]):=by
 unfold Z9b at H;refine Fnc.enter (vs:=[pV d2]) Tryz.func113 rfl rfl (Inv.refl w) ?_;refine sR Y1 rfl ?_;refine aN Za ?_;refine Zi ?_;obtain ⟨g1,H⟩:=Zx H;refine Ws 9 [0,1,2,3,4,5,6,7,8] rfl Xu (by kernel_rfl) (by kernel_rfl) rfl (by kernel_rfl) ?_;refine TQ.move Za ?_;refine TQ.nilCheck Za ?_;refine Yn Za Z0v ?_;refine Um a7 Zb Uh ?_;refine TQ.move Za ?_;refine TQ.nilCheck Za ?_;refine Yn Za Jn ?_;refine Yn Za Ku ?_;refine Um a7 Zb Yf ?_;refine TQ.tail [9,10,11] Yp ?_;refine Xy c4 g1 Zb Wg Wd ?_;refine Nh c4 g1 Za Wn ?_;refine aN Za ?_;refine Zo (aT [0,3] rfl) ?_;refine Zi ?_;refine sR Y7 rfl ?_;refine Zc Za ?_;refine TO.nilCheck Za ?_;refine Zs Za Jn ?_;refine Zs Za Wz ?_;refine Vz a7 Zb Vk ?_;refine Yt (xs:=a0.Net.Arcs) a9.len Zb Xv ?_;refine Zc Za ?_;refine dN ?_;refine Wf (fun (a8:Int)=>Zae a8=some r0) (fun (a8:Int)=>[(3,iV a8)]) (fun (a8:Int)=>[]) ?_ ?_
 ·
  refine T.block ?_;obtain ⟨e5,e6,e7⟩:=Zm H;refine Rt (fun (d6:Nat) (a2 x3:Int)=>Xd (fun s=>Z65 a0 s.1 s.2) d6 (a2,x3)=some e5) (fun (d6:Nat) (a2 x3:Int)=>[(0,pV d2),(3,iV a2),(21,.slice a5 a3 a4),(22,iV (a0.Net.Arcs.length:Int)),(23,iV x3)]) (fun (d6:Nat) (a2 x3:Int)=>[]) (fun (d6:Nat) (a2 x3:Int)=>d6) Xf (a0.out.getD a0.Net.S.toNat 0) 0 e6 (aF rfl) Zf ?_;rintro d6 a2 x3 H;obtain ⟨e2,e3,rfl,H,d8⟩:=Ub H;have H:Z65 a0 a2 x3=some e3:=H;unfold Z65 at H;refine sR Y1 rfl ?_;refine Zr Zl ?_;refine dS ?_;rcases Zq H with ⟨g4,H⟩ | ⟨g4,H⟩
  ·
   refine Yx rfl g4 ?_;refine T.skip ?_;refine Yb ?_;refine Zi ?_;refine T.block ?_;obtain ⟨g5,H⟩:=Zx H;refine sR Y4 rfl ?_;refine Xy a9 g5 Zb Xv Wt ?_;refine Gi (cs:=[iV ((a0.Net.Arcs.getD x3.toNat default).fr),iV ((a0.Net.Arcs.getD x3.toNat default).to),iV ((a0.Net.Arcs.getD x3.toNat default).cap)]) default a9 g5 Zb Jf ?_;refine Wb Zk Jr ?_;intro b6;refine Xx Za Ze Wt Zk ?_;refine dS ?_;refine Wf (fun (d7:Bool)=>Z4o a0 a2 x3 d7=some e3) (fun (d7:Bool)=>[(0,pV d2),(3,iV a2),(5,pV b6),(21,.slice a5 a3 a4),(22,iV (a0.Net.Arcs.length:Int)),(23,iV x3),(45,.bool d7)]) (fun (d7:Bool)=>[(eC b6 #[iV ((a0.Net.Arcs.getD x3.toNat default).fr),iV ((a0.Net.Arcs.getD x3.toNat default).to),iV ((a0.Net.Arcs.getD x3.toNat default).cap)] 64)]) ?_ ?_
   ·
    obtain ⟨g8,H⟩:=Zx H;rcases Zq H with ⟨g9,H⟩ | ⟨g9,H⟩
    ·obtain ⟨e4,H⟩:=Zx H;refine Ws 15 [0,1,2,3,4,5,6,7,8,9,10,11,12,13,14] rfl Xu (by kernel_rfl) (by kernel_rfl) rfl (by kernel_rfl) ?_;refine TQ.move Za ?_;refine TQ.nilCheck Za ?_;refine Yn Za Z0o ?_;refine Um a7 Zb Gd ?_;refine Yn Za Gh ?_;refine Yw Za Yf Zh rfl ?_;refine Kf a6 g8 Zb Jv Kc ?_;refine Z4w a6 g8 Za Jc ?_;refine TQ.move Za ?_;refine Uj (t:=35) (b':=true) rfl g9 ?_;refine TQ.move Za ?_;refine TQ.nilCheck Za ?_;refine Yn Za Z0o ?_;refine Um a7 Zb Gd ?_;refine Yn Za Nj ?_;refine Yw Za Yf Zh rfl ?_;refine TQ.tail [15,16,17,18] Yp ?_;refine Xy a6 e4 Zb Jv Kc ?_;refine Z94 a6 e4 Za Jc ?_;refine TO.not Za ?_;refine Yi Zb ?_;refine Zj ?_;exact Xa (!(a0.s.getD ((a0.Net.Arcs.getD x3.toNat default).to).toNat false)) H (aF rfl) (Zd Ze Zf)
    ·refine Ws 15 [0,1,2,3,4,5,6,7,8,9,10,11,12,13,14] rfl Xu (by kernel_rfl) (by kernel_rfl) rfl (by kernel_rfl) ?_;refine TQ.move Za ?_;refine TQ.nilCheck Za ?_;refine Yn Za Z0o ?_;refine Um a7 Zb Gd ?_;refine Yn Za Gh ?_;refine Yw Za Yf Zh rfl ?_;refine Kf a6 g8 Zb Jv Kc ?_;refine Z4w a6 g8 Za Jc ?_;refine TQ.move Za ?_;refine Uj (t:=35) (b':=false) rfl (Bool.eq_false_iff.2 g9) ?_;refine Yh Za ?_;refine Yh Za ?_;refine Yh Za ?_;refine Yh Za ?_;refine Yh Za ?_;refine Yh Za ?_;refine TQ.tail [15,16,17,18] Yp ?_;refine Zg Za ?_;refine Zg Za ?_;refine Zg Za ?_;refine Yl Zb ?_;refine Zj ?_;exact Xa false H (aF rfl) (Zd Ze Zf)
   ·
    rintro d7 H;unfold Z4o at H;rcases Zq H with ⟨d9,H⟩ | ⟨d9,H⟩
    ·refine Yz rfl d9 ?_;obtain ⟨e8,H⟩:=Zx H;refine rG Y5 rfl ?_;refine Zc Za ?_;refine Zs Za Np ?_;refine Zt Za Wn Zh rfl ?_;refine Lk e8 Zb ?_;refine Zy Za ?_;refine Zj ?_;refine Yv ?_;refine Yb ?_;obtain ⟨e9,H⟩:=Zx H;refine rG Y2 rfl ?_;refine Xt e9 Zb ?_;refine Zc Za ?_;refine Zj ?_;have H:=Wu H d8;exact La e2 (a2 - ((a0.Net.Arcs.getD x3.toNat default).cap)) (x3+1) H (Nat.lt_succ_self _) (aF rfl) Zf
    ·refine Xl rfl (Bool.eq_false_iff.2 d9) ?_;refine T.skip ?_;refine Yv ?_;refine Yb ?_;obtain ⟨f0,H⟩:=Zx H;refine rG Y2 rfl ?_;refine Xt f0 Zb ?_;refine Zc Za ?_;refine Zj ?_;have H:=Wu H d8;exact La e2 a2 (x3+1) H (Nat.lt_succ_self _) (aF rfl) Zf
  ·refine Yu rfl g4 ?_;refine T.exit ?_;refine Xk ?_;have H:=Wi H d8▸e7;refine Xk ?_;refine Vr ?_;exact Xa a2 H (aF rfl) Zf
 ·rintro a8 H;unfold Zae at H;refine sR Y3 rfl ?_;refine Zc Za ?_;refine Zr Zl ?_;refine aN Za ?_;refine T.ret ?_;obtain rfl:=ret1 H;exact Ye Za (Res.tmp rfl) Zf ⟨rfl,rfl⟩
theorem Zcw {a0:CheckAnswer}{d5 a2 a3 b9 a9 c9 a8 a6 a7:Nat}{a4 b7 c4:Option Addr}{a5:Option Nat}{d0:List Value}(w:World)(hin:Inv w (([(eC d5 #[iV a0.Net.N,iV a0.Net.S,iV a0.Net.T,.slice a4 a2 a3,.slice b7 b9 a9,.slice c4 c9 a8,sV a5 a6 a7] 132),(eI a5 a0.out d0 2)]:Heap).filterMap Prod.fst) w [(eC d5 #[iV a0.Net.N,iV a0.Net.S,iV a0.Net.T,.slice a4 a2 a3,.slice b7 b9 a9,.slice c4 c9 a8,sV a5 a6 a7] 132),(eI a5 a0.out d0 2)])(d1:RS w (([(eC d5 #[iV a0.Net.N,iV a0.Net.S,iV a0.Net.T,.slice a4 a2 a3,.slice b7 b9 a9,.slice c4 c9 a8,sV a5 a6 a7] 132),(eI a5 a0.out d0 2)]:Heap).filterMap Prod.fst) Zu 3 a4 a2 a3 a0.Net.Arcs)(d8:RS w (([(eC d5 #[iV a0.Net.N,iV a0.Net.S,iV a0.Net.T,.slice a4 a2 a3,.slice b7 b9 a9,.slice c4 c9 a8,sV a5 a6 a7] 132),(eI a5 a0.out d0 2)]:Heap).filterMap Prod.fst) iC 1 b7 b9 a9 a0.f)(d6:RS w (([(eC d5 #[iV a0.Net.N,iV a0.Net.S,iV a0.Net.T,.slice a4 a2 a3,.slice b7 b9 a9,.slice c4 c9 a8,sV a5 a6 a7] 132),(eI a5 a0.out d0 2)]:Heap).filterMap Prod.fst) boolC 1 c4 c9 a8 a0.s)(d2:a0.out.length=a6)(d4:a6≤a7)(d7:d0.length=(a7-a6)*1)(d3:(a5=none→a7=0)){r0:Int}{o0:CheckAnswer}(H:Z6a a0=some (r0,o0)):Fnc Tryz.prog 65 #[pV d5] w (([(eC d5 #[iV a0.Net.N,iV a0.Net.S,iV a0.Net.T,.slice a4 a2 a3,.slice b7 b9 a9,.slice c4 c9 a8,sV a5 a6 a7] 132),(eI a5 a0.out d0 2)]:Heap).filterMap Prod.fst) (fun v N=>∃ (e9:Option Nat) (f2 f3:Nat) (g6:List Value),v=iV r0∧N=[(eC d5 #[iV a0.Net.N,iV a0.Net.S,iV a0.Net.T,.slice a4 a2 a3,.slice b7 b9 a9,.slice c4 c9 a8,sV e9 f2 f3] 132),(eI e9 o0.out g6 2)]∧o0.out.length=f2∧f2≤f3∧g6.length=(f3-f2)*1∧(e9=none→f3=0)):=by
 unfold Z6a at H;refine Fnc.enter (vs:=[pV d5]) Tryz.func65 rfl rfl hin ?_;refine sR Y1 rfl ?_;refine aN Za ?_;refine Zi ?_;refine Zi ?_;obtain ⟨r3,e4,H⟩:=Zm H;refine rG Y6 rfl ?_;refine Zc Za ?_;refine TO.nilCheck Za ?_;refine Zs Za Jn ?_;refine Z0p (vs:=[iV a0.Net.N,iV a0.Net.S,iV a0.Net.T,.slice a4 a2 a3]) Za Yy Zh Yp ?_;refine Zw Ny Za (fun wc hwc=>Lh (n0:=a0.Net) wc (d1.mono hwc) e4) ?_;rintro _ _ ⟨rfl,rfl⟩;refine aN Za ?_;refine sR Y2 rfl ?_;refine Zc Za ?_;refine Zr Zl ?_;refine dN ?_;rcases Zq H with ⟨g5,H⟩ | ⟨g5,H⟩
 ·refine Yx rfl g5 ?_;refine sR Y2 rfl ?_;refine Zc Za ?_;refine aN Za ?_;refine Zo (aT [2] rfl) ?_;refine T.ret ?_;refine Yc ?_;obtain ⟨rfl,rfl⟩:=ret2 H;exact Ye Za (Res.tmp rfl) (Zd Ze (Zd Ze Zf)) ⟨a5,a6,a7,d0,rfl,rfl,d2,d4,d7,d3⟩
 ·
  refine Yu rfl g5 ?_;refine T.skip ?_;refine Yb ?_;refine Zo (aT [0] rfl) ?_;refine Zi ?_;refine sR Y18 rfl ?_;refine Zc Za ?_;refine TO.makeFunc Zb ?_;refine Vj (t:=192) [.nilFunc,iV 0] [0,1] Za (by simp only [Xo,setCells,Value.cells,List.toList_toArray,List.getD_cons_zero,List.getD_cons_succ,List.set_cons_zero,List.set_cons_succ];rfl) (by kernel_rfl) ?_;refine Zc Za ?_;refine TO.makeFunc Zb ?_;refine Vj (t:=192) [.nilFunc,iV 0] [0,1] Za (by simp only [Xo,setCells,Value.cells,List.toList_toArray,List.getD_cons_zero,List.getD_cons_succ,List.set_cons_zero,List.set_cons_succ];rfl) (by kernel_rfl) ?_;refine Zc Za ?_;refine TO.makeFunc Zb ?_;refine Vj (t:=192) [.nilFunc,iV 0] [0,1] Za (by simp only [Xo,setCells,Value.cells,List.toList_toArray,List.getD_cons_zero,List.getD_cons_succ,List.set_cons_zero,List.set_cons_succ];rfl) (by kernel_rfl) ?_;refine Zc Za ?_;refine TO.makeFunc Zb ?_;refine Vj (t:=192) [.nilFunc,iV 0] [0,1] Za (by simp only [Xo,setCells,Value.cells,List.toList_toArray,List.getD_cons_zero,List.getD_cons_succ,List.set_cons_zero,List.set_cons_succ];rfl) (by kernel_rfl) ?_;refine Zc Za ?_;refine TO.makeFunc Zb ?_;refine Vj (t:=192) [.nilFunc,iV 0] [0,1] Za (by simp only [Xo,setCells,Value.cells,List.toList_toArray,List.getD_cons_zero,List.getD_cons_succ,List.set_cons_zero,List.set_cons_succ];rfl) (by kernel_rfl) ?_;refine Km [.nilFunc,iV 0,.nilFunc,iV 0,.nilFunc,iV 0,.nilFunc,iV 0,.nilFunc,iV 0] [0,2,4,6,8] Za Z0q Nt Z0t Yp (by simp only [Xo,setCells,Value.cells,List.toList_toArray,List.getD_cons_zero,List.getD_cons_succ,List.set_cons_zero,List.set_cons_succ];rfl) (by kernel_rfl) ?_;intro b6;refine Yt (xs:=[(),(),(),(),()]) (n:=5) rfl Zb Z0q ?_;refine Zc Za ?_;refine dN ?_;refine Zo (aT [29,30,31] rfl) ?_;refine Z7g (fun (d9:List Int) (n44 e8:Nat) (e1:Option Nat) (f0:List Value)=>Z8w a0 d9=some (r0,o0)∧d9.length=n44∧n44≤e8∧f0.length=(e8 - n44)*1∧(e1=none→e8=0)) (fun (d9:List Int) (n44 e8:Nat) (e1:Option Nat) (f0:List Value)=>[]) (fun (d9:List Int) (n44 e8:Nat) (e1:Option Nat) (f0:List Value)=>[(eC d5 #[iV a0.Net.N,iV a0.Net.S,iV a0.Net.T,.slice a4 a2 a3,.slice b7 b9 a9,.slice c4 c9 a8,sV e1 n44 e8] 132),(eI e1 d9 f0 2)]) ?_ ?_
  ·
   refine T.block ?_;refine Zdt ?_;refine RT.round ?_;refine sR Y1 rfl ?_;refine Jz (b:=true) Zl (by first | decide | rfl) ?_;refine dS ?_;refine Yz rfl rfl ?_;refine T.skip ?_;refine Yb ?_;refine Zi ?_;refine T.block ?_;refine sR Y4 rfl ?_;refine Z18 (xs:=[(),(),(),(),()]) (n:=5) rfl (Z3i (k:=0) rfl) Zb Z0q Nt ?_;refine Z0p (vs:=[.func (.func 109) #[pV d5] #[],iV 60]) Za Z31 Zh Yp ?_;refine Wb Zk Z0t ?_;intro b8;refine Xx Za Ze Nt Zk ?_;refine dS ?_;obtain ⟨h2,g7,H⟩:=Zm H;refine rG Y4 rfl ?_;refine Zs Za Z2x ?_;refine Zt Za Z3s Zh rfl ?_;refine Jo Zfs Zb (fun wc hwc=>Zib (a0:=a0) wc (d1.mono hwc) (d8.mono hwc) (d6.mono hwc) (rsI hwc Un d2 d4 d3) (hwc.hb (cs:=[iV a0.Net.N,iV a0.Net.S,iV a0.Net.T,.slice a4 a2 a3,.slice b7 b9 a9,.slice c4 c9 a8,sV a5 a6 a7]) Wj) g7) ?_;rintro _ _ ⟨rfl,rfl⟩;refine TO.not Za ?_;refine dN ?_;rcases Zq H with ⟨f5,H⟩ | ⟨f5,H⟩
   ·refine Yz rfl f5 ?_;refine sR Y3 rfl ?_;refine Zs Za Z28 ?_;refine Zt Za Jq Zh rfl ?_;refine aN Za ?_;refine Zo (aT [2] rfl) ?_;refine T.ret ?_;refine Xc ?_;refine Yc ?_;refine Yc ?_;refine Xc ?_;refine Yc ?_;obtain ⟨rfl,rfl⟩:=ret2 H;exact Ye Za (Res.tmp rfl) (Zd Yo (Zd Yo Zf)) ⟨a5,a6,a7,d0,rfl,rfl,d2,d4,d7,d3⟩
   ·
    refine Xl rfl (Bool.eq_false_iff.2 f5) ?_;refine T.skip ?_;refine Yv ?_;refine Yb ?_;refine Zo (aT [29,30,31] rfl) ?_;refine rG Y2 rfl ?_;refine Nu (r:=1) (by decide) Zb ?_;refine Zc Za ?_;refine Zj ?_;refine X.round ?_;refine RT.round ?_;refine sR Y1 rfl ?_;refine Jz (b:=true) Zl (by first | decide | rfl) ?_;refine dS ?_;refine Yz rfl rfl ?_;refine T.skip ?_;refine Yb ?_;refine Zi ?_;refine T.block ?_;refine sR Y4 rfl ?_;refine Z18 (xs:=[(),(),(),(),()]) (n:=5) rfl (Z3i (k:=1) rfl) Zb Z0q Nt ?_;refine Z0p (vs:=[.func (.func 110) #[pV d5] #[],iV 61]) Za Z31 Yk Yp ?_;refine Wb Zk Z0t ?_;intro h3;refine Xx Za Ze Nt Zk ?_;refine dS ?_;obtain ⟨h4,g8,H⟩:=Zm H;refine rG Y4 rfl ?_;refine Zs Za Z2x ?_;refine Zt Za Z3s Zh rfl ?_;refine Jo Zld Zb (fun wc hwc=>Zgd (a0:=a0) wc (d1.mono hwc) (d8.mono hwc) (d6.mono hwc) (rsI hwc Vo d2 d4 d3) (hwc.hb (cs:=[iV a0.Net.N,iV a0.Net.S,iV a0.Net.T,.slice a4 a2 a3,.slice b7 b9 a9,.slice c4 c9 a8,sV a5 a6 a7]) Un) g8) ?_;rintro _ _ ⟨rfl,rfl⟩;refine TO.not Za ?_;refine dN ?_;rcases Zq H with ⟨f6,H⟩ | ⟨f6,H⟩
    ·refine Yz rfl f6 ?_;refine sR Y3 rfl ?_;refine Zs Za Z28 ?_;refine Zt Za Jq Zh rfl ?_;refine aN Za ?_;refine Zo (aT [2] rfl) ?_;refine T.ret ?_;refine Xc ?_;refine Yc ?_;refine Yc ?_;refine Xc ?_;refine Yc ?_;obtain ⟨rfl,rfl⟩:=ret2 H;exact Ye Za (Res.tmp rfl) (Zd Ul (Zd Ul Zf)) ⟨a5,a6,a7,d0,rfl,rfl,d2,d4,d7,d3⟩
    ·
     refine Xl rfl (Bool.eq_false_iff.2 f6) ?_;refine T.skip ?_;refine Yv ?_;refine Yb ?_;refine Zo (aT [29,30,31] rfl) ?_;refine rG Y2 rfl ?_;refine Nu (r:=2) (by decide) Zb ?_;refine Zc Za ?_;refine Zj ?_;refine X.round ?_;refine RT.round ?_;refine sR Y1 rfl ?_;refine Jz (b:=true) Zl (by first | decide | rfl) ?_;refine dS ?_;refine Yz rfl rfl ?_;refine T.skip ?_;refine Yb ?_;refine Zi ?_;refine T.block ?_;refine sR Y4 rfl ?_;refine Z18 (xs:=[(),(),(),(),()]) (n:=5) rfl (Z3i (k:=2) rfl) Zb Z0q Nt ?_;refine Z0p (vs:=[.func (.func 111) #[pV d5] #[],iV 62]) Za Z31 Wj Yp ?_;refine Wb Zk Z0t ?_;intro h5;refine Xx Za Ze Nt Zk ?_;refine dS ?_;obtain ⟨⟨h6,f7⟩,g9,H⟩:=Zm H;refine rG Y4 rfl ?_;refine Zs Za Z2x ?_;refine Zt Za Z3s Zh rfl ?_;refine Z7r Zko Zb (Take.gone Nf (Gone.refl _)) rfl (fun wc hwc=>Zk2 (a0:=a0) wc (hwc.self (Zd Nf Zf) rfl) (d1.monoM (by decide) hwc (Take.gone Nf (Gone.refl _)) rfl) (d8.monoM (by decide) hwc (Take.gone Nf (Gone.refl _)) rfl) (d6.monoM (by decide) hwc (Take.gone Nf (Gone.refl _)) rfl) (hwc.rsM (f:=iC) (s:=1) (xs:=a0.out) (j:=d0) (fun _=>rfl) (Take.gone Nf (Gone.refl _)) rfl Vo d2 d4 d3) g9) ?_;rintro _ _ ⟨e2,n24,c25,f4,rfl,rfl,e3,e5,e7,e6⟩;refine TO.not Za ?_;refine dN ?_;rcases Zq H with ⟨f8,H⟩ | ⟨f8,H⟩
     ·refine Yz rfl f8 ?_;refine sR Y3 rfl ?_;refine Zs Za Z28 ?_;refine Zt Za Jq Wj rfl ?_;refine aN Za ?_;refine Zo (aT [2] rfl) ?_;refine T.ret ?_;refine Xc ?_;refine Yc ?_;refine Yc ?_;refine Xc ?_;refine Yc ?_;obtain ⟨rfl,rfl⟩:=ret2 H;exact Ye Za (Res.tmp rfl) (Zd Ze (Zd Ze Zf)) ⟨e2,n24,c25,f4,rfl,rfl,e3,e5,e7,e6⟩
     ·
      refine Xl rfl (Bool.eq_false_iff.2 f8) ?_;refine T.skip ?_;refine Yv ?_;refine Yb ?_;refine Zo (aT [29,30,31] rfl) ?_;refine rG Y2 rfl ?_;refine Nu (r:=3) (by decide) Zb ?_;refine Zc Za ?_;refine Zj ?_;refine X.round ?_;refine RT.round ?_;refine sR Y1 rfl ?_;refine Jz (b:=true) Zl (by first | decide | rfl) ?_;refine dS ?_;refine Yz rfl rfl ?_;refine T.skip ?_;refine Yb ?_;refine Zi ?_;refine T.block ?_;refine sR Y4 rfl ?_;refine Z18 (xs:=[(),(),(),(),()]) (n:=5) rfl (Z3i (k:=3) rfl) Zb Z0q Nt ?_;refine Z0p (vs:=[.func (.func 112) #[pV d5] #[],iV 63]) Za Z31 Vl Yp ?_;refine Wb Zk Z0t ?_;intro b33;refine Xx Za Ze Nt Zk ?_;refine dS ?_;obtain ⟨h7,h0,H⟩:=Zm H;refine rG Y4 rfl ?_;refine Zs Za Z2x ?_;refine Zt Za Z3s Zh rfl ?_;refine Jo Zi1 Zb (fun wc hwc=>Zj3 (a0:=(CheckAnswer.mk a0.Net a0.f a0.s f7.out)) wc (d1.mono hwc) (d8.mono hwc) (d6.mono hwc) (rsI hwc Wj e3 e5 e6) (hwc.hb (cs:=[iV a0.Net.N,iV a0.Net.S,iV a0.Net.T,.slice a4 a2 a3,.slice b7 b9 a9,.slice c4 c9 a8,sV e2 n24 c25]) Yk) h0) ?_;rintro _ _ ⟨rfl,rfl⟩;refine TO.not Za ?_;refine dN ?_;rcases Zq H with ⟨f9,H⟩ | ⟨f9,H⟩
      ·refine Yz rfl f9 ?_;refine sR Y3 rfl ?_;refine Zs Za Z28 ?_;refine Zt Za Jq Zh rfl ?_;refine aN Za ?_;refine Zo (aT [2] rfl) ?_;refine T.ret ?_;refine Xc ?_;refine Yc ?_;refine Yc ?_;refine Xc ?_;refine Yc ?_;obtain ⟨rfl,rfl⟩:=ret2 H;exact Ye Za (Res.tmp rfl) (Zd Zn (Zd Zn Zf)) ⟨e2,n24,c25,f4,rfl,rfl,e3,e5,e7,e6⟩
      ·
       refine Xl rfl (Bool.eq_false_iff.2 f9) ?_;refine T.skip ?_;refine Yv ?_;refine Yb ?_;refine Zo (aT [29,30,31] rfl) ?_;refine rG Y2 rfl ?_;refine Nu (r:=4) (by decide) Zb ?_;refine Zc Za ?_;refine Zj ?_;refine X.round ?_;refine RT.round ?_;refine sR Y1 rfl ?_;refine Jz (b:=true) Zl (by first | decide | rfl) ?_;refine dS ?_;refine Yz rfl rfl ?_;refine T.skip ?_;refine Yb ?_;refine Zi ?_;refine T.block ?_;refine sR Y4 rfl ?_;refine Z18 (xs:=[(),(),(),(),()]) (n:=5) rfl (Z3i (k:=4) rfl) Zb Z0q Nt ?_;refine Z0p (vs:=[.func (.func 113) #[pV d5] #[],iV 64]) Za Z31 mm6 Yp ?_;refine Wb Zk Z0t ?_;intro h8;refine Xx Za Ze Nt Zk ?_;refine dS ?_;obtain ⟨h9,h1,H⟩:=Zm H;refine rG Y4 rfl ?_;refine Zs Za Z2x ?_;refine Zt Za Z3s Zh rfl ?_;refine Jo Zhl Zb (fun wc hwc=>Zgp (a0:=(CheckAnswer.mk a0.Net a0.f a0.s f7.out)) wc (d1.mono hwc) (d8.mono hwc) (d6.mono hwc) (rsI hwc Un e3 e5 e6) (hwc.hb (cs:=[iV a0.Net.N,iV a0.Net.S,iV a0.Net.T,.slice a4 a2 a3,.slice b7 b9 a9,.slice c4 c9 a8,sV e2 n24 c25]) Wj) h1) ?_;rintro _ _ ⟨rfl,rfl⟩;refine TO.not Za ?_;refine dN ?_;rcases Zq H with ⟨g0,H⟩ | ⟨g0,H⟩
       ·refine Yz rfl g0 ?_;refine sR Y3 rfl ?_;refine Zs Za Z28 ?_;refine Zt Za Jq Zh rfl ?_;refine aN Za ?_;refine Zo (aT [2] rfl) ?_;refine T.ret ?_;refine Xc ?_;refine Yc ?_;refine Yc ?_;refine Xc ?_;refine Yc ?_;obtain ⟨rfl,rfl⟩:=ret2 H;exact Ye Za (Res.tmp rfl) (Zd Yo (Zd Yo Zf)) ⟨e2,n24,c25,f4,rfl,rfl,e3,e5,e7,e6⟩
       ·refine Xl rfl (Bool.eq_false_iff.2 g0) ?_;refine T.skip ?_;refine Yv ?_;refine Yb ?_;refine Zo (aT [29,30,31] rfl) ?_;refine rG Y2 rfl ?_;refine Nu (r:=5) (by decide) Zb ?_;refine Zc Za ?_;refine Zj ?_;refine X.round ?_;refine RT.round ?_;refine sR Y1 rfl ?_;refine Jz (b:=false) Zl (by first | decide | rfl) ?_;refine dS ?_;refine Xl rfl rfl ?_;refine T.exit ?_;refine Xk ?_;refine Xk ?_;refine Vr ?_;exact Z6q f7.out n24 c25 e2 f4 ⟨H,e3,e5,e7,e6⟩ Z00 (Zd Yo (Zd Yo Zf))
  ·rintro d9 n44 e8 e1 f0 ⟨H,g1,g2,g3,g4⟩;unfold Z8w at H;refine sR Y1 rfl ?_;refine aN Za ?_;refine T.ret ?_;obtain ⟨rfl,rfl⟩:=ret2 H;exact Ye Za (Res.tmp rfl) (Zd Ze (Zd Ze Zf)) ⟨e1,n44,e8,f0,rfl,rfl,g1,g2,g3,g4⟩
theorem Zlf {n0:Net}{f1:List Int}{s2:List Bool}{a2 a6 b6:Option Addr}{a3 a4 a8 a9 a7 a5:Nat}(w:World)(b7:RS w [] Zu 3 a2 a3 a4 n0.Arcs)(b8:RS w [] iC 1 a6 a8 a9 f1)(b9:RS w [] boolC 1 b6 a7 a5 s2){r0:Int}(H:Za7 n0 f1 s2=some r0):Fnc Tryz.prog 38 #[.agg #[iV n0.N,iV n0.S,iV n0.T,.slice a2 a3 a4],.slice a6 a8 a9,.slice b6 a7 a5] w [] (fun v N=>v=iV r0∧N=[]):=by
 unfold Za7 at H;refine Fnc.enter (vs:=[.agg #[iV n0.N,iV n0.S,iV n0.T,.slice a2 a3 a4],.slice a6 a8 a9,.slice b6 a7 a5]) Tryz.func38 rfl rfl (Inv.refl w) ?_;refine sR Y2 rfl ?_;refine Xz Za ?_;intro b1;refine aN Za ?_;refine Zi ?_;obtain ⟨⟨r6,r7⟩,e8,H⟩:=Zm H;refine rG Y7 rfl ?_;refine Xj Za Yy Zh rfl ?_;refine Zc Za ?_;refine Zc Za ?_;refine Vj (t:=132) [iV 0,iV 0,iV 0,.slice none 0 0,.slice none 0 0,.slice none 0 0,.slice none 0 0] [0,4,5,6] Za (by simp only [Xo,setCells,Value.cells,List.toList_toArray,List.getD_cons_zero,List.getD_cons_succ,List.set_cons_zero,List.set_cons_succ];rfl) (by kernel_rfl) ?_;refine Xz Za ?_;intro b3;refine TO.addNone (.cells (arr iC ([]:List Int) []).toArray 2 (0,0)) ?_;refine Uk (H:=[(eI none ([]:List Int) ([]) 2),(eC b3 #[iV n0.N,iV n0.S,iV n0.T,.slice a2 a3 a4,.slice a6 a8 a9,.slice b6 a7 a5,sV none 0 0] 132),(eC b1 #[iV n0.N,iV n0.S,iV n0.T,.slice a2 a3 a4] 24)]) rfl ?_;refine Z05 Zcr Za (Take.gone Zn (Take.gone Ze (Gone.refl _))) rfl (fun wc hwc=>Zcw (a0:=(CheckAnswer.mk n0 f1 s2 ([]:List Int))) wc (hwc.self (Zd Zn (Zd Ze Zf)) rfl) (b7.monoM (by decide) hwc (Take.gone Zn (Take.gone Ze (Gone.refl _))) rfl) (b8.monoM (by decide) hwc (Take.gone Zn (Take.gone Ze (Gone.refl _))) rfl) (b9.monoM (by decide) hwc (Take.gone Zn (Take.gone Ze (Gone.refl _))) rfl) rfl (Nat.le_refl _) (Xg 0 _) (fun _=>rfl) e8) ?_;rintro _ _ ⟨d2,d3,c11,d4,rfl,rfl,c4,c9,d0,d1⟩;refine aN Za ?_;refine Zo (aT [6] rfl) ?_;refine T.ret ?_;obtain rfl:=ret1 H;exact Ye Za (Res.tmp rfl) Zf ⟨rfl,rfl⟩
theorem Zjs {n0:Net}{f1:List Int}{s2:List Bool}{a2 a7 b6:Option Addr}{a3 a4 a8 a9 a5 a6:Nat}(w:World)(b7:RS w [] Zu 3 a2 a3 a4 n0.Arcs)(c9:RS w [] iC 1 a7 a8 a9 f1)(d0:RS w [] boolC 1 b6 a5 a6 s2){r0:Int}{r1:Bool}(H:Z8l n0 f1 s2=some (r0,r1)):Fnc Tryz.prog 58 #[.agg #[iV n0.N,iV n0.S,iV n0.T,.slice a2 a3 a4],.slice a7 a8 a9,.slice b6 a5 a6] w [] (fun v N=>v=.tuple #[iV r0,.bool r1]∧N=[]):=by
 unfold Z8l at H;refine Fnc.enter (vs:=[.agg #[iV n0.N,iV n0.S,iV n0.T,.slice a2 a3 a4],.slice a7 a8 a9,.slice b6 a5 a6]) Tryz.func58 rfl rfl (Inv.refl w) ?_;refine sR Y3 rfl ?_;refine Xz Za ?_;intro b1;refine Zy Za ?_;refine aN Za ?_;refine sR Y6 rfl ?_;refine Xj Za Yy Zh rfl ?_;refine Zc Za ?_;refine Zc Za ?_;refine Vj (t:=132) [iV 0,iV 0,iV 0,.slice none 0 0,.slice none 0 0,.slice none 0 0,.slice none 0 0] [0,4,5,6] Za (by simp only [Xo,setCells,Value.cells,List.toList_toArray,List.getD_cons_zero,List.getD_cons_succ,List.set_cons_zero,List.set_cons_succ];rfl) (by kernel_rfl) ?_;refine Xz Za ?_;intro b3;refine aN Za ?_;refine Zo (aT [3,8] rfl) ?_;refine Zi ?_;refine Zi ?_;obtain ⟨⟨r6,r7⟩,e8,H⟩:=Zm H;refine rG Y3 rfl ?_;refine Zc Za ?_;refine TO.addNone (.cells (arr iC ([]:List Int) []).toArray 2 (0,0)) ?_;refine Uk (H:=[(eI none ([]:List Int) ([]) 2),(eC b3 #[iV n0.N,iV n0.S,iV n0.T,.slice a2 a3 a4,.slice a7 a8 a9,.slice b6 a5 a6,sV none 0 0] 132),(eC b1 #[iV n0.N,iV n0.S,iV n0.T,.slice a2 a3 a4] 24)]) rfl ?_;refine Z05 Zcr Za (Take.gone Zn (Take.gone Ze (Gone.refl _))) rfl (fun wc hwc=>Zcw (a0:=(CheckAnswer.mk n0 f1 s2 ([]:List Int))) wc (hwc.self (Zd Zn (Zd Ze Zf)) rfl) (b7.monoM (by decide) hwc (Take.gone Zn (Take.gone Ze (Gone.refl _))) rfl) (c9.monoM (by decide) hwc (Take.gone Zn (Take.gone Ze (Gone.refl _))) rfl) (d0.monoM (by decide) hwc (Take.gone Zn (Take.gone Ze (Gone.refl _))) rfl) rfl (Nat.le_refl _) (Xg 0 _) (fun _=>rfl) e8) ?_;rintro _ _ ⟨d4,d5,c11,d6,rfl,rfl,b8,b9,d3,c4⟩;refine Zr Zl ?_;refine dN ?_;rcases Zq H with ⟨d1,H⟩ | ⟨d1,H⟩
 ·refine Yx rfl d1 ?_;refine sR Y2 rfl ?_;refine Zy Za ?_;refine aN Za ?_;refine T.ret ?_;refine Yc ?_;obtain ⟨rfl,rfl⟩:=ret2 H;exact Xe Za (Res.tmp rfl) (Res.tmp rfl) Zf ⟨rfl,rfl⟩
 ·refine Yu rfl d1 ?_;refine T.skip ?_;refine Yb ?_;refine Zi ?_;obtain ⟨d2,H⟩:=Zx H;refine Ws 6 [0,1,2,3,4,5] rfl Xu (by kernel_rfl) (by kernel_rfl) rfl (by kernel_rfl) ?_;refine TQ.move Za ?_;refine TQ.nilCheck Za ?_;refine Yn Za Z0v ?_;refine Yw Za Uh Zh rfl ?_;refine Yn Za Ku ?_;refine Yw Za Yf Wj rfl ?_;refine TQ.tail [6,7,8,9] Yp ?_;refine Rf c4 b9 b8 d2 Zb Wg Wd ?_;refine Zdx c4 b9 b8 d2 Za Wn Yk ?_;refine Zy Za ?_;refine aN Za ?_;refine Zo (aT [6,7] rfl) ?_;refine T.ret ?_;obtain ⟨rfl,rfl⟩:=ret2 H;exact Xe Za (Res.tmp rfl) (Res.tmp rfl) Zf ⟨rfl,rfl⟩
theorem Zhb {s0:Str}(w:World)(hG:GK Tryz.prog w []){r0:Plan}{r1:Bool}(H:Za1 s0=some (r0,r1)):Fnc Tryz.prog 20 #[.string (bs s0)] w [] (fun v N=>∃ (c9:Option Addr) (e6 e7:Nat) (b6:Option Nat) (b7:List Int) (d4 d5:Nat) (e8:List Value),v=.tuple #[.agg #[iV r0.Workers,iV r0.Limit,.slice c9 e6 e7],.bool r1]∧N=[(eI b6 b7 e8 3)]∧Qu b6 c9 e6 e7 r0.Picks b7 d4 d5∧b7.length=d4∧d4≤d5∧e8.length=(d5-d4)*1∧(b6=none→d5=0)):=by
 unfold Za1 at H;refine Fnc.enter (vs:=[.string (bs s0)]) Tryz.func20 rfl rfl (Inv.refl w) ?_;refine sR Y2 rfl ?_;refine Wb Zk Zep ?_;intro b1;refine aN Za ?_;refine Zi ?_;obtain ⟨a2,f7,H⟩:=Zm H;refine rG Y4 rfl ?_;refine Zc Za ?_;refine Z9m (p:=s0) Za Kv Xq TWQSY.v5 ?_;intro b3 c4 j5 g6 f8 g7;refine Zw Z6w Za (fun wc hwc=>Z4y (line0:=(ub s0)) wc (hwc.rs (f:=(intC .u8)) (s:=1) (xs:=(ub s0)) (j:=j5) (fun _=>rfl) Zh rfl f8 Wa) f7) ?_;rintro _ _ ⟨a7,d6,c14,d7,rfl,rfl,a6,d0,f9,d1⟩;refine aN Za ?_;refine Zi ?_;refine Zi ?_;refine Wf (fun (d2:Bool)=>Z57 a2 d2=some (r0,r1)) (fun (d2:Bool)=>[(2,pV b1),(4,sV a7 d6 c14),(20,.bool d2)]) (fun (d2:Bool)=>[(eC b1 #[iV 0,iV 0,.slice none 0 0] 35),(eA a7 Yq a2 d7 9)]) ?_ ?_
 ·
  rcases Zq H with ⟨d8,H⟩ | ⟨d8,H⟩
  ·refine rG Y8 rfl ?_;refine Zc Za ?_;refine Yt (xs:=a2) a6 Zb Xr ?_;refine Zr Zl ?_;refine Zc Za ?_;refine Ya (t:=16) (b':=true) rfl (decide_eq_true d8) ?_;refine Zg Za ?_;refine Zg Za ?_;refine Zg Za ?_;refine Yi Zb ?_;refine Zj ?_;exact Xa true H (aF rfl) (Zd Yo (Zd Ze Zf))
  ·refine rG Y8 rfl ?_;refine Zc Za ?_;refine Yt (xs:=a2) a6 Zb Xr ?_;refine Zr Zl ?_;refine Zc Za ?_;refine Ya (t:=16) (b':=false) rfl (decide_eq_false d8) ?_;refine Zc Za ?_;refine Yt (xs:=a2) a6 Zb Xr ?_;refine Zr Zl ?_;refine Yl Zb ?_;refine Zj ?_;exact Xa (decide (10002<(a2.length:Int))) H (aF rfl) (Zd Yo (Zd Ze Zf))
 ·
  rintro d2 H;unfold Z57 at H;rcases Zq H with ⟨d9,H⟩ | ⟨d9,H⟩
  ·refine Yz rfl d9 ?_;refine sR Y3 rfl ?_;refine Vj (t:=35) [iV 0,iV 0,.slice none 0 0] [0,1,2] Za (by simp only [Xo,setCells,Value.cells,List.toList_toArray,List.getD_cons_zero,List.getD_cons_succ,List.set_cons_zero,List.set_cons_succ];rfl) (by kernel_rfl) ?_;refine Xx Za Ze Z5s Zk ?_;refine aN Za ?_;refine T.ret ?_;refine Yc ?_;obtain ⟨rfl,rfl⟩:=ret2 H;exact Xe Za (Ji rfl Z10 Zh rfl) (Res.tmp rfl) (Pick.none Zf) ⟨none,0,0,none,([]),0,0,([]),rfl,rfl,(Qu.self none [] 0 0),rfl,(Nat.le_refl _),(Xg 0 _),(fun _=>rfl)⟩
  ·
   refine Xl rfl (Bool.eq_false_iff.2 d9) ?_;refine T.skip ?_;refine Yb ?_;obtain ⟨g0,H⟩:=Zx H;refine sR Y4 rfl ?_;refine Zc Za ?_;refine Yt (xs:=a2) a6 Zb Xr ?_;refine Z2s g0 Zb Wl Wc TWQCY.z3 Z61 rfl ?_;intro a9;refine aN Za ?_;refine Zi ?_;refine sR Y3 rfl ?_;refine Zc Za ?_;refine Yt (xs:=a2) a6 Zb Xr ?_;refine Zc Za ?_;refine dN ?_;refine Wf (fun (a4:List Int)=>Zau a4=some (r0,r1)∧a4.length=(a2.length:Int).toNat) (fun (a4:List Int)=>[(2,pV b1),(5,nV a9 ((a2.length:Int).toNat) ((a2.length:Int).toNat))]) (fun (a4:List Int)=>[(eC b1 #[iV 0,iV 0,.slice none 0 0] 35),(eI (some a9) a4 ([]) 3)]) ?_ ?_
   ·
    refine T.block ?_;obtain ⟨g1,g2,e9⟩:=Zm H;refine Rt (fun (b9:Nat) (a3:List Int) (a5:Int)=>Xd (fun s=>Z50 a2 s.1 s.2) b9 (a3,a5)=some g1∧a3.length=(a2.length:Int).toNat) (fun (b9:Nat) (a3:List Int) (a5:Int)=>[(2,pV b1),(5,nV a9 ((a2.length:Int).toNat) ((a2.length:Int).toNat)),(25,sV a7 d6 c14),(26,iV (a2.length:Int)),(27,iV a5)]) (fun (b9:Nat) (a3:List Int) (a5:Int)=>[(eC b1 #[iV 0,iV 0,.slice none 0 0] 35),(eI (some a9) a3 ([]) 3),(eA a7 Yq a2 d7 9)]) (fun (b9:Nat) (a3:List Int) (a5:Int)=>b9) Xf (List.replicate ((a2.length:Int).toNat) (0:Int)) 0 ⟨g2,List.length_replicate⟩ (aF rfl) (Zd Zn (Zd Ze (Zd Ze Zf))) ?_;rintro b9 a3 a5 ⟨H,b8⟩;obtain ⟨g3,f0,rfl,H,e1⟩:=Ub H;have H:Z50 a2 a3 a5=some f0:=H;unfold Z50 at H;refine sR Y1 rfl ?_;refine Zr Zl ?_;refine dS ?_;rcases Zq H with ⟨e2,H⟩ | ⟨e2,H⟩
    ·
     refine Yx rfl e2 ?_;refine T.skip ?_;refine Yb ?_;refine Zi ?_;refine T.block ?_;obtain ⟨f2,H⟩:=Zx H;refine sR Y5 rfl ?_;refine Zc Za ?_;refine Rf d1 d0 a6 f2 Zb Xr Wr ?_;refine Z1w (f:=Yq) (v:=.string (bs (a2.getD a5.toNat ([]:Str)))) ([]:Str) (fun _=>rfl) d1 d0 a6 f2 Zb Vh Wj ?_;refine Zy Za ?_;refine aN Za ?_;refine Zi ?_;obtain ⟨⟨e3,g8⟩,g4,H⟩:=Zm H;refine rG Y7 rfl ?_;refine Zc Za ?_;refine Zw Zaq Za (fun wc hwc=>Z8b (s0:=(a2.getD a5.toNat ([]:Str))) wc (hG.mono hwc) g4) ?_;rintro _ _ ⟨rfl,rfl⟩;refine Zc Za ?_;refine TO.extract Zb ?_;refine TO.extract Zb ?_;refine Zy Za ?_;refine aN Za ?_;refine Zo (aT [2,5,25,26,27,6,7,8,9] rfl) ?_;refine Zi ?_;refine Zi ?_;refine Wf (fun (d3:Bool)=>Z6h a3 a5 e3 d3=some f0) (fun (d3:Bool)=>[(2,pV b1),(5,nV a9 ((a2.length:Int).toNat) ((a2.length:Int).toNat)),(6,iV a5),(8,iV e3),(25,sV a7 d6 c14),(26,iV (a2.length:Int)),(27,iV a5),(43,.bool d3)]) (fun (d3:Bool)=>[(eC b1 #[iV 0,iV 0,.slice none 0 0] 35),(eI (some a9) a3 ([]) 3),(eA a7 Yq a2 d7 9)]) ?_ ?_
     ·
      rcases Zq H with ⟨e4,H⟩ | ⟨e4,H⟩
      ·refine rG Y7 rfl ?_;refine Zc Za ?_;refine TO.not Za ?_;refine Zc Za ?_;refine Ya (t:=39) (b':=true) rfl e4 ?_;refine Zg Za ?_;refine Zg Za ?_;refine Zg Za ?_;refine Yi Zb ?_;refine Zj ?_;exact Xa true H (aF rfl) (Zd Ze (Zd Ze (Zd Ze Zf)))
      ·refine rG Y7 rfl ?_;refine Zc Za ?_;refine TO.not Za ?_;refine Zc Za ?_;refine Ya (t:=39) (b':=false) rfl (Bool.eq_false_iff.2 e4) ?_;refine Zc Za ?_;refine Z8s (p:=(a2.getD a5.toNat ([]:Str))) Zb Kv ?_;refine Zr Zl ?_;refine Yl Zb ?_;refine Zj ?_;exact Xa (decide (9<((a2.getD a5.toNat ([]:Str)).length:Int))) H (aF rfl) (Zd Ze (Zd Ze (Zd Ze Zf)))
     ·
      rintro d3 H;unfold Z6h at H;rcases Zq H with ⟨e5,H⟩ | ⟨e5,H⟩
      ·refine Yz rfl e5 ?_;refine sR Y3 rfl ?_;refine Vj (t:=35) [iV 0,iV 0,.slice none 0 0] [0,1,2] Za (by simp only [Xo,setCells,Value.cells,List.toList_toArray,List.getD_cons_zero,List.getD_cons_succ,List.set_cons_zero,List.set_cons_succ];rfl) (by kernel_rfl) ?_;refine Xx Za Ze Z5s Zk ?_;refine aN Za ?_;refine Zo (aT [2,3] rfl) ?_;refine T.ret ?_;refine Yc ?_;refine Xc ?_;refine Yc ?_;have H:=Wi H e1▸e9;refine Yc ?_;refine Xc ?_;refine Yc ?_;obtain ⟨rfl,rfl⟩:=ret2 H;exact Xe Za (Ji rfl Z10 Zh rfl) (Res.tmp rfl) (Pick.none Zf) ⟨none,0,0,none,([]),0,0,([]),rfl,rfl,(Qu.self none [] 0 0),rfl,(Nat.le_refl _),(Xg 0 _),(fun _=>rfl)⟩
      ·refine Xl rfl (Bool.eq_false_iff.2 e5) ?_;refine T.skip ?_;refine Yb ?_;obtain ⟨f3,H⟩:=Zx H;refine rG Y5 rfl ?_;refine Zc Za ?_;refine Zc Za ?_;refine Zc Za ?_;refine Jm b8 f3 Zb Wl Wc ?_;refine Z08 f3 Za Zn Wc ?_;refine Zj ?_;refine Yv ?_;refine Yb ?_;obtain ⟨g5,H⟩:=Zx H;refine rG Y2 rfl ?_;refine Xt g5 Zb ?_;refine Zc Za ?_;refine Zj ?_;have H:=Wu H e1;exact La g3 (a3.set a5.toNat e3) (a5+1) ⟨H,(List.length_set.trans b8)⟩ (Nat.lt_succ_self _) (aF rfl) (Zd Zn (Zd Ze (Zd Ze Zf)))
    ·refine Yu rfl e2 ?_;refine T.exit ?_;refine Xk ?_;have H:=Wi H e1▸e9;refine Xk ?_;refine Vr ?_;exact Xa a3 ⟨H,b8⟩ (aF rfl) (Zd Ze (Zd Ze Zf))
   ·rintro a4 ⟨H,a8⟩;unfold Zau at H;refine Zi ?_;obtain ⟨f4,f5,f6,H⟩:=Gv H;refine Ws 8 [0,1,2,3,4,5,6,7] rfl Xu (by kernel_rfl) (by kernel_rfl) rfl (by kernel_rfl) ?_;refine TQ.move Za ?_;refine Z1u a8 f4 Zb Wl Wc ?_;refine Z25 f4 Za Yf Yk ?_;refine TQ.move Za ?_;refine Z1u a8 f5 Zb Wl Wc ?_;refine Z25 f5 Za Yf Yk ?_;refine TQ.move Za ?_;refine TQ.slL (xs:=a4) a8 f6 Zb Wl Wc ?_;refine TQ.tail [8,9,10] Yp ?_;refine Vj (t:=35) [iV 0,iV 0,.slice none 0 0] [0,1,2] Za (by simp only [Xo,setCells,Value.cells,List.toList_toArray,List.getD_cons_zero,List.getD_cons_succ,List.set_cons_zero,List.set_cons_succ];rfl) (by kernel_rfl) ?_;refine Xx Za Ze Z5s Zk ?_;refine aN Za ?_;refine Zo (aT [2,3] rfl) ?_;refine T.ret ?_;obtain ⟨rfl,rfl⟩:=ret2 H;exact Xe Za (Ji rfl Z10 Zh rfl) (Res.tmp rfl) (Zd Zn Zf) ⟨(Kk (some ⟨a9,0,none⟩) (2:Int).toNat ((a2.length:Int).toNat) 1),((a2.length:Int).toNat - (2:Int).toNat),((a2.length:Int).toNat - (2:Int).toNat),(some a9),a4,((a2.length:Int).toNat),((a2.length:Int).toNat),([]),rfl,rfl,((Qu.self (some a9) a4 ((a2.length:Int).toNat) ((a2.length:Int).toNat)).drop f6 a8 (Nat.le_refl _)),a8,(Nat.le_refl _),(Xg _ _),Wa⟩
theorem Zli (w:World){r0:Net}(H:Z7b=some r0):Fnc Tryz.prog 47 #[] w [] (fun v N=>∃ (a2:Option Nat) (a3 a4:Nat) (a5:List Value),v=.agg #[iV r0.N,iV r0.S,iV r0.T,sV a2 a3 a4]∧N=[(eA a2 Zu r0.Arcs a5 64)]∧r0.Arcs.length=a3∧a3≤a4∧a5.length=(a4-a3)*3∧(a2=none→a4=0)):=by
 unfold Z7b at H;refine Fnc.enter (vs:=[]) Tryz.func47 rfl rfl (Inv.refl w) ?_;refine sR Y1 rfl ?_;refine Wb Zk Rz ?_;intro b1;refine dN ?_;refine sR Y2 rfl ?_;refine Vj (t:=24) [iV 0,iV 0,iV 0,.slice none 0 0] [0,1,2,3] Za (by simp only [Xo,setCells,Value.cells,List.toList_toArray,List.getD_cons_zero,List.getD_cons_succ,List.set_cons_zero,List.set_cons_succ];rfl) (by kernel_rfl) ?_;refine Xx Za Ze Gu Zk ?_;refine dN ?_;refine T.ret ?_;obtain rfl:=ret1 H;exact Ye Za (Ji rfl Yy Zh rfl) (Pick.none Zf) ⟨none,0,0,([]),rfl,rfl,rfl,(Nat.le_refl _),(Xg 0 _),(fun _=>rfl)⟩
theorem Zkl {n0:Net}{p1:Plan}{a2 a5:Option Addr}{a4 a7 a3 a6:Nat}(w:World)(a8:RS w [] Zu 3 a2 a4 a7 n0.Arcs)(a9:RS w [] iC 1 a5 a3 a6 p1.Picks){r0:Int}(H:Z30 n0 p1=some r0):Fnc Tryz.prog 46 #[.agg #[iV n0.N,iV n0.S,iV n0.T,.slice a2 a4 a7],.agg #[iV p1.Workers,iV p1.Limit,.slice a5 a3 a6]] w [] (fun v N=>v=iV r0∧N=[]):=by
 unfold Z30 at H;refine Fnc.enter (vs:=[.agg #[iV n0.N,iV n0.S,iV n0.T,.slice a2 a4 a7],.agg #[iV p1.Workers,iV p1.Limit,.slice a5 a3 a6]]) Tryz.func46 rfl rfl (Inv.refl w) ?_;refine sR Y3 rfl ?_;refine Xz Za ?_;intro b1;refine Xz Za ?_;intro b3;refine aN Za ?_;refine Zi ?_;refine T.block ?_;refine Zi ?_;refine Wf (fun (x6:Bool)=>Z32 n0 p1 x6=some r0) (fun (x6:Bool)=>[(2,pV b1),(3,pV b3),(5,.bool x6)]) (fun (x6:Bool)=>[(eC b1 #[iV n0.N,iV n0.S,iV n0.T,.slice a2 a4 a7] 24),(eC b3 #[iV p1.Workers,iV p1.Limit,.slice a5 a3 a6] 35)]) ?_ ?_
 ·
  rcases Zq H with ⟨g5,H⟩ | ⟨g5,H⟩
  ·refine rG Y9 rfl ?_;refine Zs Za Z81 ?_;refine Zt Za Yf Zh rfl ?_;refine Zr Zl ?_;refine Zc Za ?_;refine Ya (t:=9) (b':=true) rfl (decide_eq_true g5) ?_;refine Zg Za ?_;refine Zg Za ?_;refine Zg Za ?_;refine Yi Zb ?_;refine Zy Za ?_;refine Zj ?_;exact Xa true H (aF rfl) (Zd Zn (Zd Ze Zf))
  ·refine rG Y9 rfl ?_;refine Zs Za Z81 ?_;refine Zt Za Yf Zh rfl ?_;refine Zr Zl ?_;refine Zc Za ?_;refine Ya (t:=9) (b':=false) rfl (decide_eq_false g5) ?_;refine Zs Za Z81 ?_;refine Zt Za Yf Zh rfl ?_;refine Zr Zl ?_;refine Yl Zb ?_;refine Zy Za ?_;refine Zj ?_;exact Xa (decide (64<p1.Workers)) H (aF rfl) (Zd Zn (Zd Ze Zf))
 ·
  rintro x6 H;unfold Z32 at H;rcases Zq H with ⟨g7,H⟩ | ⟨g7,H⟩
  ·refine Yz rfl g7 ?_;refine sR Y1 rfl ?_;refine aN Za ?_;refine T.ret ?_;refine Xc ?_;refine Yc ?_;obtain rfl:=ret1 H;exact Ye Za (Res.tmp rfl) Zf ⟨rfl,rfl⟩
  ·
   refine Xl rfl (Bool.eq_false_iff.2 g7) ?_;refine sR Y4 rfl ?_;refine Zs Za Zi0 ?_;refine Zt Za Yf Yk rfl ?_;refine Zr Zl ?_;refine aN Za ?_;rcases Zq H with ⟨g8,H⟩ | ⟨g8,H⟩
   ·refine Yx rfl g8 ?_;refine sR Y1 rfl ?_;refine aN Za ?_;refine T.ret ?_;refine Xc ?_;refine Yc ?_;obtain rfl:=ret1 H;exact Ye Za (Res.tmp rfl) Zf ⟨rfl,rfl⟩
   ·refine Yu rfl g8 ?_;refine T.skip ?_;refine Yv ?_;refine Yb ?_;refine Zi ?_;obtain ⟨r9,b6,H⟩:=Zm H;refine rG Y3 rfl ?_;refine Xj Za Yy Zh rfl ?_;refine Zw Ny Za (fun wc hwc=>Lh (n0:=n0) wc (a8.mono hwc) b6) ?_;rintro _ _ ⟨rfl,rfl⟩;refine aN Za ?_;refine Zo (aT [4] rfl) ?_;refine T.ret ?_;obtain rfl:=ret1 H;exact Ye Za (Res.tmp rfl) Zf ⟨rfl,rfl⟩
theorem Zb4 {b0:List Int}{p1:Plan}{b9 a4:Option Addr}{b8 c4 a2 a3:Nat}(w:World)(d6:RS w [] (intC .u8) 1 b9 b8 c4 b0)(a5:RS w [] iC 1 a4 a2 a3 p1.Picks)(hG:GK Tryz.prog w []){r0:List Int}{r1:Int}(H:Z22 b0 p1=some (r0,r1)):Fnc Tryz.prog 19 #[.slice b9 b8 c4,.agg #[iV p1.Workers,iV p1.Limit,.slice a4 a2 a3]] w [] (fun v N=>∃ (a6:Option Nat) (d4 d5:Nat) (g3:List Value),v=.tuple #[sV a6 d4 d5,iV r1]∧N=[(eA a6 (intC .u8) r0 g3 5)]∧r0.length=d4∧d4≤d5∧g3.length=(d5-d4)*1∧(a6=none→d5=0)):=by
 unfold Z22 at H;refine Fnc.enter (vs:=[.slice b9 b8 c4,.agg #[iV p1.Workers,iV p1.Limit,.slice a4 a2 a3]]) Tryz.func19 rfl rfl (Inv.refl w) ?_;refine sR Y3 rfl ?_;refine Xz Za ?_;intro b1;refine Zy Za ?_;refine aN Za ?_;refine Zi ?_;refine Zi ?_;obtain ⟨r3,e4,H⟩:=Zm H;obtain ⟨j5,h1,H⟩:=Zm H;apply Z2f [⟨[],false,[],fun _ v e=>∃ (c9:Option Nat) (n6 c7:Nat) (j8:List Value),v=.agg #[iV r3.N,iV r3.S,iV r3.T,sV c9 n6 c7]∧e=[(eA c9 Zu r3.Arcs j8 64)]∧r3.Arcs.length=n6∧n6≤c7∧j8.length=(c7 - n6)*3∧(c9=none→c7=0)⟩,rV [] _] [13,14] 2 (HRk [[]]) [[]] [] [(eC b1 #[iV p1.Workers,iV p1.Limit,.slice a4 a2 a3] 35)]
 ·exact Xu
 ·exact rfl
 ·kernel_rfl
 ·kernel_rfl
 ·kernel_rfl
 ·exact rfl
 ·exact rfl
 ·exact rfl
 ·exact rfl
 ·exact Vm (by repeat constructor)
 ·
  refine ⟨?_,?_,trivial⟩
  ·rintro vs es Es Hx -;refine Yd (D:=[]) rfl ?_;refine Zw Zg3 Za (fun wc hwc=>Zli  wc  e4) ?_;rintro _ _ ⟨c9,n6,c7,j8,rfl,rfl,d7,a7,d0,a8⟩;refine Zj ?_;exact Yj rfl ⟨c9,n6,c7,j8,rfl,rfl,d7,a7,d0,a8⟩ (Vm (by repeat constructor)) rfl
  ·rintro vs es Es Hx -;refine Yd (D:=[]) rfl ?_;refine Xj Za Z10 Zh rfl ?_;refine Zj ?_;exact Yj rfl ⟨rfl,rfl⟩ (Zv _) rfl
 ·
  rintro vs es hb ⟨⟨c9,n6,c7,j8,g4,g5,d7,a7,d0,a8⟩,⟨g6,g7⟩,-⟩ hHR;obtain rfl:hb=[]:=hHR;refine Yd (D:=[(13,vs 0),(14,vs 1)]) rfl ?_;refine Uk (H:=_++(_++(es 0++(es 1++([]))))) rfl ?_;rw [g5,g7];rw [g4,g6];clear g6 g4 g5 g7;refine Zw Zle Za (fun wc hwc=>Zkl (n0:=r3) (p1:=p1) wc (hwc.rs (f:=Zu) (s:=3) (xs:=r3.Arcs) (j:=j8) (fun _=>rfl) Yk d7 a7 a8) (a5.mono hwc) h1) ?_;rintro _ _ ⟨rfl,rfl⟩;refine aN Za ?_;refine sR Y2 rfl ?_;refine Zc Za ?_;refine Zr Zl ?_;refine dN ?_;rcases Zq H with ⟨d8,H⟩ | ⟨d8,H⟩
  ·refine Yx rfl d8 ?_;refine sR Y3 rfl ?_;refine Zc Za ?_;refine Zy Za ?_;refine aN Za ?_;refine Zo (aT [4,5] rfl) ?_;refine T.ret ?_;refine Yc ?_;obtain ⟨rfl,rfl⟩:=ret2 H;exact Xe Za (Res.tmp rfl) (Res.tmp rfl) (Pick.none Zf) ⟨none,0,0,([]),rfl,rfl,rfl,(Nat.le_refl _),(Xg 0 _),(fun _=>rfl)⟩
  ·
   refine Yu rfl d8 ?_;refine T.skip ?_;refine Yb ?_;refine Zo (aT [0,3] rfl) ?_;refine Zi ?_;obtain ⟨⟨d1,j6⟩,h2,H⟩:=Zm H;refine rG Y8 rfl ?_;refine Zc Za ?_;refine Zw Zdz Za (fun wc hwc=>Zcg (b0:=b0) wc (d6.mono hwc) (hG.mono hwc) h2) ?_;rintro _ _ ⟨h3,j7,j9,k1,rfl,rfl,a9,b6,d9,b7⟩;refine Zc Za ?_;refine TO.extract Zb ?_;refine TO.extract Zb ?_;refine Wb Zk Rz ?_;intro k2;refine Xx Za Ze Gu Zk ?_;refine aN Za ?_;refine Zi ?_;refine sR Y2 rfl ?_;refine Zc Za ?_;refine Zr Zl ?_;refine dN ?_;rcases Zq H with ⟨e1,H⟩ | ⟨e1,H⟩
   ·refine Yx rfl e1 ?_;refine sR Y3 rfl ?_;refine Zc Za ?_;refine Zy Za ?_;refine aN Za ?_;refine Zo (aT [4,5] rfl) ?_;refine T.ret ?_;refine Yc ?_;obtain ⟨rfl,rfl⟩:=ret2 H;exact Xe Za (Res.tmp rfl) (Res.tmp rfl) (Pick.none Zf) ⟨none,0,0,([]),rfl,rfl,rfl,(Nat.le_refl _),(Xg 0 _),(fun _=>rfl)⟩
   ·
    refine Yu rfl e1 ?_;refine T.skip ?_;refine Yb ?_;refine Zo (aT [3,7] rfl) ?_;refine Zi ?_;obtain ⟨⟨g8,k3,k4⟩,h4,H⟩:=Zm H;refine rG Y12 rfl ?_;refine Xj Za Yy Zh rfl ?_;refine Xj Za Z10 Wj rfl ?_;refine Z05 Zid Za (Take.gone Zn (Gone.refl _)) rfl (fun wc hwc=>Zfx (n0:=d1) (p1:=p1) wc (hwc.self (Zd Zn Zf) rfl) a9 b6 d9 b7 (a5.monoM (by decide) hwc (Take.gone Zn (Gone.refl _)) rfl) h4) ?_;rintro _ _ ⟨g9,h5,k5,k6,k7,h6,k8,k9,l0,rfl,rfl,h7,e2,e3,h8,e5,e6,e7,h9,e8⟩;refine Zc Za ?_;refine TO.extract Zb ?_;refine TO.extract Zb ?_;refine TO.extract Zb ?_;refine Wb Zk Zll ?_;intro l1;refine Wb Zk Zjf ?_;intro l3;refine Xx Za Zn Zjk Zk ?_;refine Xx Za Zn Ziw Zk ?_;refine aN Za ?_;refine Zo (aT [7,9,8] rfl) ?_;refine Zi ?_;refine sR Y2 rfl ?_;refine Zc Za ?_;refine Zr Zl ?_;refine dN ?_;rcases Zq H with ⟨e9,H⟩ | ⟨e9,H⟩
    ·refine Yx rfl e9 ?_;refine sR Y3 rfl ?_;refine Zc Za ?_;refine Zy Za ?_;refine aN Za ?_;refine T.ret ?_;refine Yc ?_;obtain ⟨rfl,rfl⟩:=ret2 H;exact Xe Za (Res.tmp rfl) (Res.tmp rfl) (Pick.none Zf) ⟨none,0,0,([]),rfl,rfl,rfl,(Nat.le_refl _),(Xg 0 _),(fun _=>rfl)⟩
    ·
     refine Yu rfl e9 ?_;refine T.skip ?_;refine Yb ?_;refine Zi ?_;obtain ⟨⟨i4,l4⟩,i5,H⟩:=Zm H;refine rG Y9 rfl ?_;refine Xj Za Yy Vl rfl ?_;refine Zs Za Zgc ?_;refine Zt Za Uh Yk rfl ?_;refine Zw Zge Za (fun wc hwc=>Zgm (n0:=d1) (f1:=g8.Flow) wc (hwc.rs (f:=Zu) (s:=3) (xs:=d1.Arcs) (j:=g9) (fun _=>rfl) Wj a9 b6 b7) (rsI hwc Un e2 e3 e5) (hG.mono hwc) i5) ?_;rintro _ _ ⟨f0,i6,l5,i7,rfl,rfl,d2,f2,f3,f4⟩;refine Zc Za ?_;refine TO.extract Zb ?_;refine TO.extract Zb ?_;refine Zy Za ?_;refine aN Za ?_;refine Zo (aT [7,9,8,11] rfl) ?_;refine Zi ?_;refine sR Y2 rfl ?_;refine Zc Za ?_;refine Zr Zl ?_;refine dN ?_;rcases Zq H with ⟨f5,H⟩ | ⟨f5,H⟩
     ·refine Yx rfl f5 ?_;refine sR Y3 rfl ?_;refine Zc Za ?_;refine Zy Za ?_;refine aN Za ?_;refine T.ret ?_;refine Yc ?_;obtain ⟨rfl,rfl⟩:=ret2 H;exact Xe Za (Res.tmp rfl) (Res.tmp rfl) (Pick.none Zf) ⟨none,0,0,([]),rfl,rfl,rfl,(Nat.le_refl _),(Xg 0 _),(fun _=>rfl)⟩
     ·
      refine Yu rfl f5 ?_;refine T.skip ?_;refine Yb ?_;refine Zi ?_;obtain ⟨⟨h0,l6⟩,i8,H⟩:=Zm H;refine rG Y9 rfl ?_;refine Xj Za Yy mm6 rfl ?_;refine Zs Za Zfz ?_;refine Zt Za Gd Wj rfl ?_;refine Zw Ziv Za (fun wc hwc=>Zkc (n0:=d1) (s1:=g8.Side) wc (hwc.rs (f:=Zu) (s:=3) (xs:=d1.Arcs) (j:=g9) (fun _=>rfl) Un a9 b6 b7) (rsB hwc Vl e6 e7 e8) (hG.mono hwc) i8) ?_;rintro _ _ ⟨i9,j0,c79,j1,rfl,rfl,d3,f6,j2,f7⟩;refine Zc Za ?_;refine TO.extract Zb ?_;refine TO.extract Zb ?_;refine Zy Za ?_;refine aN Za ?_;refine Zo (aT [8,11,12] rfl) ?_;refine Zi ?_;refine sR Y2 rfl ?_;refine Zc Za ?_;refine Zr Zl ?_;refine dN ?_;rcases Zq H with ⟨f8,H⟩ | ⟨f8,H⟩
      ·refine Yx rfl f8 ?_;refine sR Y3 rfl ?_;refine Zc Za ?_;refine Zy Za ?_;refine aN Za ?_;refine T.ret ?_;refine Yc ?_;obtain ⟨rfl,rfl⟩:=ret2 H;exact Xe Za (Res.tmp rfl) (Res.tmp rfl) (Pick.none Zf) ⟨none,0,0,([]),rfl,rfl,rfl,(Nat.le_refl _),(Xg 0 _),(fun _=>rfl)⟩
      ·refine Yu rfl f8 ?_;refine T.skip ?_;refine Yb ?_;obtain ⟨j3,H⟩:=Zx H;refine sR Y5 rfl ?_;refine Zc Za ?_;refine Zc Za ?_;refine Z3n (f:=(intC .u8)) (s:=1) (xs:=i4) (ob:=f0) (j:=i7) (ys:=h0) (fun _=>rfl) (fun _=>rfl) Zh8 j3 Zb Zn d2 f2 f3 f4 (fun wc hwc=>(hwc.rs (f:=(intC .u8)) (s:=1) (xs:=h0) (j:=j1) (fun _=>rfl) Zh d3 f6 f7)) ?_;intro f9 c89 j4 g0 g1 g2;refine Zy Za ?_;refine aN Za ?_;refine Zo (aT [4,5] rfl) ?_;refine T.ret ?_;obtain ⟨rfl,rfl⟩:=ret2 H;exact Xe Za (Res.tmp rfl) (Res.tmp rfl) (Zd Ze Zf) ⟨f9,(i6+j0),c89,j4,rfl,rfl,(Lr d2 d3),g0,g1,g2⟩
theorem Zez {e0:Int}(w:World)(hG:GK Tryz.prog w []){r0:List Int}(H:Z4p e0=some r0):Fnc Tryz.prog 29 #[iV e0] w [] (fun v N=>∃ (a2:Option Nat) (a3 a4:Nat) (a7:List Value) (a5:Nat×Nat),v=sV a2 a3 a4∧N=[(a2,.cells (arr (intC .u8) r0 a7).toArray 5 a5)]∧r0.length=a3∧a3≤a4∧a7.length=(a4-a3)*1∧(a2=none→a4=0)):=by
 unfold Z4p at H;refine Fnc.enter (vs:=[iV e0]) Tryz.func29 rfl rfl (Inv.refl w) ?_;refine sR Y1 rfl ?_;refine aN Za ?_;refine Zi ?_;obtain ⟨r1,e2,H⟩:=Zm H;obtain ⟨g3,g4,H⟩:=Jh H;refine rG Y6 rfl ?_;refine Zc Za ?_;refine Zw Lt Za (fun wc hwc=>Lp (i0:=e0) wc (hG.mono hwc) e2) ?_;rintro _ _ ⟨rfl,rfl⟩;refine Gx (p:=([101,114,114,111,114,32]:Str)) (q:=r1) g3 Zb ?_;refine Gx (p:=(([101,114,114,111,114,32]:Str)++r1)) (q:=([10]:Str)) g4 Zb ?_;refine Z9m (p:=((([101,114,114,111,114,32]:Str)++r1)++([10]:Str))) Za Kv Xq TWQSY.v5 ?_;intro b5 c6 j7 a8 a9 a6;refine aN Za ?_;refine T.ret ?_;obtain rfl:=ret1 H;exact Ye Za (Res.tmp rfl) (Zd Ze Zf) ⟨(some b5),((ub ((([101,114,114,111,114,32]:Str)++r1)++([10]:Str))).length),c6,j7,a8,rfl,rfl,rfl,a9,a6,Wa⟩
theorem Z17 {plan0:Str}{b1:List Int}{a3:Option Addr}{a5 a4:Nat}(w:World)(a8:RS w [] (intC .u8) 1 a3 a5 a4 b1)(hG:GK Tryz.prog w []){r0:List Int}(H:Z34 plan0 b1=some r0):Fnc Tryz.prog 8 #[.string (bs plan0),.slice a3 a5 a4] w [] (fun v N=>∃ (a2:Option Nat) (a6 a7:Nat) (e9:List Value) (a9:Nat×Nat),v=sV a2 a6 a7∧N=[(a2,.cells (arr (intC .u8) r0 e9).toArray 5 a9)]∧r0.length=a6∧a6≤a7∧e9.length=(a7-a6)*1∧(a2=none→a7=0)):=by
 unfold Z34 at H;refine Fnc.enter (vs:=[.string (bs plan0),.slice a3 a5 a4]) Tryz.func8 rfl rfl (Inv.refl w) ?_;refine sR Y1 rfl ?_;refine aN Za ?_;refine Zi ?_;obtain ⟨⟨r1,r2⟩,e3,H⟩:=Zm H;refine rG Y8 rfl ?_;refine Zc Za ?_;refine Zw Zgv Za (fun wc hwc=>Zhb (s0:=plan0) wc (hG.mono hwc) e3) ?_;rintro _ _ ⟨g1,n5,c6,g2,g3,N9,g4,g5,rfl,rfl,b6,b7,b8,f0,b9⟩;refine Zc Za ?_;refine TO.extract Zb ?_;refine TO.extract Zb ?_;refine Wb Zk Zep ?_;intro g6;refine Xx Za Ze Z5s Zk ?_;refine aN Za ?_;refine Zi ?_;refine sR Y2 rfl ?_;refine Zc Za ?_;refine TO.not Za ?_;refine dN ?_;refine Zo (aT [1,5,15] rfl) ?_;rcases Zq H with ⟨c4,H⟩ | ⟨c4,H⟩
 ·refine Yz rfl c4 ?_;refine Zi ?_;obtain ⟨g7,f2,H⟩:=Zm H;refine rG Y2 rfl ?_;refine Zw Zd5 Za (fun wc hwc=>Zez (e0:=70) wc (hG.mono hwc) f2) ?_;rintro _ _ ⟨c9,n24,c25,f3,d0,rfl,rfl,d1,d2,d3,d4⟩;refine aN Za ?_;refine T.ret ?_;refine Yc ?_;obtain rfl:=ret1 H;exact Ye Za (Res.tmp rfl) (Zd Ze Zf) ⟨c9,n24,c25,f3,d0,rfl,rfl,d1,d2,d3,d4⟩
 ·
  refine Xl rfl (Bool.eq_false_iff.2 c4) ?_;refine T.skip ?_;refine Yb ?_;refine Zi ?_;obtain ⟨⟨g8,f4⟩,f5,H⟩:=Zm H;refine rG Y8 rfl ?_;refine Zc Za ?_;refine Xj Za Z10 Zh rfl ?_;refine Zw Zca Za (fun wc hwc=>Zb4 (b0:=b1) (p1:=r1) wc (a8.mono hwc) (b6.rs hwc (fun _=>rfl) Yk b7 b8 b9) (hG.mono hwc) f5) ?_;rintro _ _ ⟨d5,f6,c38,f7,rfl,rfl,d6,d7,d8,d9⟩;refine Zc Za ?_;refine TO.extract Zb ?_;refine TO.extract Zb ?_;refine Zy Za ?_;refine aN Za ?_;refine Zo (aT [7,8] rfl) ?_;refine Zi ?_;refine sR Y2 rfl ?_;refine Zc Za ?_;refine Zr Zl ?_;refine dN ?_;rcases Zq H with ⟨e1,H⟩ | ⟨e1,H⟩
  ·refine Yx rfl e1 ?_;refine Zi ?_;obtain ⟨g9,f8,H⟩:=Zm H;refine rG Y3 rfl ?_;refine Zc Za ?_;refine Zw Zd5 Za (fun wc hwc=>Zez (e0:=f4) wc (hG.mono hwc) f8) ?_;rintro _ _ ⟨e2,f9,c50,g0,e4,rfl,rfl,e5,e6,e7,e8⟩;refine aN Za ?_;refine T.ret ?_;refine Yc ?_;obtain rfl:=ret1 H;exact Ye Za (Res.tmp rfl) (Zd Ze Zf) ⟨e2,f9,c50,g0,e4,rfl,rfl,e5,e6,e7,e8⟩
  ·refine Yu rfl e1 ?_;refine T.skip ?_;refine Yb ?_;refine sR Y2 rfl ?_;refine Zc Za ?_;refine aN Za ?_;refine T.ret ?_;obtain rfl:=ret1 H;exact Ye Za (Res.tmp rfl) (Zd Ze Zf) ⟨d5,f6,c38,f7,(0,0),rfl,rfl,d6,d7,d8,d9⟩
theorem Ziy {out0:List Int}{a6:Option Addr}{a7 a8:Nat}(w:World)(a5:RS w [] (intC .u8) 1 a6 a7 a8 out0){r0:List Int}{r1:List Int}(H:Z9k out0=some (r0,r1)):Fnc Tryz.prog 57 #[.slice a6 a7 a8] w [] (fun v N=>∃ (f7:Option Nat) (g9 h0:Nat) (k7:List Value) (f8:Option Nat) (h1 h2:Nat) (k8:List Value),v=.tuple #[sV f7 g9 h0,sV f8 h1 h2]∧N=[(eA f7 (intC .u8) r0 k7 5),(eA f8 (intC .u8) r1 k8 5)]∧r0.length=g9∧g9≤h0∧k7.length=(h0-g9)*1∧(f7=none→h0=0)∧r1.length=h1∧h1≤h2∧k8.length=(h2-h1)*1∧(f8=none→h2=0)):=by
 unfold Z9k at H;refine Z6c (vs:=[.slice a6 a7 a8]) Tryz.func57 rfl rfl (Inv.refl w) ?_;refine sR Y2 rfl ?_;refine Zy Za ?_;refine aN Za ?_;refine sR Y1 rfl ?_;refine Wb Zk Zic ?_;intro b1;refine dS ?_;refine Zi ?_;obtain ⟨⟨⟩,e5,H⟩:=Zm H;refine rG Y3 rfl ?_;refine Zc Za ?_;refine Km [.int .u8 0] [0] Za Xq Jd TWQSY.z5 Yp (by simp only [Xo,setCells,Value.cells,List.toList_toArray,List.getD_cons_zero,List.getD_cons_succ,List.set_cons_zero,List.set_cons_succ];rfl) (by kernel_rfl) ?_;intro b3;refine Zw Z85 Za (fun wc hwc=>Z99 (s0:=out0) (sep1:=[10]) wc (a5.mono hwc) (hwc.rs (f:=(intC .u8)) (s:=1) (xs:=[10]) (j:=([])) (fun _=>rfl) Zh rfl (Nat.le_refl _) Wa) e5) ?_;rintro _ _ ⟨b6,b7,b8,rfl,rfl⟩;refine dN ?_;refine T.block ?_;obtain ⟨l6,l7,l8⟩:=Zm H;refine Z6i (S:=(List Int×List Int)) (X:=(Empty)) (V:=List Int) rfl Z7x Yp (fun w M v vals=>∃ (b0:Option Addr) (n0 c0:Nat),vals=[.slice b0 n0 c0]∧RS w M (intC .u8) 1 b0 n0 c0 v) (by rintro _ _ _ _ ⟨_,_,_,rfl,_⟩;rfl) (fun s v=>Z2m s.1 s.2 v) (fun t Hq=>match t with | .inl (a9,b9)=>∃ (a4 c14:Nat) (a2:Option Nat) (c9:List Value) (n24 c25:Nat) (a3:Option Nat) (d0:List Value),Hq=[(eC b1 #[sV a2 a4 c14,iV 0,.int .i8 0,sV a3 n24 c25,iV 0,.int .i8 0] 185),(eA a2 (intC .u8) a9 c9 5),(eA a3 (intC .u8) b9 d0 5)]∧a9.length=a4∧a4≤c14∧c9.length=(c14 - a4)*1∧(a2=none→c14=0)∧BufS a2 c14∧b9.length=n24∧n24≤c25∧d0.length=(c25 - n24)*1∧(a3=none→c25=0)∧BufS a3 c25 | .inr x=>nomatch x) (fun HE_=>∃ (h3:Option Addr) (h4 h5:Nat),HE_=[(eC b7 #[.slice h3 h4 h5] 27)]) (fun HE_=>∃ (d5:Option Addr) (d6 d7:Nat),HE_=[(eC b7 #[.slice d5 d6 d7] 27)]) (fun x=>nomatch x) ([],[]) l6 [(eC b1 #[.slice none 0 0,iV 0,.int .i8 0,.slice none 0 0,iV 0,.int .i8 0] 185),(eA none (intC .u8) [] [] 5),(eA none (intC .u8) [] [] 5)] [(eC b7 #[.slice a6 a7 a8] 27)] [(eC b6 #[nV b3 1 1] 27),(eC b8 #[iV 0] 3),(eA (some b3) (intC .u8) ([10]) ([]) 5)] ⟨0,0,none,([]),0,0,none,([]),rfl,rfl,(Nat.le_refl _),(Xg 0 _),(fun _=>rfl),BufS.nil,rfl,(Nat.le_refl _),(Xg 0 _),(fun _=>rfl),BufS.nil⟩ (Zd Zn (Zd Ze (Zd Ze (Zd Ze (Zd Ze (Pick.none (Pick.none (Zv _)))))))) ?_ ?_ ?_ ?_
 ·intro lp wc J_ H0_ hJ_ hin_ hY_ lo_ hwc l9;subst l9;exact Zbs (yy_:=(fun s v=>Z2m s.1 s.2 v)) (c1:=[10]) (c2:=out0) (c3:=0) (tt_:=.inl ([],[])) (J_:=J_) wc hin_ hJ_ hY_ (hwc.rsM (f:=(intC .u8)) (s:=1) (xs:=[10]) (j:=([])) (fun _=>rfl) (List.Perm.refl _) rfl Wj rfl (Nat.le_refl _) Wa) (hwc.hbM (cs:=[nV b3 1 1]) (List.Perm.refl _) rfl Zh) (a5.monoM (by decide) hwc (List.Perm.refl _) rfl) (hwc.hbM (cs:=[iV 0]) (List.Perm.refl _) rfl Yk) l7
 ·
  rintro lp n7 ⟨a9,b9⟩ d1 k9 _ _ _ hy ⟨a4,c14,a2,c9,n24,c25,a3,d0,rfl,e6,d8,e7,d9,e8,e9,e1,f0,e2,f2⟩ ⟨d2,d3,d4,rfl⟩ ⟨f3,f4,f5,rfl,c4⟩ m0 m1;refine rG Y1 rfl ?_;refine Zy Za ?_;refine Zj ?_;refine Z49 [(4,pV b1),(11,.slice f3 f4 f5),(5,.slice f3 f4 f5)] [(eC b7 #[.slice d2 d3 d4] 27),(eC b1 #[sV a2 a4 c14,iV 0,.int .i8 0,sV a3 n24 c25,iV 0,.int .i8 0] 185),(eA a2 (intC .u8) a9 c9 5),(eA a3 (intC .u8) b9 d0 5)] (aF rfl) (Zv _) ?_;intro n8 m2 hwc m3;have a5:=a5.monoM (by decide) hwc (List.Perm.refl _) rfl;have c4:=c4.monoM (by decide) m3 (List.Perm.of_eq (List.append_nil _).symm) rfl;have H:Z2m a9 b9 d1=some k9:=hy;unfold Z2m at H;refine T.block ?_;refine sR Y2 rfl ?_;refine Z7o (o2:=0) Zb Z77 Z7c (by decide) (by decide) rfl ?_;refine aN Za ?_;refine Zi ?_;refine Zi ?_;obtain ⟨g1,m4,H⟩:=Zm H;refine rG Y3 rfl ?_;refine Zc Za ?_;refine Zw Z6w Za (fun wc hwc=>Z4y (line0:=d1) wc (c4.mono hwc) m4) ?_;rintro _ _ ⟨m5,o0,c49,o1,rfl,rfl,f6,g2,m6,g3⟩;refine aN Za ?_;refine Zi ?_;refine Wf (fun (g4:Bool)=>Z6u a9 b9 d1 g4=some k9) (fun (g4:Bool)=>[(4,pV b1),(5,.slice f3 f4 f5),(6,pV b1),(11,.slice f3 f4 f5),(23,.bool g4)]) (fun (g4:Bool)=>[(eC b1 #[sV a2 a4 c14,iV 0,.int .i8 0,sV a3 n24 c25,iV 0,.int .i8 0] 185),(eA a2 (intC .u8) a9 c9 5),(eA a3 (intC .u8) b9 d0 5),(eC b7 #[.slice d2 d3 d4] 27)]) ?_ ?_
  ·
   rcases Zq H with ⟨h6,H⟩ | ⟨h6,H⟩
   ·obtain ⟨l0,H⟩:=Zx H;refine rG Y9 rfl ?_;refine Zc Za ?_;refine Yt (xs:=g1) f6 Zb Xr ?_;refine Zr Zl ?_;refine Zc Za ?_;refine Ya (t:=18) (b':=true) rfl (decide_eq_true h6) ?_;refine Zc Za ?_;refine Rf g3 g2 f6 l0 Zb Xr Wr ?_;refine Z1w (f:=Yq) (v:=.string (bs (g1.getD (0:Int).toNat ([]:Str)))) ([]:Str) (fun _=>rfl) g3 g2 f6 l0 Zb Vh Zh ?_;refine Vy (p:=(g1.getD (0:Int).toNat ([]:Str))) (q:=([107]:Str)) Zb ?_;refine Yi Zb ?_;refine Zj ?_;exact Xa (decide ((g1.getD (0:Int).toNat ([]:Str))=([107]:Str))) H (aF rfl) (Zd Yo (Zd Yo (Zd Yo (Zd Zn Zf))))
   ·refine rG Y9 rfl ?_;refine Zc Za ?_;refine Yt (xs:=g1) f6 Zb Xr ?_;refine Zr Zl ?_;refine Zc Za ?_;refine Ya (t:=18) (b':=false) rfl (decide_eq_false h6) ?_;refine Zg Za ?_;refine Zg Za ?_;refine Zg Za ?_;refine Zg Za ?_;refine Yl Zb ?_;refine Zj ?_;exact Xa false H (aF rfl) (Zd Yo (Zd Yo (Zd Yo (Zd Zn Zf))))
  ·
   rintro g4 H;unfold Z6u at H;rcases Zq H with ⟨h7,H⟩ | ⟨h7,H⟩
   ·refine Yz rfl h7 ?_;refine rG Y2 rfl ?_;refine Z7o (o2:=3) Zb Z77 Z7c (by decide) (by decide) rfl ?_;refine aN Za ?_;obtain ⟨m7,H⟩:=Zx H;refine sR Y3 rfl ?_;refine Zc Za ?_;refine Zc Za ?_;refine TO.bwW (ρ:=Zam) (ss:=d1) (xs:=b9) (j:=d0) (cs:=[sV a2 a4 c14,iV 0,.int .i8 0,sV a3 n24 c25,iV 0,.int .i8 0]) (q:=3) Zc6 m7 Zfc Zb (fun wc hwc=>(c4.mono hwc)) Ze Zn Za e9 e1 f0 e2 f2 ?_;intro f9 l1 c63 l3 h8 h9 i4 i5 i6;refine Uk (H:=[(eC b1 #[sV a2 a4 c14,iV 0,.int .i8 0,sV f9 l1 c63,iV 0,.int .i8 0] 185),(eA f9 (intC .u8) (b9++d1) l3 5),(eA a2 (intC .u8) a9 c9 5),(eC b7 #[.slice d2 d3 d4] 27)]) rfl ?_;refine dN ?_;obtain ⟨m8,H⟩:=Zx H;refine rG Y2 rfl ?_;refine Zc Za ?_;refine TO.bwB (ρ:=Zan) (z:=10) (xs:=(b9++d1)) (j:=l3) (cs:=[sV a2 a4 c14,iV 0,.int .i8 0,sV f9 l1 c63,iV 0,.int .i8 0]) (q:=3) Zci m8 Zcp Zb Ze Ze Zk h8 h9 i4 i5 i6 ?_;intro e3 i7 i9 j0 j1 j2 j3 j4 j5;refine Uk (H:=[(eC b1 #[sV a2 a4 c14,iV 0,.int .i8 0,sV e3 i7 i9,iV 0,.int .i8 0] 185),(eA e3 (intC .u8) ((b9++d1)++([10])) j0 5),(eA a2 (intC .u8) a9 c9 5),(eC b7 #[.slice d2 d3 d4] 27)]) rfl ?_;refine Zj ?_;refine Yv ?_;exact Ri H ⟨[(eC b1 #[sV a2 a4 c14,iV 0,.int .i8 0,sV e3 i7 i9,iV 0,.int .i8 0] 185),(eA a2 (intC .u8) a9 c9 5),(eA e3 (intC .u8) ((b9++d1)++([10])) j0 5)],rfl,⟨a4,c14,a2,c9,i7,i9,e3,j0,rfl,e6,d8,e7,d9,e8,j1,j2,j3,j4,j5⟩⟩ (Zd Ul (Zd Ze (Zd Zn (Zd Ze Zf))))
   ·refine Xl rfl (Bool.eq_false_iff.2 h7) ?_;refine T.skip ?_;refine Yb ?_;obtain ⟨m9,H⟩:=Zx H;refine sR Y3 rfl ?_;refine Zc Za ?_;refine Zc Za ?_;refine TO.bwW (ρ:=Zam) (ss:=d1) (xs:=a9) (j:=c9) (cs:=[sV a2 a4 c14,iV 0,.int .i8 0,sV a3 n24 c25,iV 0,.int .i8 0]) (q:=0) Zc6 m9 Zfc Zb (fun wc hwc=>(c4.mono hwc)) Ze Ze Za e6 d8 e7 d9 e8 ?_;intro g0 l4 c85 l5 j6 j7 j8 j9 k1;refine Uk (H:=[(eC b1 #[sV g0 l4 c85,iV 0,.int .i8 0,sV a3 n24 c25,iV 0,.int .i8 0] 185),(eA g0 (intC .u8) (a9++d1) l5 5),(eA a3 (intC .u8) b9 d0 5),(eC b7 #[.slice d2 d3 d4] 27)]) rfl ?_;refine dN ?_;obtain ⟨n6,H⟩:=Zx H;refine rG Y2 rfl ?_;refine Zc Za ?_;refine TO.bwB (ρ:=Zan) (z:=10) (xs:=(a9++d1)) (j:=l5) (cs:=[sV g0 l4 c85,iV 0,.int .i8 0,sV a3 n24 c25,iV 0,.int .i8 0]) (q:=0) Zci n6 Zcp Zb Ze Ze Zk j6 j7 j8 j9 k1 ?_;intro e4 k2 k3 k4 k5 k6 g5 g6 g7;refine Uk (H:=[(eC b1 #[sV e4 k2 k3,iV 0,.int .i8 0,sV a3 n24 c25,iV 0,.int .i8 0] 185),(eA e4 (intC .u8) ((a9++d1)++([10])) k4 5),(eA a3 (intC .u8) b9 d0 5),(eC b7 #[.slice d2 d3 d4] 27)]) rfl ?_;refine Zj ?_;refine Yv ?_;exact Ri H ⟨[(eC b1 #[sV e4 k2 k3,iV 0,.int .i8 0,sV a3 n24 c25,iV 0,.int .i8 0] 185),(eA e4 (intC .u8) ((a9++d1)++([10])) k4 5),(eA a3 (intC .u8) b9 d0 5)],rfl,⟨k2,k3,e4,k4,n24,c25,a3,d0,rfl,k5,k6,g5,g6,g7,e9,e1,f0,e2,f2⟩⟩ (Zd Ul (Zd Ze (Zd Ze (Zd Ze Zf))))
 ·rintro ⟨a9,b9⟩ ht g8 _ _ ⟨a4,c14,a2,c9,n24,c25,a3,d0,rfl,e6,d8,e7,d9,e8,e9,e1,f0,e2,f2⟩ ⟨d5,d6,d7,rfl⟩;subst ht;have H:(some (a9,b9))=some (r0,r1):=l8;refine Rj (H:=[(eC b7 #[.slice d5 d6 d7] 27),(some g8,mkO),(eC b6 #[nV b3 1 1] 27),(eC b8 #[iV 0] 3),(eA (some b3) (intC .u8) ([10]) ([]) 5),(eC b1 #[sV a2 a4 c14,iV 0,.int .i8 0,sV a3 n24 c25,iV 0,.int .i8 0] 185),(eA a2 (intC .u8) a9 c9 5),(eA a3 (intC .u8) b9 d0 5)]) rfl ?_;refine Yv ?_;refine Yb ?_;refine sR Y6 rfl ?_;refine Z7o (o2:=0) Zb Z77 Z7c (by decide) (by decide) rfl ?_;refine TO.bwY (ρ:=Z1h) (ob:=a2) (n:=a4) (c:=c14) (cs:=[sV a2 a4 c14,iV 0,.int .i8 0,sV a3 n24 c25,iV 0,.int .i8 0]) (q:=0) Z35 Z3p Za Jl Yp d8 d9 e8 ?_;refine Z7o (o2:=3) Zb Z77 Z7c (by decide) (by decide) rfl ?_;refine TO.bwY (ρ:=Z1h) (ob:=a3) (n:=n24) (c:=c25) (cs:=[sV a2 a4 c14,iV 0,.int .i8 0,sV a3 n24 c25,iV 0,.int .i8 0]) (q:=3) Z35 Z3p Za Jl Yp e1 e2 f2 ?_;refine Zy Za ?_;refine aN Za ?_;refine Zo (aT [2,3] rfl) ?_;refine T.ret ?_;obtain ⟨rfl,rfl⟩:=ret2 H;exact Z56 [g8] Zb (Zd Zn (Zv _)) (Res.tmp rfl) (Res.tmp rfl) (Zd Jl (Zd Jl Zf)) ⟨a2,a4,c14,c9,a3,n24,c25,d0,rfl,rfl,e6,d8,e7,d9,e9,e1,f0,e2⟩
 ·intro x;exact nomatch x
theorem Ziz {n0:Net}{out1:List Int}{a3 a4:Option Addr}{a6 a7 a5 a8:Nat}(w:World)(a2:RS w [] Zu 3 a3 a6 a7 n0.Arcs)(a9:RS w [] (intC .u8) 1 a4 a5 a8 out1)(hG:GK Tryz.prog w []){r0:Int}{r1:Int}(H:Zao n0 out1=some (r0,r1)):Fnc Tryz.prog 32 #[.agg #[iV n0.N,iV n0.S,iV n0.T,.slice a3 a6 a7],.slice a4 a5 a8] w [] (fun v N=>v=.tuple #[iV r0,iV r1]∧N=[]):=by
 unfold Zao at H;refine Fnc.enter (vs:=[.agg #[iV n0.N,iV n0.S,iV n0.T,.slice a3 a6 a7],.slice a4 a5 a8]) Tryz.func32 rfl rfl (Inv.refl w) ?_;refine sR Y3 rfl ?_;refine Xz Za ?_;intro b1;refine Zy Za ?_;refine aN Za ?_;refine Zi ?_;obtain ⟨⟨r3,r4⟩,e5,H⟩:=Zm H;refine rG Y7 rfl ?_;refine Zc Za ?_;refine Zw Zjj Za (fun wc hwc=>Ziy (out0:=out1) wc (a9.mono hwc) e5) ?_;rintro _ _ ⟨f5,n7,c8,j9,e1,f6,f7,e2,rfl,rfl,d0,d1,e3,d2,d3,d4,e4,d5⟩;refine Zc Za ?_;refine TO.extract Zb ?_;refine TO.extract Zb ?_;refine Zy Za ?_;refine aN Za ?_;refine Zo (aT [2,6,7] rfl) ?_;refine Zi ?_;obtain ⟨⟨d8,f8⟩,e6,H⟩:=Zm H;refine rG Y8 rfl ?_;refine Xj Za Yy Wj rfl ?_;refine Zc Za ?_;refine Zw Zhp Za (fun wc hwc=>Zga (n0:=n0) (b1:=r3) wc (a2.mono hwc) (hwc.rs (f:=(intC .u8)) (s:=1) (xs:=r3) (j:=j9) (fun _=>rfl) Zh d0 d1 d2) (hG.mono hwc) e6) ?_;rintro _ _ ⟨e7,n28,c29,f9,rfl,rfl,b6,b7,e8,b8⟩;refine Zc Za ?_;refine TO.extract Zb ?_;refine TO.extract Zb ?_;refine Zy Za ?_;refine aN Za ?_;refine Zi ?_;refine sR Y2 rfl ?_;refine Zc Za ?_;refine Zr Zl ?_;refine dN ?_;refine Zo (aT [2,7,8,9,25] rfl) ?_;rcases Zq H with ⟨d6,H⟩ | ⟨d6,H⟩
 ·refine Yx rfl d6 ?_;refine sR Y3 rfl ?_;refine Zc Za ?_;refine Zy Za ?_;refine aN Za ?_;refine T.ret ?_;refine Yc ?_;obtain ⟨rfl,rfl⟩:=ret2 H;exact Xe Za (Res.tmp rfl) (Res.tmp rfl) Zf ⟨rfl,rfl⟩
 ·
  refine Yu rfl d6 ?_;refine T.skip ?_;refine Yb ?_;refine Zi ?_;obtain ⟨⟨d9,g0⟩,e9,H⟩:=Zm H;refine rG Y8 rfl ?_;refine Xj Za Yy Un rfl ?_;refine Zc Za ?_;refine Zw Zl0 Za (fun wc hwc=>Zhw (n0:=n0) (b1:=r4) wc (a2.mono hwc) (hwc.rs (f:=(intC .u8)) (s:=1) (xs:=r4) (j:=e2) (fun _=>rfl) Wj d3 d4 d5) (hG.mono hwc) e9) ?_;rintro _ _ ⟨f0,n41,g1,g2,rfl,rfl,b9,c4,f2,c9⟩;refine Zc Za ?_;refine TO.extract Zb ?_;refine TO.extract Zb ?_;refine Zy Za ?_;refine aN Za ?_;refine Zo (aT [2,8,9,10] rfl) ?_;refine Zi ?_;refine sR Y2 rfl ?_;refine Zc Za ?_;refine Zr Zl ?_;refine dN ?_;rcases Zq H with ⟨d7,H⟩ | ⟨d7,H⟩
  ·refine Yx rfl d7 ?_;refine sR Y3 rfl ?_;refine Zc Za ?_;refine Zy Za ?_;refine aN Za ?_;refine T.ret ?_;refine Yc ?_;obtain ⟨rfl,rfl⟩:=ret2 H;exact Xe Za (Res.tmp rfl) (Res.tmp rfl) Zf ⟨rfl,rfl⟩
  ·refine Yu rfl d7 ?_;refine T.skip ?_;refine Yb ?_;refine Zi ?_;obtain ⟨⟨g3,g4⟩,f3,H⟩:=Zm H;refine rG Y9 rfl ?_;refine Xj Za Yy Vo rfl ?_;refine Zc Za ?_;refine Zc Za ?_;refine Zw Zkq Za (fun wc hwc=>Zjs (n0:=n0) (f1:=d8) (s2:=d9) wc (a2.mono hwc) (rsI hwc Yk b6 b7 b8) (rsB hwc Zh b9 c4 c9) f3) ?_;rintro _ _ ⟨rfl,rfl⟩;refine Zc Za ?_;refine TO.extract Zb ?_;refine TO.extract Zb ?_;refine Zy Za ?_;refine aN Za ?_;refine Zo (aT [2,8,10,11] rfl) ?_;refine Zi ?_;obtain ⟨g5,f4,H⟩:=Zm H;refine rG Y7 rfl ?_;refine Zc Za ?_;refine Xj Za Yy Vo rfl ?_;refine Zc Za ?_;refine Zc Za ?_;refine Zw Zfv Za (fun wc hwc=>Zlf (n0:=n0) (f1:=d8) (s2:=d9) wc (a2.mono hwc) (rsI hwc Yk b6 b7 b8) (rsB hwc Zh b9 c4 c9) f4) ?_;rintro _ _ ⟨rfl,rfl⟩;refine Zy Za ?_;refine aN Za ?_;refine Zo (aT [4,5] rfl) ?_;refine T.ret ?_;obtain ⟨rfl,rfl⟩:=ret2 H;exact Xe Za (Res.tmp rfl) (Res.tmp rfl) Zf ⟨rfl,rfl⟩
theorem Zcq {b0 out1:List Int}{a6 a2:Option Addr}{a8 a7 a3 a4:Nat}(w:World)(a9:RS w [] (intC .u8) 1 a6 a8 a7 b0)(a5:RS w [] (intC .u8) 1 a2 a3 a4 out1)(hG:GK Tryz.prog w []){r0:Int}{r1:Int}(H:Z4q b0 out1=some (r0,r1)):Fnc Tryz.prog 11 #[.slice a6 a8 a7,.slice a2 a3 a4] w [] (fun v N=>v=.tuple #[iV r0,iV r1]∧N=[]):=by
 unfold Z4q at H;refine Fnc.enter (vs:=[.slice a6 a8 a7,.slice a2 a3 a4]) Tryz.func11 rfl rfl (Inv.refl w) ?_;refine sR Y2 rfl ?_;refine Zy Za ?_;refine aN Za ?_;refine Zi ?_;obtain ⟨⟨r1,r2⟩,e3,H⟩:=Zm H;refine rG Y8 rfl ?_;refine Zc Za ?_;refine Zw Zdz Za (fun wc hwc=>Zcg (b0:=b0) wc (a9.mono hwc) (hG.mono hwc) e3) ?_;rintro _ _ ⟨d0,n5,c6,j7,rfl,rfl,b8,b9,c4,b6⟩;refine Zc Za ?_;refine TO.extract Zb ?_;refine TO.extract Zb ?_;refine Wb Zk Rz ?_;intro d1;refine Xx Za Ze Gu Zk ?_;refine aN Za ?_;refine Zo (aT [1,6,7] rfl) ?_;refine Zi ?_;refine sR Y2 rfl ?_;refine Zc Za ?_;refine Zr Zl ?_;refine dN ?_;rcases Zq H with ⟨b7,H⟩ | ⟨b7,H⟩
 ·refine Yx rfl b7 ?_;refine sR Y3 rfl ?_;refine Zc Za ?_;refine Zy Za ?_;refine aN Za ?_;refine T.ret ?_;refine Yc ?_;obtain ⟨rfl,rfl⟩:=ret2 H;exact Xe Za (Res.tmp rfl) (Res.tmp rfl) Zf ⟨rfl,rfl⟩
 ·refine Yu rfl b7 ?_;refine T.skip ?_;refine Yb ?_;refine Zi ?_;obtain ⟨⟨d2,d3⟩,c9,H⟩:=Zm H;refine rG Y7 rfl ?_;refine Xj Za Yy Zh rfl ?_;refine Zc Za ?_;refine Zw Zhg Za (fun wc hwc=>Ziz (n0:=r1) (out1:=out1) wc (hwc.rs (f:=Zu) (s:=3) (xs:=r1.Arcs) (j:=j7) (fun _=>rfl) Yk b8 b9 b6) (a5.mono hwc) (hG.mono hwc) c9) ?_;rintro _ _ ⟨rfl,rfl⟩;refine TO.extract Zb ?_;refine TO.extract Zb ?_;refine Zy Za ?_;refine aN Za ?_;refine Zo (aT [4,5] rfl) ?_;refine T.ret ?_;obtain ⟨rfl,rfl⟩:=ret2 H;exact Xe Za (Res.tmp rfl) (Res.tmp rfl) Zf ⟨rfl,rfl⟩
theorem Zbb (w:World)(hG:GK Tryz.prog w []){r0:Bool}(H:Z3x=some r0):Fnc Tryz.prog 16 #[] w [] (fun v N=>v=.bool r0∧N=[]):=by
 unfold Z3x at H;refine Fnc.enter (vs:=[]) Tryz.func16 rfl rfl (Inv.refl w) ?_;refine sR Y1 rfl ?_;refine aN Za ?_;refine sR Y3 rfl ?_;refine Km [.int .u8 0,.int .u8 0,.int .u8 0,.int .u8 0,.int .u8 0,.int .u8 0,.int .u8 0,.int .u8 0,.int .u8 0,.int .u8 0,.int .u8 0,.int .u8 0,.int .u8 0,.int .u8 0,.int .u8 0,.int .u8 0,.int .u8 0,.int .u8 0,.int .u8 0,.int .u8 0,.int .u8 0,.int .u8 0,.int .u8 0,.int .u8 0,.int .u8 0,.int .u8 0,.int .u8 0,.int .u8 0,.int .u8 0,.int .u8 0] [0,1,2,3,4,5,6,7,8,9,10,11,12,13,14,15,16,17,18,19,20,21,22,23,24,25,26,27,28,29] Za Xq Jd TWQSY.z5 Yp (by simp only [Xo,setCells,Value.cells,List.toList_toArray,List.getD_cons_zero,List.getD_cons_succ,List.set_cons_zero,List.set_cons_succ];rfl) (by kernel_rfl) ?_;intro b1;refine Zat Za Xq TWQSY.v5 Ze ?_;intro g1;refine aN Za ?_;refine Zi ?_;obtain ⟨⟨r7,r8⟩,e9,H⟩:=Zm H;refine rG Y9 rfl ?_;refine Zc Za ?_;refine Km [.int .u8 0,.int .u8 0,.int .u8 0,.int .u8 0,.int .u8 0,.int .u8 0,.int .u8 0,.int .u8 0,.int .u8 0,.int .u8 0,.int .u8 0,.int .u8 0,.int .u8 0,.int .u8 0,.int .u8 0,.int .u8 0] [0,1,2,3,4,5,6,7,8,9,10,11,12,13,14,15] Za Xq Jd TWQSY.z5 Yp (by simp only [Xo,setCells,Value.cells,List.toList_toArray,List.getD_cons_zero,List.getD_cons_succ,List.set_cons_zero,List.set_cons_succ];rfl) (by kernel_rfl) ?_;intro b4;refine Zat Za Xq TWQSY.v5 Ze ?_;intro g2;refine Zw Ze5 Za (fun wc hwc=>Zcq (b0:=[112,32,109,97,120,32,50,32,49,10,110,32,49,32,115,10,110,32,50,32,116,10,97,32,49,32,50,32,55,10]) (out1:=[115,32,54,10,102,32,49,32,50,32,54,10,107,32,49,10]) wc (hwc.rs (f:=(intC .u8)) (s:=1) (xs:=[112,32,109,97,120,32,50,32,49,10,110,32,49,32,115,10,110,32,50,32,116,10,97,32,49,32,50,32,55,10]) (j:=([])) (fun _=>rfl) Yk rfl (Nat.le_refl _) Wa) (hwc.rs (f:=(intC .u8)) (s:=1) (xs:=[115,32,54,10,102,32,49,32,50,32,54,10,107,32,49,10]) (j:=([])) (fun _=>rfl) Zh rfl (Nat.le_refl _) Wa) (hG.mono hwc) e9) ?_;rintro _ _ ⟨rfl,rfl⟩;refine Zc Za ?_;refine TO.extract Zb ?_;refine TO.extract Zb ?_;refine Zy Za ?_;refine aN Za ?_;refine Zo (aT [1,3] rfl) ?_;refine Zi ?_;obtain ⟨⟨b6,d0⟩,f2,H⟩:=Zm H;refine rG Y9 rfl ?_;refine Zc Za ?_;refine Km [.int .u8 0,.int .u8 0,.int .u8 0,.int .u8 0,.int .u8 0,.int .u8 0,.int .u8 0,.int .u8 0,.int .u8 0,.int .u8 0,.int .u8 0,.int .u8 0,.int .u8 0,.int .u8 0,.int .u8 0,.int .u8 0] [0,1,2,3,4,5,6,7,8,9,10,11,12,13,14,15] Za Xq Jd TWQSY.z5 Yp (by simp only [Xo,setCells,Value.cells,List.toList_toArray,List.getD_cons_zero,List.getD_cons_succ,List.set_cons_zero,List.set_cons_succ];rfl) (by kernel_rfl) ?_;intro g3;refine Zat Za Xq TWQSY.v5 Ze ?_;intro f3;refine Zw Ze5 Za (fun wc hwc=>Zcq (b0:=[112,32,109,97,120,32,50,32,49,10,110,32,49,32,115,10,110,32,50,32,116,10,97,32,49,32,50,32,55,10]) (out1:=[115,32,55,10,102,32,49,32,50,32,55,10,107,32,49,10]) wc (hwc.rs (f:=(intC .u8)) (s:=1) (xs:=[112,32,109,97,120,32,50,32,49,10,110,32,49,32,115,10,110,32,50,32,116,10,97,32,49,32,50,32,55,10]) (j:=([])) (fun _=>rfl) Wj rfl (Nat.le_refl _) Wa) (hwc.rs (f:=(intC .u8)) (s:=1) (xs:=[115,32,55,10,102,32,49,32,50,32,55,10,107,32,49,10]) (j:=([])) (fun _=>rfl) Zh rfl (Nat.le_refl _) Wa) (hG.mono hwc) f2) ?_;rintro _ _ ⟨rfl,rfl⟩;refine Zc Za ?_;refine TO.extract Zb ?_;refine TO.extract Zb ?_;refine Zy Za ?_;refine aN Za ?_;refine Zi ?_;obtain ⟨a5,d1,H⟩:=Zm H;rcases Zq H with ⟨c9,H⟩ | ⟨c9,H⟩
 ·
  obtain ⟨a9,e5,H⟩:=Zm H;rcases Zq H with ⟨d2,H⟩ | ⟨d2,H⟩
  ·
   obtain ⟨d3,f4,H⟩:=Zm H;refine rG Y29 rfl ?_;refine Zc Za ?_;refine Zw Z1b Za (fun wc hwc=>Z17 (plan0:=([50,32,53]:Str)) (b1:=[112,32,109,97,120,32,50,32,49,10,110,32,49,32,115,10,110,32,50,32,116,10,97,32,49,32,50,32,55,10]) wc (hwc.rs (f:=(intC .u8)) (s:=1) (xs:=[112,32,109,97,120,32,50,32,49,10,110,32,49,32,115,10,110,32,50,32,116,10,97,32,49,32,50,32,55,10]) (j:=([])) (fun _=>rfl) Wj rfl (Nat.le_refl _) Wa) (hG.mono hwc) d1) ?_;rintro _ _ ⟨b7,e6,c20,b8,b9,rfl,rfl,a2,a3,c4,a4⟩;refine Rr (xs:=a5) Za Xq TWQSY.v5 Kv (fun wc hwc=>(hwc.rs (f:=(intC .u8)) (s:=1) (xs:=a5) (j:=b8) (fun _=>rfl) Zh a2 a3 a4)) ?_;refine Vy (p:=(bu a5)) (q:=([115,32,55,10,102,32,49,32,50,32,55,10,107,32,49,10]:Str)) Zb ?_;refine Zc Za ?_;refine Ya (t:=26) (b':=true) rfl (decide_eq_true c9) ?_;refine Zc Za ?_;refine Zw Z1b Za (fun wc hwc=>Z17 (plan0:=([48,32,53]:Str)) (b1:=[112,32,109,97,120,32,50,32,49,10,110,32,49,32,115,10,110,32,50,32,116,10,97,32,49,32,50,32,55,10]) wc (hwc.rs (f:=(intC .u8)) (s:=1) (xs:=[112,32,109,97,120,32,50,32,49,10,110,32,49,32,115,10,110,32,50,32,116,10,97,32,49,32,50,32,55,10]) (j:=([])) (fun _=>rfl) Un rfl (Nat.le_refl _) Wa) (hG.mono hwc) e5) ?_;rintro _ _ ⟨d4,f5,f6,d5,d6,rfl,rfl,a6,a7,d7,a8⟩;refine Rr (xs:=a9) Za Xq TWQSY.v5 Kv (fun wc hwc=>(hwc.rs (f:=(intC .u8)) (s:=1) (xs:=a9) (j:=d5) (fun _=>rfl) Zh a6 a7 a8)) ?_;refine Vy (p:=(bu a9)) (q:=([101,114,114,111,114,32,52,48,10]:Str)) Zb ?_;refine Yi Zb ?_;refine Zc Za ?_;refine Ya (t:=32) (b':=true) rfl (decide_eq_true d2) ?_;refine Zc Za ?_;refine Zw Z1b Za (fun wc hwc=>Z17 (plan0:=([50]:Str)) (b1:=[112,32,109,97,120,32,50,32,49,10,110,32,49,32,115,10,110,32,50,32,116,10,97,32,49,32,50,32,55,10]) wc (hwc.rs (f:=(intC .u8)) (s:=1) (xs:=[112,32,109,97,120,32,50,32,49,10,110,32,49,32,115,10,110,32,50,32,116,10,97,32,49,32,50,32,55,10]) (j:=([])) (fun _=>rfl) Vo rfl (Nat.le_refl _) Wa) (hG.mono hwc) f4) ?_;rintro _ _ ⟨f7,g4,c46,f8,f9,rfl,rfl,d8,d9,g0,e1⟩;refine Rr (xs:=d3) Za Xq TWQSY.v5 Kv (fun wc hwc=>(hwc.rs (f:=(intC .u8)) (s:=1) (xs:=d3) (j:=f8) (fun _=>rfl) Zh d8 d9 e1)) ?_;refine Vy (p:=(bu d3)) (q:=([101,114,114,111,114,32,55,48,10]:Str)) Zb ?_;refine Yi Zb ?_;refine Zc Za ?_;refine TO.join [17,18,19] [20,21,22,23,24,25,26,27,28] rfl 41 (fun e7=>Z4x b6 d0 e7=some r0) [(4,iV b6),(5,iV d0)] ?_ ?_
   ·
    rcases Zq H with ⟨e2,H⟩ | ⟨e2,H⟩
    ·refine Ya (t:=38) (b':=true) rfl (decide_eq_true e2) ?_;refine Zc Za ?_;refine Zr Zl ?_;refine Yi Zb ?_;refine Zj ?_;exact Jt (b:=(decide (r8=64))) H (aF rfl)
    ·refine Ya (t:=38) (b':=false) rfl (decide_eq_false e2) ?_;refine Zg Za ?_;refine Zg Za ?_;refine Yl Zb ?_;refine Zj ?_;exact Jt (b:=false) H (aF rfl)
   ·
    rintro e7 H;unfold Z4x at H;refine Zc Za ?_;refine TO.join [21,22,23] [24,25,26,27,28] rfl 45 (fun e8=>Z5h b6 e8=some r0) [(4,iV b6)] ?_ ?_
    ·
     rcases Zq H with ⟨e3,H⟩ | ⟨e3,H⟩
     ·refine Ya (t:=42) (b':=true) rfl e3 ?_;refine Zc Za ?_;refine Zr Zl ?_;refine Yi Zb ?_;refine Zj ?_;exact Jt (b:=(decide (d0=0))) H (aF rfl)
     ·refine Ya (t:=42) (b':=false) rfl (Bool.eq_false_iff.2 e3) ?_;refine Zg Za ?_;refine Zg Za ?_;refine Yl Zb ?_;refine Zj ?_;exact Jt (b:=false) H (aF rfl)
    ·
     rintro e8 H;unfold Z5h at H;refine Zc Za ?_;refine TO.join [25,26,27] [28] rfl 49 (fun f0=>Z5p f0=some r0) [] ?_ ?_
     ·
      rcases Zq H with ⟨e4,H⟩ | ⟨e4,H⟩
      ·refine Ya (t:=46) (b':=true) rfl e4 ?_;refine Zc Za ?_;refine Zr Zl ?_;refine Yi Zb ?_;refine Zj ?_;exact Jt (b:=(decide (b6=7))) H (aF rfl)
      ·refine Ya (t:=46) (b':=false) rfl (Bool.eq_false_iff.2 e4) ?_;refine Zg Za ?_;refine Zg Za ?_;refine Yl Zb ?_;refine Zj ?_;exact Jt (b:=false) H (aF rfl)
     ·rintro f0 H;unfold Z5p at H;refine aN Za ?_;refine T.ret ?_;obtain rfl:=ret1 H;exact Ye Za (Res.tmp rfl) Zf ⟨rfl,rfl⟩
  ·refine rG Y29 rfl ?_;refine Zc Za ?_;refine Zw Z1b Za (fun wc hwc=>Z17 (plan0:=([50,32,53]:Str)) (b1:=[112,32,109,97,120,32,50,32,49,10,110,32,49,32,115,10,110,32,50,32,116,10,97,32,49,32,50,32,55,10]) wc (hwc.rs (f:=(intC .u8)) (s:=1) (xs:=[112,32,109,97,120,32,50,32,49,10,110,32,49,32,115,10,110,32,50,32,116,10,97,32,49,32,50,32,55,10]) (j:=([])) (fun _=>rfl) Wj rfl (Nat.le_refl _) Wa) (hG.mono hwc) d1) ?_;rintro _ _ ⟨b7,e6,c20,b8,b9,rfl,rfl,a2,a3,c4,a4⟩;refine Rr (xs:=a5) Za Xq TWQSY.v5 Kv (fun wc hwc=>(hwc.rs (f:=(intC .u8)) (s:=1) (xs:=a5) (j:=b8) (fun _=>rfl) Zh a2 a3 a4)) ?_;refine Vy (p:=(bu a5)) (q:=([115,32,55,10,102,32,49,32,50,32,55,10,107,32,49,10]:Str)) Zb ?_;refine Zc Za ?_;refine Ya (t:=26) (b':=true) rfl (decide_eq_true c9) ?_;refine Zc Za ?_;refine Zw Z1b Za (fun wc hwc=>Z17 (plan0:=([48,32,53]:Str)) (b1:=[112,32,109,97,120,32,50,32,49,10,110,32,49,32,115,10,110,32,50,32,116,10,97,32,49,32,50,32,55,10]) wc (hwc.rs (f:=(intC .u8)) (s:=1) (xs:=[112,32,109,97,120,32,50,32,49,10,110,32,49,32,115,10,110,32,50,32,116,10,97,32,49,32,50,32,55,10]) (j:=([])) (fun _=>rfl) Un rfl (Nat.le_refl _) Wa) (hG.mono hwc) e5) ?_;rintro _ _ ⟨d4,f5,f6,d5,d6,rfl,rfl,a6,a7,d7,a8⟩;refine Rr (xs:=a9) Za Xq TWQSY.v5 Kv (fun wc hwc=>(hwc.rs (f:=(intC .u8)) (s:=1) (xs:=a9) (j:=d5) (fun _=>rfl) Zh a6 a7 a8)) ?_;refine Vy (p:=(bu a9)) (q:=([101,114,114,111,114,32,52,48,10]:Str)) Zb ?_;refine Yi Zb ?_;refine Zc Za ?_;refine Ya (t:=32) (b':=false) rfl (decide_eq_false d2) ?_;refine Zg Za ?_;refine Zg Za ?_;refine Zg Za ?_;refine Zg Za ?_;refine Yl Zb ?_;refine Zc Za ?_;refine Zg Za ?_;refine Zg Za ?_;refine Yl Zb ?_;refine Zc Za ?_;refine Zg Za ?_;refine Zg Za ?_;refine Yl Zb ?_;refine Zc Za ?_;refine Zg Za ?_;refine Zg Za ?_;refine Yl Zb ?_;refine aN Za ?_;refine Zo (aT [0] rfl) ?_;refine T.ret ?_;obtain rfl:=ret1 H;exact Ye Za (Res.tmp rfl) Zf ⟨rfl,rfl⟩
 ·refine rG Y29 rfl ?_;refine Zc Za ?_;refine Zw Z1b Za (fun wc hwc=>Z17 (plan0:=([50,32,53]:Str)) (b1:=[112,32,109,97,120,32,50,32,49,10,110,32,49,32,115,10,110,32,50,32,116,10,97,32,49,32,50,32,55,10]) wc (hwc.rs (f:=(intC .u8)) (s:=1) (xs:=[112,32,109,97,120,32,50,32,49,10,110,32,49,32,115,10,110,32,50,32,116,10,97,32,49,32,50,32,55,10]) (j:=([])) (fun _=>rfl) Wj rfl (Nat.le_refl _) Wa) (hG.mono hwc) d1) ?_;rintro _ _ ⟨b7,e6,c20,b8,b9,rfl,rfl,a2,a3,c4,a4⟩;refine Rr (xs:=a5) Za Xq TWQSY.v5 Kv (fun wc hwc=>(hwc.rs (f:=(intC .u8)) (s:=1) (xs:=a5) (j:=b8) (fun _=>rfl) Zh a2 a3 a4)) ?_;refine Vy (p:=(bu a5)) (q:=([115,32,55,10,102,32,49,32,50,32,55,10,107,32,49,10]:Str)) Zb ?_;refine Zc Za ?_;refine Ya (t:=26) (b':=false) rfl (decide_eq_false c9) ?_;refine Zg Za ?_;refine Zg Za ?_;refine Zg Za ?_;refine Zg Za ?_;refine Yl Zb ?_;refine Zc Za ?_;refine Zg Za ?_;refine Zg Za ?_;refine Zg Za ?_;refine Zg Za ?_;refine Yl Zb ?_;refine Zc Za ?_;refine Zg Za ?_;refine Zg Za ?_;refine Yl Zb ?_;refine Zc Za ?_;refine Zg Za ?_;refine Zg Za ?_;refine Yl Zb ?_;refine Zc Za ?_;refine Zg Za ?_;refine Zg Za ?_;refine Yl Zb ?_;refine aN Za ?_;refine Zo (aT [0] rfl) ?_;refine T.ret ?_;obtain rfl:=ret1 H;exact Ye Za (Res.tmp rfl) Zf ⟨rfl,rfl⟩
end Go.Proofs.YtddknfpolkkbjaaGreatDoor.Ax
namespace Go.Proofs.YtddknfpolkkbjaaGreatDoor.Ax
open Go Go.Acq Go.RowKit Go.Proofs
set_option maxHeartbeats 8000000
set_option maxRecDepth 20000
theorem Zkb:Zz Tryz.prog 21=true:=by kernel_rfl
theorem Z5j:Zz Tryz.prog 25=true:=by kernel_rfl
theorem Z5d:Zz Tryz.prog 26=true:=by kernel_rfl
theorem Zlp (w:World){x0:List Str}{s1:Str}{a2:Option Addr}{a4 a3:Nat}(a5:RS w [] Yq 1 a2 a4 a3 x0){r0:Str}(H:Zc2 x0 s1=some r0):Fnc Tryz.prog 21 #[.slice a2 a4 a3,.string (bs s1)] w [] (fun v N=>v=.string (bs r0)∧N=[]):=by
 unfold Zc2 at H;obtain ⟨g,H1⟩:=Zx H;clear H;injection H1 with H;subst H;exact Fnc.join Zlu Zh5 s1 w a5 g.1 g.2
theorem Z5t {w0 w:World}{b n c nn cc:Nat}{lr:Int}{ob:Option Nat}{xs:List Int}{j:List Value}{H R R1:Heap}{base:Option Addr}{ws:List Str}(hwc:Inv w0 [] w H)(hb:Take (eC b #[sV ob n c,iV 0,.int .i8 lr] 69) H R1)(hr:Take (eA ob (intC .u8) xs j 5) R1 R)(hR:Z3c 5 R=true)(hn:xs.length=n)(hc:n≤c)(hj:j.length=(c-n)*1)(hz:ob=none→c=0)(hB:BufO ob b c)(hws:∀ wc,Inv w0 [] wc H→RS wc [] Yq 1 base nn cc ws)(g:ws.length≤140737488355328∧(xs++ub (Lib.join ws [32]++[10])).length≤140737488355328):Calls Tryz.prog 25 #[pV b,.slice base nn cc] w (fun e w'=>∃ v H',SdP 69 5 xs (Lib.join ws [32]++[10]) b R v H'∧e=.returned v∧Inv w0 [] w' H'):=by
 have gl:=g.2;rw [List.length_append,Gc] at gl;have gj:(Lib.join ws [32]).length≤140737488355328:=by rw [List.length_append] at gl;omega
 refine Zia (vs:=[pV b,.slice base nn cc]) Tryz.func25 rfl rfl hwc ?_;refine rG Y5 rfl ?_;refine Zc Za ?_;refine Zc Za ?_;refine Zw Zkb Za (fun wc hwc=>Zlp (x0:=ws) (s1:=[32]) wc (hws wc hwc) (if_pos ⟨g.1,gj⟩)) ?_;rintro _ _ ⟨rfl,rfl⟩;refine Gx (p:=Lib.join ws [32]) (q:=[10]) (by unfold slok;rw [List.length_append,List.length_singleton];omega) Zb ?_;refine Z60 (ρ:=Z2y) (s:=(Lib.join ws [32]++[10])) (xs:=xs) (j:=j) (lr:=lr) Z4v g.2 rfl Z5n Zb hb hr hR hn hc hj hz hB ?_;intro ob2 n2 c2 j2 a2 h1 h2 h3 h4 h5;refine Zj ?_;refine Jy ?_;exact X.retW Yp (fun w hi=>⟨_,_,⟨rfl,_,_,_,_,_,h1,h2,h3,h4,h5,rfl⟩,rfl,hi⟩)
theorem Z4n {v0:Int}(w:World)(hG:GK Tryz.prog w []){r0:Str}(H:Rc v0=some r0):Fnc Tryz.prog 26 #[iV v0] w [] (fun v N=>v=.string (bs r0)∧N=[]):=by
 unfold Rc at H;refine Fnc.enter (vs:=[iV v0]) Tryz.func26 rfl rfl (Inv.refl w) ?_;refine sR Y1 rfl ?_;refine aN Za ?_;refine Zi ?_;obtain ⟨g1,H⟩:=Zx H;obtain ⟨r2,e3,H⟩:=Zm H;refine rG Y4 rfl ?_;refine Zc Za ?_;refine Xt g1 Zb ?_;refine Zw Lt Za (fun wc hwc=>Lp (i0:=(v0+1)) wc (hG.mono hwc) e3) ?_;rintro _ _ ⟨rfl,rfl⟩;refine aN Za ?_;refine T.ret ?_;obtain rfl:=ret1 H;exact Ye Za (Res.tmp rfl) Zf ⟨rfl,rfl⟩
theorem Zlr {n0:Net}{a7:Option Addr}{a8 a9:Nat}(w:World)(a5:RS w [] Zu 3 a7 a8 a9 n0.Arcs)(hG:GK Tryz.prog w []){r0:List Int}{r1:Int}(H:Z3v n0=some (r0,r1)):Fnc Tryz.prog 7 #[.agg #[iV n0.N,iV n0.S,iV n0.T,.slice a7 a8 a9]] w [] (fun v N=>∃ (d1:Option Nat) (f4 f5:Nat) (j6:List Value),v=.tuple #[sV d1 f4 f5,iV r1]∧N=[(eA d1 (intC .u8) r0 j6 5)]∧r0.length=f4∧f4≤f5∧j6.length=(f5-f4)*1∧(d1=none→f5=0)):=by
 unfold Z3v at H;refine Fnc.enter (vs:=[.agg #[iV n0.N,iV n0.S,iV n0.T,.slice a7 a8 a9]]) Tryz.func7 rfl rfl (Inv.refl w) ?_;refine sR Y3 rfl ?_;refine Xz Za ?_;intro b1;refine Zy Za ?_;refine aN Za ?_;refine Zi ?_;refine Zi ?_;obtain ⟨r3,e4,H⟩:=Zm H;refine rG Y3 rfl ?_;refine Xj Za Yy Zh rfl ?_;refine Zw Ny Za (fun wc hwc=>Lh (n0:=n0) wc (a5.mono hwc) e4) ?_;rintro _ _ ⟨rfl,rfl⟩;refine aN Za ?_;refine sR Y2 rfl ?_;refine Zc Za ?_;refine Zr Zl ?_;refine dN ?_;rcases Zq H with ⟨g5,H⟩ | ⟨g5,H⟩
 ·refine Yx rfl g5 ?_;refine sR Y3 rfl ?_;refine Zc Za ?_;refine Zy Za ?_;refine aN Za ?_;refine Zo (aT [2,3] rfl) ?_;refine T.ret ?_;refine Yc ?_;obtain ⟨rfl,rfl⟩:=ret2 H;exact Xe Za (Res.tmp rfl) (Res.tmp rfl) (Pick.none Zf) ⟨none,0,0,([]),rfl,rfl,rfl,(Nat.le_refl _),(Xg 0 _),(fun _=>rfl)⟩
 ·
  refine Yu rfl g5 ?_;refine T.skip ?_;refine Yb ?_;refine Zo (aT [1] rfl) ?_;refine sR Y1 rfl ?_;refine Wb Zk Z8m ?_;intro b6;refine dS ?_;obtain ⟨r8,e9,H⟩:=Zm H;obtain ⟨d4,j9,H⟩:=Zm H;obtain ⟨k1,H⟩:=Zx H;refine Ws 6 [0,1,2,3,4,5] rfl Xu (by kernel_rfl) (by kernel_rfl) rfl (by kernel_rfl) ?_;refine Yn Za Vq ?_;refine Yw Za Yf Yk rfl ?_;refine Gt Lt Za (fun wc hwc=>Lp (i0:=n0.N) wc (hG.mono hwc) e9) (by rintro _ _ ⟨rfl,rfl⟩;rfl) ?_;refine Yn Za Wz ?_;refine Yw Za Vk Yk rfl ?_;refine Rn (xs:=n0.Arcs) a5.len Zb Xv ?_;refine TQ.tail [6,7,8] Yp ?_;refine Zw Lt Za (fun wc hwc=>Lp (i0:=(n0.Arcs.length:Int)) wc (hG.mono hwc) j9) ?_;rintro _ _ ⟨rfl,rfl⟩;refine Km [.string ByteArray.empty,.string ByteArray.empty,.string ByteArray.empty,.string ByteArray.empty] [0,1,2,3] Za Xr Wr Z1g Yp (by simp only [Xo,setCells,Value.cells,List.toList_toArray,List.getD_cons_zero,List.getD_cons_succ,List.set_cons_zero,List.set_cons_succ];rfl) (by kernel_rfl) ?_;intro m5;refine TO.addNone (.cells (arr (intC .u8) ([]:List Int) []).toArray 5 (0,0)) ?_;refine Z5a rfl Z5j Zb (fun wc hwc=>Z5t (xs:=([]:List Int)) (j:=([])) (lr:=0) (ws:=[([112]:Str),([109,97,120]:Str),r8,d4]) hwc Yo Ze rfl rfl (Nat.le_refl _) (Xg 0 _) (fun _=>rfl) (BufO.nil _) (fun wc hwc=>(hwc.rs (f:=Yq) (s:=1) (xs:=[([112]:Str),([109,97,120]:Str),r8,d4]) (j:=([])) (fun _=>rfl) Yk rfl (Nat.le_refl _) Wa)) k1) ?_;intro k2 m6 c18 k3 f7 f8 f9 g0 g1 g2;refine dN ?_;refine Zo (aT [1,5] rfl) ?_;refine Zi ?_;obtain ⟨f6,k4,H⟩:=Zm H;obtain ⟨k5,H⟩:=Zx H;refine rG Y5 rfl ?_;refine Zs Za Ku ?_;refine Zt Za Yf Un rfl ?_;refine Zw Z5d Za (fun wc hwc=>Z4n (v0:=n0.S) wc (hG.mono hwc) k4) ?_;rintro _ _ ⟨rfl,rfl⟩;refine Km [.string ByteArray.empty,.string ByteArray.empty,.string ByteArray.empty] [0,1,2] Za Xr Wr Z1g Yp (by simp only [Xo,setCells,Value.cells,List.toList_toArray,List.getD_cons_zero,List.getD_cons_succ,List.set_cons_zero,List.set_cons_succ];rfl) (by kernel_rfl) ?_;intro m7;refine Z5a rfl Z5j Zb (fun wc hwc=>Z5t (xs:=(([]:List Int)++ub (Lib.join ([([112]:Str),([109,97,120]:Str),r8,d4]) [32]++[10]))) (j:=k3) (lr:=f7) (ws:=[([110]:Str),f6,([115]:Str)]) hwc Zn Zn rfl f8 f9 g0 g1 g2 (fun wc hwc=>(hwc.rs (f:=Yq) (s:=1) (xs:=[([110]:Str),f6,([115]:Str)]) (j:=([])) (fun _=>rfl) Zh rfl (Nat.le_refl _) Wa)) k5) ?_;intro k6 n33 c34 k7 g3 g4 g6 g7 g8 g9;refine dS ?_;obtain ⟨h0,k8,H⟩:=Zm H;obtain ⟨k9,H⟩:=Zx H;refine rG Y5 rfl ?_;refine Zs Za Gb ?_;refine Zt Za Yf Vo rfl ?_;refine Zw Z5d Za (fun wc hwc=>Z4n (v0:=n0.T) wc (hG.mono hwc) k8) ?_;rintro _ _ ⟨rfl,rfl⟩;refine Km [.string ByteArray.empty,.string ByteArray.empty,.string ByteArray.empty] [0,1,2] Za Xr Wr Z1g Yp (by simp only [Xo,setCells,Value.cells,List.toList_toArray,List.getD_cons_zero,List.getD_cons_succ,List.set_cons_zero,List.set_cons_succ];rfl) (by kernel_rfl) ?_;intro m8;refine Z5a rfl Z5j Zb (fun wc hwc=>Z5t (xs:=((([]:List Int)++ub (Lib.join ([([112]:Str),([109,97,120]:Str),r8,d4]) [32]++[10]))++ub (Lib.join ([([110]:Str),f6,([115]:Str)]) [32]++[10]))) (j:=k7) (lr:=g3) (ws:=[([110]:Str),h0,([116]:Str)]) hwc Zn Zn rfl g4 g6 g7 g8 g9 (fun wc hwc=>(hwc.rs (f:=Yq) (s:=1) (xs:=[([110]:Str),h0,([116]:Str)]) (j:=([])) (fun _=>rfl) Zh rfl (Nat.le_refl _) Wa)) k9) ?_;intro h1 l0 c50 l1 h2 h3 h4 h5 h6 h7;refine dN ?_;refine Zo (aT [1,5] rfl) ?_;refine Zi ?_;refine sR Y4 rfl ?_;refine Zs Za Wz ?_;refine Zt Za Vk Vl rfl ?_;refine Yt (xs:=n0.Arcs) a5.len Zb Xv ?_;refine Zc Za ?_;refine dN ?_;refine Z2z (fun (a3:List Int) (d2 c99:Nat) (a4:Option Nat) (c4:List Value) (b7:Int)=>Z70 a3=some (r0,r1)∧a3.length=d2∧d2≤c99∧c4.length=(c99 - d2)*1∧(a4=none→c99=0)∧BufO a4 b6 c99) (fun (a3:List Int) (d2 c99:Nat) (a4:Option Nat) (c4:List Value) (b7:Int)=>[(5,pV b6)]) (fun (a3:List Int) (d2 c99:Nat) (a4:Option Nat) (c4:List Value) (b7:Int)=>[(eC b6 #[sV a4 d2 c99,iV 0,.int .i8 b7] 69),(eA a4 (intC .u8) a3 c4 5)]) ?_ ?_
  ·
   refine T.block ?_;obtain ⟨l3,l4,l5⟩:=Zm H;refine Z9l (fun (d3:Nat) (a2:List Int) (c9 c61:Nat) (a6:Option Nat) (d0:List Value) (b8 b9:Int)=>Xd (fun s=>Z3o n0 s.1 s.2) d3 (a2,b9)=some l3∧a2.length=c9∧c9≤c61∧d0.length=(c61 - c9)*1∧(a6=none→c61=0)∧BufO a6 b6 c61) (fun (d3:Nat) (a2:List Int) (c9 c61:Nat) (a6:Option Nat) (d0:List Value) (b8 b9:Int)=>[(5,pV b6),(33,.slice a7 a8 a9),(34,iV (n0.Arcs.length:Int)),(35,iV b9)]) (fun (d3:Nat) (a2:List Int) (c9 c61:Nat) (a6:Option Nat) (d0:List Value) (b8 b9:Int)=>[(eC b6 #[sV a6 c9 c61,iV 0,.int .i8 b8] 69),(eA a6 (intC .u8) a2 d0 5)]) (fun (d3:Nat) (a2:List Int) (c9 c61:Nat) (a6:Option Nat) (d0:List Value) (b8 b9:Int)=>d3) Xf (((([]:List Int)++ub (Lib.join ([([112]:Str),([109,97,120]:Str),r8,d4]) [32]++[10]))++ub (Lib.join ([([110]:Str),f6,([115]:Str)]) [32]++[10]))++ub (Lib.join ([([110]:Str),h0,([116]:Str)]) [32]++[10])) l0 c50 h1 l1 h2 0 ⟨l4,h3,h4,h5,h6,h7⟩ (aF rfl) (Zd Ze (Zd Ze Zf)) ?_;rintro d3 a2 c9 c61 a6 d0 b8 b9 ⟨H,d5,d6,d7,d8,d9⟩;obtain ⟨l6,l7,rfl,H,j7⟩:=Ub H;have H:Z3o n0 a2 b9=some l7:=H;unfold Z3o at H;refine sR Y1 rfl ?_;refine Zr Zl ?_;refine dS ?_;rcases Zq H with ⟨h8,H⟩ | ⟨h8,H⟩
   ·refine Yx rfl h8 ?_;refine T.skip ?_;refine Yb ?_;refine Zi ?_;refine T.block ?_;obtain ⟨j8,H⟩:=Zx H;refine sR Y4 rfl ?_;refine Xy a5 j8 Zb Xv Wt ?_;refine Gi (cs:=[iV ((n0.Arcs.getD b9.toNat default).fr),iV ((n0.Arcs.getD b9.toNat default).to),iV ((n0.Arcs.getD b9.toNat default).cap)]) default a5 j8 Zb Jf ?_;refine Wb Zk Jr ?_;intro m9;refine Xx Za Ze Wt Zk ?_;refine dN ?_;obtain ⟨h9,l8,H⟩:=Zm H;obtain ⟨i4,l9,H⟩:=Zm H;obtain ⟨i5,m0,H⟩:=Zm H;obtain ⟨m1,H⟩:=Zx H;refine Ws 8 [0,1,2,3,4,5,6,7] rfl Xu (by kernel_rfl) (by kernel_rfl) rfl (by kernel_rfl) ?_;refine Yn Za Gh ?_;refine Yw Za Yf Zh rfl ?_;refine Gt Z5d Za (fun wc hwc=>Z4n (v0:=(n0.Arcs.getD b9.toNat default).fr) wc (hG.mono hwc) l8) (by rintro _ _ ⟨rfl,rfl⟩;rfl) ?_;refine Yn Za Nj ?_;refine Yw Za Yf Zh rfl ?_;refine Gt Z5d Za (fun wc hwc=>Z4n (v0:=(n0.Arcs.getD b9.toNat default).to) wc (hG.mono hwc) l9) (by rintro _ _ ⟨rfl,rfl⟩;rfl) ?_;refine Yn Za Np ?_;refine Yw Za Wn Zh rfl ?_;refine TQ.tail [8,9,10] Yp ?_;refine Zw Zbm Za (fun wc hwc=>Zco (i0:=(n0.Arcs.getD b9.toNat default).cap) (i1:=10) wc (hG.mono hwc) m0) ?_;rintro _ _ ⟨rfl,rfl⟩;refine Km [.string ByteArray.empty,.string ByteArray.empty,.string ByteArray.empty,.string ByteArray.empty] [0,1,2,3] Za Xr Wr Z1g Yp (by simp only [Xo,setCells,Value.cells,List.toList_toArray,List.getD_cons_zero,List.getD_cons_succ,List.set_cons_zero,List.set_cons_succ];rfl) (by kernel_rfl) ?_;intro n6;refine Z5a rfl Z5j Zb (fun wc hwc=>Z5t (xs:=a2) (j:=d0) (lr:=b8) (ws:=[([97]:Str),h9,i4,i5]) hwc Yo Yo rfl d5 d6 d7 d8 d9 (fun wc hwc=>(hwc.rs (f:=Yq) (s:=1) (xs:=[([97]:Str),h9,i4,i5]) (j:=([])) (fun _=>rfl) Zh rfl (Nat.le_refl _) Wa)) m1) ?_;intro i6 m2 c87 m3 i7 i9 j0 j1 j2 j3;refine Zj ?_;refine Yv ?_;refine Yb ?_;refine Zo (aT [5,33,34,35] rfl) ?_;obtain ⟨m4,H⟩:=Zx H;refine rG Y2 rfl ?_;refine Xt m4 Zb ?_;refine Zc Za ?_;refine Zj ?_;have H:=Wu H j7;exact Z6s l6 (a2++ub (Lib.join ([([97]:Str),h9,i4,i5]) [32]++[10])) m2 c87 i6 m3 i7 (b9+1) ⟨H,i9,j0,j1,j2,j3⟩ (Nat.lt_succ_self _) (aF rfl) (Zd Ze (Zd Ze Zf))
   ·refine Yu rfl h8 ?_;refine T.exit ?_;refine Xk ?_;have H:=Wi H j7▸l5;refine Xk ?_;refine Vr ?_;exact Z2w a2 c9 c61 a6 d0 b8 ⟨H,d5,d6,d7,d8,d9⟩ (aF rfl) (Zd Ze (Zd Ze Zf))
  ·rintro a3 d2 c99 a4 c4 b7 ⟨H,e1,e2,e3,e5,e6⟩;unfold Z70 at H;refine sR Y3 rfl ?_;refine Z9c (ρ:=Z1h) (xs:=a3) (j:=c4) (lr:=b7) Z35 Z3p Zb Ze Ze rfl e1 e2 e3 e5 e6 ?_;intro e7 j4 c111 j5 e8 f0 f2 f3;refine Zy Za ?_;refine aN Za ?_;refine T.ret ?_;obtain ⟨rfl,rfl⟩:=ret2 H;exact Xe Za (Res.tmp rfl) (Res.tmp rfl) (Zd Ze Zf) ⟨e7,j4,c111,j5,rfl,rfl,e8,f0,f2,f3⟩
theorem Zii (w:World){s0 s1 s2:Str}{i3:Int}(hG:GK Tryz.prog w []){r0:Str}(H:Z3f s0 s1 s2 i3=some r0):Fnc Tryz.prog 17 #[.string (bs s0),.string (bs s1),.string (bs s2),iV i3] w [] (fun v N=>v=.string (bs r0)∧N=[]):=by
 unfold Z3f at H;obtain ⟨g,H1⟩:=Zx H;clear H;injection H1 with H;subst H;obtain ⟨g1,g2,g3⟩:=g;exact Fnc.repl Zgq Zl8 (by kernel_rfl) s0 s1 s2 i3 g1 g2 g3 w hG
end Go.Proofs.YtddknfpolkkbjaaGreatDoor.Ax
namespace Go.Proofs.YtddknfpolkkbjaaGreatDoor.Ax
open Go Go.Acq Go.RowKit Go.Proofs
set_option maxHeartbeats 8000000
set_option maxRecDepth 20000
theorem Zbw:Zz Tryz.prog 16=true:=by kernel_rfl
theorem Zh1:Zz Tryz.prog 17=true:=by kernel_rfl
theorem Zkm:Zz Tryz.prog 6=true:=by kernel_rfl
theorem Zlm:Zz Tryz.prog 7=true:=by kernel_rfl
theorem w_acequialaw29_PlayerFirst {workers0 limit1:Int}{n2:Net}{line3 ends4:Bool}{a5:Option Addr}{a6 a7:Nat}(w:World)(a8:RS w [] Zu 3 a5 a6 a7 n2.Arcs)(hG:GK Tryz.prog w []){r0:Bool}(H:Z5g workers0 limit1 n2 line3 ends4=some r0):Fnc Tryz.prog 4 #[iV workers0,iV limit1,.agg #[iV n2.N,iV n2.S,iV n2.T,.slice a5 a6 a7],.bool line3,.bool ends4] w [] (fun v N=>v=.bool r0∧N=[]):=by
 unfold Z5g at H;refine Fnc.enter (vs:=[iV workers0,iV limit1,.agg #[iV n2.N,iV n2.S,iV n2.T,.slice a5 a6 a7],.bool line3,.bool ends4]) Tryz.func4 rfl rfl (Inv.refl w) ?_;refine sR Y2 rfl ?_;refine Xz Za ?_;intro b1;refine aN Za ?_;refine Zi ?_;obtain ⟨r3,e4,H⟩:=Zm H;refine rG Y3 rfl ?_;refine Xj Za Yy Zh rfl ?_;refine Zw Zkm Za (fun wc hwc=>Zih (n0:=n2) (verts1:=7) (arcs2:=14) wc (a8.mono hwc) e4) ?_;rintro _ _ ⟨i7,n6,c7,j8,rfl,rfl,f6,b9,f7,c4⟩;refine Xx Za Zn Gu Zk ?_;refine dS ?_;refine sR Y18 rfl ?_;refine Zc Za ?_;refine Zr Zl ?_;refine Zc Za ?_;refine TO.join [3,4,5] [6,7,8,9,10,11,12,13,14,15,16,17] rfl 24 (fun f0=>Z0x workers0 limit1 line3 ends4 r3 f0=some r0) [(0,iV workers0),(1,iV limit1),(3,.bool line3),(4,.bool ends4),(7,pV b1)] ?_ ?_
 ·
  rcases Zq H with ⟨c9,H⟩ | ⟨c9,H⟩
  ·refine Ya (t:=21) (b':=true) rfl (decide_eq_true c9) ?_;refine Zc Za ?_;refine Zr Zl ?_;refine Yi Zb ?_;refine Zj ?_;exact Jt (b:=(decide (workers0≤64))) H (aF rfl)
  ·refine Ya (t:=21) (b':=false) rfl (decide_eq_false c9) ?_;refine Zg Za ?_;refine Zg Za ?_;refine Yl Zb ?_;refine Zj ?_;exact Jt (b:=false) H (aF rfl)
 ·
  rintro f0 H;unfold Z0x at H;refine Zc Za ?_;refine TO.join [7,8,9] [10,11,12,13,14,15,16,17] rfl 28 (fun f2=>Z2i workers0 limit1 line3 ends4 r3 f2=some r0) [(0,iV workers0),(1,iV limit1),(3,.bool line3),(4,.bool ends4),(7,pV b1)] ?_ ?_
  ·
   rcases Zq H with ⟨d0,H⟩ | ⟨d0,H⟩
   ·refine Ya (t:=25) (b':=true) rfl d0 ?_;refine Zc Za ?_;refine Zr Zl ?_;refine Yi Zb ?_;refine Zj ?_;exact Jt (b:=(decide (1≤limit1))) H (aF rfl)
   ·refine Ya (t:=25) (b':=false) rfl (Bool.eq_false_iff.2 d0) ?_;refine Zg Za ?_;refine Zg Za ?_;refine Yl Zb ?_;refine Zj ?_;exact Jt (b:=false) H (aF rfl)
  ·
   rintro f2 H;unfold Z2i at H;refine Zc Za ?_;refine TO.join [11,12,13] [14,15,16,17] rfl 32 (fun f3=>Z2b workers0 limit1 line3 ends4 r3 f3=some r0) [(0,iV workers0),(1,iV limit1),(3,.bool line3),(4,.bool ends4),(7,pV b1)] ?_ ?_
   ·
    rcases Zq H with ⟨d1,H⟩ | ⟨d1,H⟩
    ·refine Ya (t:=29) (b':=true) rfl d1 ?_;refine Zc Za ?_;refine TO.not Za ?_;refine Yi Zb ?_;refine Zj ?_;exact Jt (b:=(!line3)) H (aF rfl)
    ·refine Ya (t:=29) (b':=false) rfl (Bool.eq_false_iff.2 d1) ?_;refine Zg Za ?_;refine Zg Za ?_;refine Yl Zb ?_;refine Zj ?_;exact Jt (b:=false) H (aF rfl)
   ·
    rintro f3 H;unfold Z2b at H;refine Zc Za ?_;refine TO.join [15,16,17] [] rfl 36 (fun f4=>Z1e workers0 limit1 line3 ends4 r3 f4=some r0) [(0,iV workers0),(1,iV limit1),(3,.bool line3),(4,.bool ends4),(7,pV b1)] ?_ ?_
    ·
     rcases Zq H with ⟨d2,H⟩ | ⟨d2,H⟩
     ·refine Ya (t:=33) (b':=true) rfl d2 ?_;refine Zc Za ?_;refine TO.not Za ?_;refine Yi Zb ?_;refine Zj ?_;exact Jt (b:=(!ends4)) H (aF rfl)
     ·refine Ya (t:=33) (b':=false) rfl (Bool.eq_false_iff.2 d2) ?_;refine Zg Za ?_;refine Zg Za ?_;refine Yl Zb ?_;refine Zj ?_;exact Jt (b:=false) H (aF rfl)
    ·
     rintro f4 H;unfold Z1e at H;refine dN ?_;rcases Zq H with ⟨d3,H⟩ | ⟨d3,H⟩
     ·refine Yz rfl d3 ?_;refine Zi ?_;obtain ⟨i8,f8,H⟩:=Zm H;refine rG Y2 rfl ?_;refine Zw Zbw Za (fun wc hwc=>Zbb  wc (hG.mono hwc) f8) ?_;rintro _ _ ⟨rfl,rfl⟩;refine aN Za ?_;refine T.ret ?_;refine Yc ?_;obtain rfl:=ret1 H;exact Ye Za (Res.tmp rfl) Zf ⟨rfl,rfl⟩
     ·
      refine Xl rfl (Bool.eq_false_iff.2 d3) ?_;refine T.skip ?_;refine Yb ?_;refine Zi ?_;obtain ⟨⟨b7,i9⟩,f9,H⟩:=Zm H;refine rG Y7 rfl ?_;refine Xj Za Yy Zh rfl ?_;refine Zw Zlm Za (fun wc hwc=>Zlr (n0:=r3) wc (hwc.rs (f:=Zu) (s:=3) (xs:=r3.Arcs) (j:=j8) (fun _=>rfl) Yk f6 b9 c4) (hG.mono hwc) f9) ?_;rintro _ _ ⟨g0,j0,j1,g1,rfl,rfl,d4,d5,g2,d6⟩;refine Zc Za ?_;refine TO.extract Zb ?_;refine TO.extract Zb ?_;refine Zy Za ?_;refine aN Za ?_;refine Zi ?_;refine sR Y2 rfl ?_;refine Zc Za ?_;refine Zr Zl ?_;refine dN ?_;refine Zo (aT [0,1,3,4,7,11,44] rfl) ?_;rcases Zq H with ⟨d7,H⟩ | ⟨d7,H⟩
      ·refine Yx rfl d7 ?_;refine sR Y1 rfl ?_;refine aN Za ?_;refine T.ret ?_;refine Yc ?_;obtain rfl:=ret1 H;exact Ye Za (Res.tmp rfl) Zf ⟨rfl,rfl⟩
      ·
       refine Yu rfl d7 ?_;refine T.skip ?_;refine Yb ?_;refine sR Y3 rfl ?_;refine Zc Za ?_;refine Rr (xs:=b7) Za Xq TWQSY.v5 Kv (fun wc hwc=>(hwc.rs (f:=(intC .u8)) (s:=1) (xs:=b7) (j:=g1) (fun _=>rfl) Zh d4 d5 d6)) ?_;refine aN Za ?_;refine Zi ?_;refine sR Y1 rfl ?_;refine Zc Za ?_;refine dN ?_;refine Wf (fun (a3:Str)=>Z13 workers0 limit1 line3 a3=some r0) (fun (a3:Str)=>[(0,iV workers0),(1,iV limit1),(3,.bool line3),(13,.string (bs a3))]) (fun (a3:Str)=>[]) ?_ ?_
       ·
        rcases Zq H with ⟨d8,H⟩ | ⟨d8,H⟩
        ·refine Yz rfl d8 ?_;obtain ⟨g3,H⟩:=Zx H;obtain ⟨d9,g4,H⟩:=Zm H;obtain ⟨g5,g6,g7,H⟩:=Gv H;obtain ⟨e1,g8,H⟩:=Zm H;obtain ⟨g9,h0,H⟩:=Jh H;obtain ⟨h1,h2,H⟩:=Zm H;refine Ws 13 [0,1,2,3,4,5,6,7,8,9,10,11,12] rfl Xu (by kernel_rfl) (by kernel_rfl) rfl (by kernel_rfl) ?_;refine TQ.move Za ?_;refine Yn Za Gb ?_;refine Yw Za Yf Yk rfl ?_;refine Lq g3 Zb ?_;refine Gt Lt Za (fun wc hwc=>Lp (i0:=(r3.T+1)) wc (hG.mono hwc) g4) (by rintro _ _ ⟨rfl,rfl⟩;rfl) ?_;refine Z1c (p:=([110,32]:Str)) (q:=d9) g5 Zb ?_;refine Z1c (p:=(([110,32]:Str)++d9)) (q:=([32,116]:Str)) g6 Zb ?_;refine Yn Za Ku ?_;refine Yw Za Yf Yk rfl ?_;refine Lq g7 Zb ?_;refine Gt Lt Za (fun wc hwc=>Lp (i0:=(r3.S+1)) wc (hG.mono hwc) g8) (by rintro _ _ ⟨rfl,rfl⟩;rfl) ?_;refine Z1c (p:=([110,32]:Str)) (q:=e1) g9 Zb ?_;refine Z1c (p:=(([110,32]:Str)++e1)) (q:=([32,116]:Str)) h0 Zb ?_;refine TQ.tail [13,14] Yp ?_;refine Zw Zh1 Za (fun wc hwc=>Zii (s0:=(bu b7)) (s1:=((([110,32]:Str)++d9)++([32,116]:Str))) (s2:=((([110,32]:Str)++e1)++([32,116]:Str))) (i3:=1) wc (hG.mono hwc) h2) ?_;rintro _ _ ⟨rfl,rfl⟩;refine Zy Za ?_;refine Zj ?_;exact Xa h1 H (aF rfl) Zf
        ·refine Xl rfl (Bool.eq_false_iff.2 d8) ?_;refine T.skip ?_;exact Xa (bu b7) H (aF rfl) Zf
       ·
        rintro a3 H;unfold Z13 at H;refine Zi ?_;refine sR Y1 rfl ?_;refine Zc Za ?_;refine dN ?_;refine Wf (fun (a2:Str)=>Z1l workers0 limit1 line3 a2=some r0) (fun (a2:Str)=>[(0,iV workers0),(1,iV limit1),(3,.bool line3),(13,.string (bs a2))]) (fun (a2:Str)=>[]) ?_ ?_
        ·
         rcases Zq H with ⟨e2,H⟩ | ⟨e2,H⟩
         ·refine Yz rfl e2 ?_;obtain ⟨h3,H⟩:=Zx H;refine rG Y3 rfl ?_;refine Zc Za ?_;refine Gx (p:=a3) (q:=([119,104,97,116,10]:Str)) h3 Zb ?_;refine Zy Za ?_;refine Zj ?_;exact Xa (a3++([119,104,97,116,10]:Str)) H (aF rfl) Zf
         ·refine Xl rfl (Bool.eq_false_iff.2 e2) ?_;refine T.skip ?_;exact Xa a3 H (aF rfl) Zf
        ·
         rintro a2 H;unfold Z1l at H;refine sR Y1 rfl ?_;refine aN Za ?_;refine Zi ?_;refine Wf (fun (a4:Int)=>Ru workers0 limit1 a2 a4=some r0) (fun (a4:Int)=>[(0,iV workers0),(1,iV limit1),(13,.string (bs a2)),(14,iV a4)]) (fun (a4:Int)=>[]) ?_ ?_
         ·
          refine T.block ?_;refine Zi ?_;refine Wf (fun (a9:Bool)=>Z38 workers0 limit1 line3 a2 a9=some r0) (fun (a9:Bool)=>[(0,iV workers0),(1,iV limit1),(3,.bool line3),(13,.string (bs a2)),(14,iV 12),(65,.bool a9)]) (fun (a9:Bool)=>[]) ?_ ?_
          ·
           rcases Zq H with ⟨e3,H⟩ | ⟨e3,H⟩
           ·refine rG Y7 rfl ?_;refine Zc Za ?_;refine Zr Zl ?_;refine Zc Za ?_;refine Ya (t:=68) (b':=true) rfl (decide_eq_true e3) ?_;refine Zg Za ?_;refine Zg Za ?_;refine Yi Zb ?_;refine Zy Za ?_;refine Zj ?_;exact Xa true H (aF rfl) Zf
           ·refine rG Y7 rfl ?_;refine Zc Za ?_;refine Zr Zl ?_;refine Zc Za ?_;refine Ya (t:=68) (b':=false) rfl (decide_eq_false e3) ?_;refine Zc Za ?_;refine Zr Zl ?_;refine Yl Zb ?_;refine Zy Za ?_;refine Zj ?_;exact Xa (decide (64<workers0)) H (aF rfl) Zf
          ·
           rintro a9 H;unfold Z38 at H;rcases Zq H with ⟨e5,H⟩ | ⟨e5,H⟩
           ·refine Yz rfl e5 ?_;refine rG Y1 rfl ?_;refine Zy Za ?_;refine Zj ?_;refine Yv ?_;exact Xa 40 H (aF rfl) Zf
           ·
            refine Xl rfl (Bool.eq_false_iff.2 e5) ?_;refine sR Y3 rfl ?_;refine Zc Za ?_;refine Zr Zl ?_;refine aN Za ?_;rcases Zq H with ⟨e6,H⟩ | ⟨e6,H⟩
            ·refine Yx rfl e6 ?_;refine rG Y1 rfl ?_;refine Zy Za ?_;refine Zj ?_;refine Yv ?_;exact Xa 2 H (aF rfl) Zf
            ·
             refine Yu rfl e6 ?_;refine sR Y2 rfl ?_;refine Zc Za ?_;refine aN Za ?_;rcases Zq H with ⟨e7,H⟩ | ⟨e7,H⟩
             ·refine Yz rfl e7 ?_;refine rG Y1 rfl ?_;refine Zy Za ?_;refine Zj ?_;refine Yv ?_;exact Xa 70 H (aF rfl) Zf
             ·refine Xl rfl (Bool.eq_false_iff.2 e7) ?_;refine T.skip ?_;refine Yv ?_;exact Xa 12 H (aF rfl) Zf
         ·
          rintro a4 H;unfold Ru at H;refine Zi ?_;obtain ⟨⟨f5,j2⟩,h4,H⟩:=Zm H;refine rG Y11 rfl ?_;refine Zc Za ?_;refine Z9m (p:=a2) Za Kv Xq TWQSY.v5 ?_;intro j3 c62 h5 h6 e8 h7;refine Zc Za ?_;refine Zc Za ?_;refine Vj (t:=35) [iV 0,iV 0,.slice none 0 0] [0,1,2] Za (by simp only [Xo,setCells,Value.cells,List.toList_toArray,List.getD_cons_zero,List.getD_cons_succ,List.set_cons_zero,List.set_cons_succ];rfl) (by kernel_rfl) ?_;refine Zw Zca Za (fun wc hwc=>Zb4 (b0:=(ub a2)) (p1:=(Plan.mk workers0 limit1 ([]))) wc (hwc.rs (f:=(intC .u8)) (s:=1) (xs:=(ub a2)) (j:=h5) (fun _=>rfl) Zh rfl e8 Wa) (RS.nil _ _ (fun _=>rfl)) (hG.mono hwc) h4) ?_;rintro _ _ ⟨h8,j4,j5,j6,rfl,rfl,b6,h9,i4,i5⟩;refine Zc Za ?_;refine TO.extract Zb ?_;refine TO.extract Zb ?_;refine Zy Za ?_;refine aN Za ?_;refine Zo (aT [14,15,16] rfl) ?_;refine Zi ?_;rcases Zq H with ⟨b8,H⟩ | ⟨b8,H⟩
          ·
           rcases Zq H with ⟨e9,H⟩ | ⟨e9,H⟩
           ·obtain ⟨j7,i6,H⟩:=Zm H;refine rG Y12 rfl ?_;refine Zc Za ?_;refine Zc Za ?_;refine Zr Zl ?_;refine Zc Za ?_;refine Ya (t:=89) (b':=true) rfl (decide_eq_true b8) ?_;refine Zc Za ?_;refine Yt (xs:=f5) b6 Zb Xq ?_;refine Zr Zl ?_;refine Yi Zb ?_;refine Zc Za ?_;refine Ya (t:=94) (b':=true) rfl (decide_eq_true e9) ?_;refine Zw Zbw Za (fun wc hwc=>Zbb  wc (hG.mono hwc) i6) ?_;rintro _ _ ⟨rfl,rfl⟩;refine Yi Zb ?_;refine aN Za ?_;refine Zo (aT [10] rfl) ?_;refine T.ret ?_;obtain rfl:=ret1 H;exact Ye Za (Res.tmp rfl) Zf ⟨rfl,rfl⟩
           ·refine rG Y12 rfl ?_;refine Zc Za ?_;refine Zc Za ?_;refine Zr Zl ?_;refine Zc Za ?_;refine Ya (t:=89) (b':=true) rfl (decide_eq_true b8) ?_;refine Zc Za ?_;refine Yt (xs:=f5) b6 Zb Xq ?_;refine Zr Zl ?_;refine Yi Zb ?_;refine Zc Za ?_;refine Ya (t:=94) (b':=false) rfl (decide_eq_false e9) ?_;refine Zg Za ?_;refine Yl Zb ?_;refine aN Za ?_;refine Zo (aT [10] rfl) ?_;refine T.ret ?_;obtain rfl:=ret1 H;exact Ye Za (Res.tmp rfl) Zf ⟨rfl,rfl⟩
          ·refine rG Y12 rfl ?_;refine Zc Za ?_;refine Zc Za ?_;refine Zr Zl ?_;refine Zc Za ?_;refine Ya (t:=89) (b':=false) rfl (decide_eq_false b8) ?_;refine Zg Za ?_;refine Zg Za ?_;refine Zg Za ?_;refine Yl Zb ?_;refine Zc Za ?_;refine Zg Za ?_;refine Yl Zb ?_;refine aN Za ?_;refine Zo (aT [10] rfl) ?_;refine T.ret ?_;obtain rfl:=ret1 H;exact Ye Za (Res.tmp rfl) Zf ⟨rfl,rfl⟩
end Go.Proofs.YtddknfpolkkbjaaGreatDoor.Ax
namespace Go.Acq
open Go
def hit (a:Arc)(v:Nat):Nat:=if a.fr=a.to then 0 else if a.fr=v∨a.to=v then 1 else 0
def cnt (al:List Arc)(v:Nat):Nat→Nat
  | 0=>0
  | k+1=>cnt al v k+hit (al.getD k default) v
def begins (al:List Arc):Nat→Nat
  | 0=>0
  | v+1=>begins al v+cnt al v al.length
def vtx (a:Arc)(s:Bool):Int:=if s then a.to else a.fr
def pos (al:List Arc)(i:Nat)(s:Bool):Nat:=begins al (vtx (al.getD i default) s).toNat+cnt al (vtx (al.getD i default) s).toNat i
def endsOK (n:Nat)(al:List Arc):Prop:=∀ i,i<al.length→∀ s,0≤vtx (al.getD i default) s∧vtx (al.getD i default) s<n
theorem Z6o {N S T:Int}{al:List Arc}(h:Kr N S T al=0):(2≤N∧N≤4096)∧(al.length:Int)≤16384∧(Ux N S=true∧Ux N T=true∧S≠T)∧al.all (Gj N)=true∧al.all Nv=true∧(Uz 4611686018427387904 al).isSome=true:=by
 unfold Kr at h
 split at h
 ·omega
 ·
  rename_i h1
  split at h
  ·omega
  ·
   rename_i h2
   split at h
   ·omega
   ·
    rename_i h3
    split at h
    ·omega
    ·
     rename_i h4
     split at h
     ·omega
     ·
      rename_i h5
      split at h
      ·omega
      ·
       rename_i h6
       refine ⟨Classical.not_not.1 h1,Classical.not_not.1 h2,Classical.not_not.1 h3,by simpa using h4,by simpa using h5,?_⟩
       cases e:Uz 4611686018427387904 al <;> simp_all
theorem Zg0 {m:Nat}{al:List Arc}(h:al.all (Gj (m:Int))=true):endsOK m al:=by
 intro i hi s
 have h1:=List.all_eq_true.1 h _ (Z4a hi default)
 simp only [Gj,Ux,Bool.and_eq_true,decide_eq_true_eq] at h1
 cases s
 ·simp only [vtx,Bool.false_eq_true,if_false];exact h1.1
 ·simp only [vtx,if_true];exact h1.2
end Go.Acq
namespace Go.Acq
open Go
theorem next_ne {S m:Int}(h0:0≤S)(h1:S<m)(h2:2≤m):0≤(S+1).tmod m∧(S+1).tmod m<m∧(S+1).tmod m≠S:=by
 rw [Int.tmod_eq_emod_of_nonneg (by omega)]
 refine ⟨Int.emod_nonneg _ (by omega),Int.emod_lt_of_pos _ (by omega),?_⟩
 by_cases h:S+1<m
 ·rw [Int.emod_eq_of_lt (by omega) h];omega
 ·rw [show S+1=m by omega,Int.emod_self];omega
theorem Zkn {x n:Int}(h:0≤x)(hn:0<n):0≤x.tmod n∧x.tmod n<n:=by
 rw [Int.tmod_eq_emod_of_nonneg h]
 exact ⟨Int.emod_nonneg _ (by omega),Int.emod_lt_of_pos _ hn⟩
def SomeAt (m:Nat)(ol:List Arc):Prop:=∀ a,a∈ol→Gj m a=true∧0≤a.cap∧a.cap<1125899906842624
theorem SomeAt.put {m:Nat}{ol:List Arc}{a:Arc}(h:SomeAt m ol)(h1:0≤a.fr∧a.fr<m)(h2:0≤a.to∧a.to<m)(h3:0≤a.cap∧a.cap<1125899906842624):SomeAt m (ol++[a]):=by
 intro b hb
 rcases List.mem_append.1 hb with hb | hb
 ·exact h b hb
 ·
  simp only [List.mem_singleton] at hb
  subst hb
  exact ⟨by simp [Gj,Ux,h1,h2],h3⟩
theorem Zg2 {m:Nat}{ol:List Arc}{left:Int}(h:SomeAt m ol)(hl:(ol.length:Int)*1125899906842624≤left):(Uz left ol).isSome=true:=by
 induction ol generalizing left with
 | nil=>simp [Uz]
 | cons a ol ih =>
  have ha:=(h a (.head _)).2
  simp only [List.length_cons] at hl
  have h2:(0:Int)≤(ol.length:Int)*1125899906842624:=by omega
  simp only [Uz]
  rw [if_neg (by omega)]
  exact ih (fun b hb=>h b (.tail _ hb)) (by omega)
theorem Zka {m:Nat}{S T:Int}{ol:List Arc}(hm:2≤m)(hm2:m≤4096)(hS:0≤S∧S<m)(hT:0≤T∧T<m)(hST:T≠S)(h:SomeAt m ol)(hl:ol.length≤4096):Kr m S T ol=0:=by
 have h1:ol.all (Gj m)=true:=List.all_eq_true.2 fun a ha=>(h a ha).1
 have h2:ol.all Nv=true:=List.all_eq_true.2 fun a ha=>by simp [Nv,(h a ha).2.1]
 have h3:(Uz 4611686018427387904 ol).isSome=true:=Zg2 h (by omega)
 unfold Kr
 rw [if_neg (by omega),if_neg (by omega),if_neg (by simp [Ux,hS,hT,Ne.symm hST]),if_neg (by simp [h1]),if_neg (by simp [h2]),if_neg (by
  cases e:Uz 4611686018427387904 ol with
  | none=>rw [e] at h3;cases h3
  | some x=>simp)]
end Go.Acq
namespace Go.Acq
open Go
def turn (a:Arc):Arc:=⟨a.to,a.fr,a.cap⟩
end Go.Acq
namespace Go.Acq
open Go
theorem ok_eq {α:Type}{m:Option α}{v:α}(h:Ok m (fun a=>a=v)):m=some v:=by obtain ⟨a,h1,h2⟩:=h;rw [h1,h2]
theorem Gm {α:Type}{m:Option α}{v:α}{Q:α→Prop}(h:m=some v)(q:Q v):Ok m Q:=⟨v,h,q⟩
abbrev lenok (n:Nat):Prop:=n≤9223372036854775807
theorem Z2n {x n:Int}(h1:n≤4611686018427387904):Lv x n=some (Nk x n):=by
 unfold Lv Nk
 by_cases h:n<1
 ·rw [if_pos h,if_pos h]
 ·
  have a1:=Int.tmod_lt_of_pos x (show 0<n by omega)
  have a2:=Zdr x (show 0<n by omega)
  rw [if_neg h,if_neg h,Va (by omega),Va (by constructor <;> omega),Va (by omega)]
theorem Z55 (n:Net)(v:Int):Rl n v=some (Ux n.N v):=by
 unfold Rl Ux
 by_cases h:0≤v <;> simp [h]
theorem s_rules4 (n:Net)(a:Arc):Z3b n a=some (Gj n.N a):=by
 unfold Z3b Gj
 rw [Z55,Z55]
 simp only [Option.bind_some]
 cases Ux n.N a.fr <;> simp
theorem s_of4 (n:Net)(h:lenok n.Arcs.length):Z2e n=some (n.Arcs.all (Gj n.N)):=by
 refine ok_eq ?_
 unfold Z2e Z58 Z7p
 refine Ok.bind.2 (Ok.bind.2 (Ok.bind.2 (Ok.loop (fun x=>0≤x∧x≤n.Arcs.length∧∀ i,i<x.toNat→Gj n.N (n.Arcs.getD i default)=true) (fun x=>(n.Arcs.length-x).toNat) ⟨by omega,by omega,fun i hi=>by omega⟩ (by unfold Xf;omega) ?_)))
 rintro x ⟨h0,h1,h2⟩
 unfold Z42 Z6f
 refine Ok.ite.2 ⟨fun hx=>?_,fun hx=>?_⟩
 ·
  refine Ok.gd.2 ⟨(by omega),Ok.bind.2 (Ok.bind.2 (Gm (s_rules4 _ _) (Ok.some.2 (Ok.ite.2 ⟨fun hb=>?_,fun hb=>?_⟩))))⟩
  ·
   refine Ok.some.2 (Ok.some.2 (Ok.some.2 (Ok.some.2 ?_)))
   simp only [h0,decide_true,Bool.not_true]
   refine Eq.symm (Bool.eq_false_iff.2 fun hall=>?_)
   have:=List.all_eq_true.1 hall _ (Z4a (show x.toNat<n.Arcs.length by omega) default)
   rw [this] at hb;cases hb
  ·
   refine Ok.gd.2 ⟨(by omega),Ok.some.2 ⟨⟨by omega,by omega,fun i hi=>?_⟩,by omega⟩⟩
   rcases Nat.lt_or_ge i x.toNat with h3 | h3
   ·exact h2 i h3
   ·rw [show i=x.toNat by omega];simpa using hb
 ·
  refine Ok.some.2 (Ok.some.2 (Ok.some.2 (Ok.some.2 ?_)))
  refine Eq.symm (List.all_eq_true.2 fun a ha=>?_)
  obtain ⟨i,hi,rfl⟩:=List.getElem_of_mem ha
  have:=h2 i (by omega)
  rwa [List.getD_eq_getElem?_getD,List.getElem?_eq_getElem hi] at this
theorem s_of5 (n:Net)(h:lenok n.Arcs.length):Z44 n=some (n.Arcs.all Nv):=by
 refine ok_eq ?_
 unfold Z44 Z6r Z7l
 refine Ok.bind.2 (Ok.bind.2 (Ok.bind.2 (Ok.loop (fun x=>0≤x∧x≤n.Arcs.length∧∀ i,i<x.toNat→Nv (n.Arcs.getD i default)=true) (fun x=>(n.Arcs.length-x).toNat) ⟨by omega,by omega,fun i hi=>by omega⟩ (by unfold Xf;omega) ?_)))
 rintro x ⟨h0,h1,h2⟩
 unfold Z3m Z6m Z5w
 refine Ok.ite.2 ⟨fun hx=>?_,fun hx=>?_⟩
 ·
  refine Ok.gd.2 ⟨(by omega),Ok.bind.2 (Ok.bind.2 (Ok.some.2 (Ok.some.2 (Ok.ite.2 ⟨fun hb=>?_,fun hb=>?_⟩))))⟩
  ·
   refine Ok.some.2 (Ok.some.2 (Ok.some.2 (Ok.some.2 ?_)))
   simp only [h0,decide_true,Bool.not_true]
   refine Eq.symm (Bool.eq_false_iff.2 fun hall=>?_)
   have:=List.all_eq_true.1 hall _ (Z4a (show x.toNat<n.Arcs.length by omega) default)
   simp only [Nv] at this
   rw [this] at hb;cases hb
  ·
   refine Ok.gd.2 ⟨(by omega),Ok.some.2 ⟨⟨by omega,by omega,fun i hi=>?_⟩,by omega⟩⟩
   rcases Nat.lt_or_ge i x.toNat with h3 | h3
   ·exact h2 i h3
   ·rw [show i=x.toNat by omega];simpa [Nv] using hb
 ·
  refine Ok.some.2 (Ok.some.2 (Ok.some.2 (Ok.some.2 ?_)))
  refine Eq.symm (List.all_eq_true.2 fun a ha=>?_)
  obtain ⟨i,hi,rfl⟩:=List.getElem_of_mem ha
  have:=h2 i (by omega)
  rwa [List.getD_eq_getElem?_getD,List.getElem?_eq_getElem hi] at this
theorem s_Sum (n:Net)(h:lenok n.Arcs.length):Z2a n=some (match Uz 4611686018427387904 n.Arcs with | some l=>(4611686018427387904-l,true) | none=>(0,false)):=by
 refine ok_eq ?_
 unfold Z2a
 refine Ok.bind.2 (Ok.loop (fun s=>0≤s.2∧s.2≤n.Arcs.length∧0≤s.1∧s.1≤4611686018427387904∧Uz 4611686018427387904 n.Arcs=Uz s.1 (n.Arcs.drop s.2.toNat)) (fun s=>(n.Arcs.length-s.2).toNat) ⟨by simp,by simp,by simp,by simp,by simp⟩ (by unfold Xf;simp;omega) ?_)
 rintro ⟨left,x⟩ ⟨h0,h1,h2,h3,h4⟩
 simp only at h0 h1 h2 h3 h4 ⊢
 unfold Z36 Z26
 refine Ok.ite.2 ⟨fun hx=>?_,fun hx=>?_⟩
 ·
  rw [Zi9 (by omega)] at h4
  refine Ok.gd.2 ⟨(by omega),Ok.ite.2 ⟨fun hb=>?_,fun hb=>?_⟩⟩
  ·
   rw [if_pos rfl]
   refine Ok.some.2 (Ok.some.2 ?_)
   rw [h4,if_pos (.inl hb)]
  ·
   by_cases hc:left<(n.Arcs.getD x.toNat default).cap
   ·
    rw [if_pos (decide_eq_true hc)]
    refine Ok.some.2 (Ok.some.2 ?_)
    rw [h4,if_pos (.inr hc)]
   ·
    rw [if_neg (by simpa using hc)]
    refine Ok.gd.2 ⟨(by omega),Ok.gd.2 ⟨(by omega),Ok.some.2 ⟨⟨by simp only;omega,by simp only;omega,by simp only;omega,by simp only;omega,?_⟩,by simp only;omega⟩⟩⟩
    rw [h4,if_neg (by omega)]
    simp only
    rw [show (x+1).toNat=x.toNat+1 by omega]
 ·
  unfold Z4d
  refine Ok.some.2 (Ok.gd.2 ⟨(by omega),Ok.some.2 ?_⟩)
  rw [h4,List.drop_eq_nil_of_le (by omega)]
  rfl
theorem Z97 (n:Net)(h:lenok n.Arcs.length):Gl n=some (Kr n.N n.S n.T n.Arcs):=by
 unfold Gl Z59 Z7q Z6p Z7d Z6k Z5o Z79 Z4l
 rw [Z55,Z55,s_of4 n h,s_of5 n h,s_Sum n h]
 unfold Kr
 simp only [Option.bind_some]
 by_cases h1:2≤n.N∧n.N≤4096
 ·
  rw [if_pos h1.1,if_neg (not_not_intro h1)]
  simp only [Option.bind_some,decide_eq_true h1.2,Bool.not_true,Bool.false_eq_true,if_false]
  by_cases h2:(n.Arcs.length:Int)≤16384
  ·
   rw [if_neg (by simp [h2]),if_neg (not_not_intro h2)]
   by_cases h3:Ux n.N n.S=true∧Ux n.N n.T=true∧n.S≠n.T
   ·
    rw [if_pos h3.1,if_pos h3.2.1,if_neg (not_not_intro h3)]
    simp only [Option.bind_some,decide_eq_true h3.2.2,Bool.not_true,Bool.false_eq_true,if_false]
    cases h4:n.Arcs.all (Gj n.N)
    ·simp
    ·
     cases h5:n.Arcs.all Nv
     ·simp
     ·cases h6:Uz 4611686018427387904 n.Arcs <;> simp
   ·
    rw [if_pos h3]
    by_cases a1:Ux n.N n.S=true
    ·
     by_cases a2:Ux n.N n.T=true
     ·
      have a3:¬n.S≠n.T:=fun e=>h3 ⟨a1,a2,e⟩
      simp [a1,a2,a3]
     ·simp [a1,a2]
    ·simp [a1]
  ·rw [if_pos (by simp [h2]),if_pos h2]
 ·
  rw [if_pos h1]
  by_cases a1:2≤n.N
  ·
   have a2:¬n.N≤4096:=fun e=>h1 ⟨a1,e⟩
   simp [a1,a2]
  ·simp [a1]
end Go.Acq
namespace Go.Acq
open Go
structure NetIn (n:Net):Prop where
  nN:i64ok n.N
  nS:i64ok n.S
  nT:i64ok n.T
  arcs:∀ a,a∈n.Arcs→i64ok a.fr∧i64ok a.to∧i64ok a.cap
  len:n.Arcs.length≤9223372036854775807
structure Made (n:Net)(v a:Int):Prop where
  check:Kr n.N n.S n.T n.Arcs=0
  rows:SomeAt n.N.toNat n.Arcs
  verts:n.N≤v
  arcs:(n.Arcs.length:Int)≤a
  ends:2≤n.N∧0≤n.S∧n.S<n.N∧0≤n.T∧n.T<n.N∧n.S≠n.T
theorem s_Some {n:Net}{v a:Int}(h:NetIn n)(hv0:2≤v)(hv1:v≤4096)(ha0:0≤a)(ha1:a≤4096):Ok (Z45 n v a) (fun r=>Made r v a):=by
 have hN:=Z3y (x:=n.N) (n:=v-1) (by omega)
 unfold Z45
 refine Ok.gd.2 ⟨(by omega),Ok.bind.2 (Gm (Z2n (by omega)) (Ok.gd.2 ⟨(by omega),?_⟩))⟩
 obtain ⟨m,hm⟩:∃ m:Nat,2+Nk n.N (v - 1)=m:=⟨(2+Nk n.N (v - 1)).toNat,by omega⟩
 rw [hm]
 have hS:=Z3y (x:=n.S) (n:=(m:Int)) (by omega)
 have hT:=Z3y (x:=n.T) (n:=(m:Int)) (by omega)
 refine Ok.bind.2 (Gm (Z2n (by omega)) (Ok.bind.2 (Gm (Z2n (by omega)) ?_)))
 have key:∀ t:Int,0≤t→t<m→t≠Nk n.S m→Ok (Z1q n a (Nk n.N (v-1)) (Nk n.S m) t) (fun r=>Made r v a):=by
  intro t t0 t1 t2
  unfold Z1q
  refine Ok.gd.2 ⟨(by omega),Ok.bind.2 ?_⟩
  obtain ⟨q,hq⟩:∃ q:Nat,min (n.Arcs.length:Int) a=q:=⟨(min (n.Arcs.length:Int) a).toNat,by omega⟩
  obtain ⟨al,hal⟩:∃ l,l=n.Arcs.take (q:Int).toNat:=⟨_,rfl⟩
  have hlen:al.length=q:=by rw [hal,List.length_take];omega
  have hcap:∀ b,b∈al→i64ok b.cap:=fun b hb=>(h.arcs b (List.mem_of_mem_take (by rw [←hal];exact hb))).2.2
  refine Ok.lp (fun s=>∃ k:Nat,s.2=k∧k≤q∧s.1.length=k∧SomeAt m s.1) (fun s=>(q-s.2).toNat) ⟨0,rfl,by omega,rfl,fun b hb=>by cases hb⟩ (by unfold Xf;simp only;omega) ?_
  rintro ⟨ol,x⟩ ⟨k,h1,h2,h3,h4⟩ P next exit
  simp only at h1 h2 h3 h4 next ⊢
  subst h1
  unfold Z41
  rw [hq,←hal]
  simp only [Int.toNat_natCast]
  refine Ok.ite.2 ⟨fun hx=>?_,fun hx=>?_⟩
  ·
   have hkl:k<al.length:=by omega
   have hc:=hcap _ (Z4a hkl default)
   have hj:∀ c:Int,0≤c→Ok (Z20 n a (Nk n.N (v-1)) ol k c) P:=by
    intro c hc0
    unfold Z20
    rw [hq,←hal,hm]
    refine Ok.bind.2 (Gm (Z2n (by omega)) (Ok.bind.2 (Gm (Z2n (by omega)) (Ok.gd.2 ⟨?_,Ok.gd.2 ⟨(by omega),Ok.some.2 (next _ ⟨k+1,by simp,by omega,by simp [h3],?_⟩ (by simp only;omega))⟩⟩))))
    ·rw [List.length_append,h3];simp only [List.length_cons,List.length_nil];constructor <;> omega
    ·exact h4.put (Z3y (by omega)) (Z3y (by omega)) (Zkn hc0 (by omega))
   refine Ok.gd.2 ⟨(by omega),Ok.ite.2 ⟨fun hn=>?_,fun hn=>?_⟩⟩
   ·exact Ok.gd.2 ⟨by constructor <;> omega,Ok.gd.2 ⟨by constructor <;> omega,hj (-((al.getD k default).cap+1)) (by omega)⟩⟩
   ·exact hj (al.getD k default).cap (by omega)
  ·
   refine Ok.some.2 (exit _ ?_)
   unfold Z64
   refine Ok.some.2 ?_
   rw [hm]
   exact ⟨Zka (by omega) (by omega) hS ⟨t0,t1⟩ t2 h4 (show ol.length≤4096 by omega),by simpa using h4,by simp only;omega,by show (ol.length:Int)≤a;omega,⟨by simp only;omega,hS.1,hS.2,t0,t1,fun e=>t2 e.symm⟩⟩
 refine Ok.ite.2 ⟨fun he=>?_,fun he=>?_⟩
 ·
  refine Ok.gd.2 ⟨(by omega),Ok.gd.2 ⟨by omega,?_⟩⟩
  obtain ⟨n1,n2,n3⟩:=next_ne hS.1 hS.2 (by omega)
  exact key _ n1 n2 n3
 ·exact key _ hT.1 hT.2 (fun e=>he e.symm)
end Go.Acq
namespace Go.Acq
open Go
def ex (al:List Arc)(f:List Int)(v:Int):Nat→Int
  | 0=>0
  | k+1=>ex al f v k-(if (al.getD k default).fr=v then f.getD k 0 else 0)+(if (al.getD k default).to=v then f.getD k 0 else 0)
def part (al:List Arc)(f:List Int)(j:Int):Nat→Int
  | 0=>0
  | k+1=>part al f j k-(if (al.getD k default).fr<j then f.getD k 0 else 0)+(if (al.getD k default).to<j then f.getD k 0 else 0)
end Go.Acq
namespace Go.Acq
open Go Go.Lib
theorem bs_getD (x:Str)(i:Nat):(bs x).get! i=x.getD i 0:=by
 by_cases h:i<x.length
 ·rw [Zb9 x i h,List.getD_eq_getElem?_getD,List.getElem?_eq_getElem h];rfl
 ·
  rw [List.getD_eq_getElem?_getD,List.getElem?_eq_none (by omega)]
  simp [ByteArray.get!,bs,h];rfl
theorem Zef (x:Str)(i:Nat)(h:i<x.length)(ha:128≤(x.getD i 0).toNat):∃ r k,Utf8.decode (bs x) i=(r,k)∧128≤r∧1≤k∧∀ j,j<k→i+j<x.length∧128≤(x.getD (i+j) 0).toNat:=by
 have h0:∀ j,j<1→i+j<x.length∧128≤(x.getD (i+j) 0).toNat:=fun j hj=>by
  obtain rfl:j=0:=by omega
  exact ⟨h,ha⟩
 have hc:∀ j,(decide (i+j<(bs x).size)&&((x.getD (i+j) 0).toNat / 64==2))=true→i+j<x.length∧128≤(x.getD (i+j) 0).toNat:=fun j hj=>by
  simp only [Bool.and_eq_true,decide_eq_true_eq,beq_iff_eq,Ww] at hj
  omega
 unfold Utf8.decode
 simp only [bs_getD,Nat.add_zero]
 rw [if_neg (by omega)]
 split
 ·
  rename_i h1
  rw [Bool.and_eq_true] at h1
  split
  ·
   refine ⟨_,_,rfl,by assumption,by omega,fun j hj=>?_⟩
   rcases (by omega:j=0∨j=1) with rfl | rfl
   ·exact h0 0 (by omega)
   ·exact hc 1 h1.2
  ·exact ⟨_,_,rfl,by decide,by omega,h0⟩
 ·
  split
  ·
   rename_i h1
   rw [Bool.and_eq_true,Bool.and_eq_true] at h1
   split
   ·
    rename_i h2
    rw [Bool.and_eq_true,decide_eq_true_eq] at h2
    refine ⟨_,_,rfl,by omega,by omega,fun j hj=>?_⟩
    rcases (by omega:j=0∨j=1∨j=2) with rfl | rfl | rfl
    ·exact h0 0 (by omega)
    ·exact hc 1 h1.1.2
    ·exact hc 2 h1.2
   ·exact ⟨_,_,rfl,by decide,by omega,h0⟩
  ·
   split
   ·
    rename_i h1
    rw [Bool.and_eq_true,Bool.and_eq_true,Bool.and_eq_true] at h1
    split
    ·
     rename_i h2
     rw [Bool.and_eq_true,decide_eq_true_eq] at h2
     refine ⟨_,_,rfl,by omega,by omega,fun j hj=>?_⟩
     rcases (by omega:j=0∨j=1∨j=2∨j=3) with rfl | rfl | rfl | rfl
     ·exact h0 0 (by omega)
     ·exact hc 1 h1.1.1.2
     ·exact hc 2 h1.1.2
     ·exact hc 3 h1.2
    ·exact ⟨_,_,rfl,by decide,by omega,h0⟩
   ·exact ⟨_,_,rfl,by decide,by omega,h0⟩
theorem Zcz {l:Str}{i:Nat}{c:UInt8}(h:l[i]?=some c):l.getD i 0=c:=by rw [List.getD_eq_getElem?_getD,h];rfl
theorem Zht {p:Nat→Bool}(hp:∀ r,128≤r→p r=false)(l:Str)(pos:Nat)(h:pos<l.length) :
    (∃ c,l[pos]?=some c∧p c.toNat=true∧Utf8.decode (bs l) pos=(c.toNat,1))∨(∃ r k,Utf8.decode (bs l) pos=(r,k)∧p r=false∧1≤k∧pos+k≤l.length∧∀ b∈(l.drop pos).take k,p b.toNat=false):=by
  obtain ⟨c,hc⟩:=Z67 h
  by_cases ha:c.toNat<128
  · have hd := Z7k l pos c hc ha
    cases hq:p c.toNat with
    | true=>exact .inl ⟨c,hc,hq,hd⟩
    | false =>
      refine .inr ⟨_,_,hd,hq,by omega,by omega,fun b hb=>?_⟩
      rw [Z3h hc] at hb
      simp only [List.take_succ_cons,List.take_zero,List.mem_singleton] at hb
      rw [hb];exact hq
  · obtain ⟨r, k, hd, hr, hk, hj⟩ := Zef l pos h (by rw [Zcz hc]; omega)
    have hle:pos+k≤l.length:=by have:=(hj (k-1) (by omega)).1;omega
    refine .inr ⟨r,k,hd,hp r hr,hk,hle,fun b hb=>?_⟩
    obtain ⟨j,hjl,rfl⟩:=List.mem_iff_getElem.1 hb
    rw [List.length_take,List.length_drop] at hjl
    have:=(hj j (by omega)).2
    rw [List.getElem_take,List.getElem_drop]
    rw [List.getD_eq_getElem?_getD,List.getElem?_eq_getElem (by omega)] at this
    exact hp _ this
theorem Z29 {p:Nat→Bool}{l:Str}:∀ (seg cur:Str),(∀ b∈seg,p b.toNat=false)→Wq p (seg++l) cur=Wq p l (cur++seg)
 | [],cur,_=>by rw [List.nil_append,List.append_nil]
 | b::seg,cur,h=>by
  rw [List.cons_append,Zac (by rw [h b (.head _)];decide),Z29 seg _ (fun x hx=>h x (.tail _ hx)),List.append_assoc];rfl
theorem Zk5 {p:Nat→Bool}(hp:∀ r,128≤r→p r=false)(l:Str):∀ (f pos:Nat) (st:Option Nat) (acc:List (Nat×Nat)),l.length≤pos+f→pos≤l.length→opn st pos →
    (closeSpans (bs l) (spansFromP p (bs l) f pos st acc)).map (fun x=>(l.take x.2).drop x.1)=acc.map (fun x=>(l.take x.2).drop x.1)++Wq p (l.drop pos) (Vp l st pos):=by
  have hne:∀ a pos,a<pos→pos≤l.length→Vp l (some a) pos≠[]:=fun a pos h1 h2 e=>by
    have:=congrArg List.length e
    unfold Vp at this
    simp only at this
    rw [List.length_drop,List.length_take] at this
    simp only [List.length_nil] at this
    omega
  have fin:∀ (f pos:Nat) (st:Option Nat) (acc:List (Nat×Nat)),pos=l.length→opn st pos →
      (closeSpans (bs l) (spansFromP p (bs l) f pos st acc)).map (fun x=>(l.take x.2).drop x.1)=acc.map (fun x=>(l.take x.2).drop x.1)++Wq p (l.drop pos) (Vp l st pos):=by
    intro f pos st acc hp ho
    subst hp
    rw [spansFromP_end _ _ _ _ _ _ (by rw [Ww];omega),List.drop_eq_nil_of_le (Nat.le_refl _)]
    cases st with
    | none=>simp [closeSpans,Vp,Wq]
    | some a =>
      rw [Zak (hne a _ (ho a rfl) (Nat.le_refl _))]
      simp only [closeSpans,Vp,Ww,List.map_append,List.map_cons,List.map_nil]
  intro f
  induction f with
  | zero=>intro pos st acc hf hp ho;exact fin 0 pos st acc (by omega) ho
  | succ f ih =>
    intro pos st acc hf hpl ho
    by_cases hlt:pos<l.length
    · have hsz : pos < (bs l).size := by rw [Ww]; exact hlt
      rcases Zht hp l pos hlt with ⟨c,hc,hq,hd⟩ | ⟨r,k,hd,hq,hk,hle,hseg⟩
      · rw [Z3h hc]
        cases st with
        | none =>
          have e:spansFromP p (bs l) (f+1) pos none acc=spansFromP p (bs l) f (pos+1) none acc:=by simp only [spansFromP,if_pos hsz,hd,if_pos hq]
          rw [e,ih (pos+1) none acc (by omega) (by omega) (fun a e=>by cases e)]
          rw [show Vp l none pos=[] from rfl,Zc5 hq];rfl
        | some a =>
          have e:spansFromP p (bs l) (f+1) pos (some a) acc=spansFromP p (bs l) f (pos+1) none (acc++[(a,pos)]):=by simp only [spansFromP,if_pos hsz,hd,if_pos hq]
          rw [e,ih (pos+1) none (acc++[(a,pos)]) (by omega) (by omega) (fun a e=>by cases e),Z9r hq (hne a pos (ho a rfl) (by omega))]
          simp only [Vp,List.map_append,List.map_cons,List.map_nil,List.append_assoc,List.cons_append,List.nil_append]
      · have hq' : ¬ p r = true := by rw [hq]; decide
        have hs:l.drop pos=(l.drop pos).take k++l.drop (pos+k):=by rw [←List.drop_drop,List.take_append_drop]
        cases st with
        | none =>
          have e:spansFromP p (bs l) (f+1) pos none acc=spansFromP p (bs l) f (pos+k) (some pos) acc:=by simp only [spansFromP,if_pos hsz,hd,if_neg hq']
          rw [e,ih (pos+k) (some pos) acc (by omega) hle (fun a e=>by cases e;omega),hs,Z29 _ _ hseg]
          simp only [Vp,List.nil_append]
          rw [show (l.take (pos+k)).drop pos=(l.drop pos).take k by rw [List.drop_take];congr 1;omega]
        | some a =>
          have e:spansFromP p (bs l) (f+1) pos (some a) acc=spansFromP p (bs l) f (pos+k) (some a) acc:=by simp only [spansFromP,if_pos hsz,hd,if_neg hq']
          rw [e,ih (pos+k) (some a) acc (by omega) hle (fun b e=>by cases e;have:=ho a rfl;omega),hs,Z29 _ _ hseg]
          have h1:=ho a rfl
          have:Vp l (some a) (pos+k)=Vp l (some a) pos++(l.drop pos).take k:=by
            unfold Vp
            simp only
            rw [show l.take (pos+k)=l.take pos++(l.drop pos).take k from List.take_add,List.drop_append_of_le_length (by rw [List.length_take];omega)]
          rw [this]
    ·exact fin (f+1) pos st acc (by omega) ho
theorem Zhs {p:Nat→Bool}(hp:∀ r,128≤r→p r=false)(l:Str):Z2j p l=Wq p l []:=by
 have h0:=Zei p l
 have h1:=Zk5 hp l l.length 0 none [] (by omega) (by omega) (fun a e=>by cases e)
 simp only [List.map_nil,List.nil_append,List.drop_zero] at h1
 have h2:Vp l none 0=[]:=rfl
 rw [h2] at h1
 have h3:goFieldsP p (bs l)=(Wq p l []).map bs:=by
  rw [←h1]
  unfold goFieldsP spansOfP
  rw [Ww,List.map_map]
  apply List.map_congr_left
  intro x _
  exact Zdl l x.1 x.2
 rw [h3] at h0
 have hinj:Function.Injective bs:=fun a b h=>by have:=congrArg (fun z=>z.data.toList) h;simpa [bs] using this
 exact ((List.map_inj_right (fun a b h=>hinj h)).1 h0).symm
theorem Z69 {p:Nat→Bool}:∀ (l cur:Str),∀ w∈Wq p l cur,w≠[]
 | [],cur,w,h=>by
  unfold Wq at h
  split at h
  ·cases h
  ·rcases List.mem_singleton.1 h with rfl;assumption
 | b::l,cur,w,h=>by
  unfold Wq at h
  split at h
  ·
   split at h
   ·exact Z69 l [] w h
   ·
    rcases List.mem_cons.1 h with rfl | h
    ·assumption
    ·exact Z69 l [] w h
  ·exact Z69 l _ w h
theorem anyT_any {p:Nat→Bool}(hp:∀ r,128≤r→p r=true)(l:Str):anyT p l=l.any (fun b=>p b.toNat):=by
 rw [←Ze7]
 have key:∀ (f pos:Nat),l.length≤pos+f→decide (0≤idxFuncFrom p true (bs l) f pos)=(l.drop pos).any (fun b=>p b.toNat):=by
  intro f
  induction f with
  | zero=>intro pos hf;rw [List.drop_eq_nil_of_le (by omega)];rfl
  | succ f ih =>
   intro pos hf
   by_cases hlt:pos<l.length
   ·
    obtain ⟨c,hc⟩:=Z67 hlt
    rw [idxFuncFrom,if_pos (by rw [Ww];exact hlt),Z3h hc,List.any_cons]
    by_cases ha:c.toNat<128
    ·
     rw [Z7k l pos c hc ha]
     by_cases hq:p c.toNat=true
     ·rw [if_pos hq,hq,Bool.true_or];exact decide_eq_true (by omega)
     ·
      rw [if_neg hq,Bool.eq_false_iff.2 hq,Bool.false_or]
      exact ih (pos+1) (by omega)
    ·
     obtain ⟨r,k,hd,hr,hk,hj⟩:=Zef l pos hlt (by rw [Zcz hc];omega)
     rw [hd,if_pos (hp r hr),hp _ (by omega),Bool.true_or]
     exact decide_eq_true (by omega)
   ·rw [idxFuncFrom_end _ _ _ _ _ (by rw [Ww];exact hlt),List.drop_eq_nil_of_le (by omega)];rfl
 unfold idxFunc
 rw [Ww,key l.length 0 (by omega),List.drop_zero]
def Ln (b:UInt8):Bool:=decide (48≤b.toNat∧b.toNat≤57)
def Ui (acc:Nat)(l:Str):Nat:=l.foldl (fun a b=>a*10+(b.toNat-48)) acc
theorem valD_nil (acc:Nat):Ui acc []=acc:=rfl
theorem Zjo (acc:Nat)(b:UInt8)(l:Str):Ui acc (b::l)=Ui (acc*10+(b.toNat-48)) l:=by
 unfold Ui;rw [List.foldl_cons]
theorem Zjq (l:Str):∀ (acc:Nat),l.all Ln=true→(acc+1)*10^l.length≤18446744073709551616→parseUintM 18446744073709551615 acc l=.ok (Ui acc l):=by
 induction l with
 | nil=>intro acc _ _;rfl
 | cons b l ih =>
  intro acc h hb
  rw [List.all_cons,Bool.and_eq_true] at h
  have h1:48≤b.toNat∧b.toNat≤57:=of_decide_eq_true h.1
  rw [List.length_cons,Nat.pow_succ] at hb
  have hp:1≤10^l.length:=Nat.one_le_pow _ _ (by omega)
  have h2:(acc*10+(b.toNat-48)+1)*10^l.length≤18446744073709551616:=by
   refine Nat.le_trans ?_ hb
   rw [Nat.mul_comm (10^l.length) 10,←Nat.mul_assoc]
   exact Nat.mul_le_mul_right _ (by omega)
  have h3:acc*10+(b.toNat-48)+1≤18446744073709551616:=Nat.le_trans (by have:=Nat.mul_le_mul_left (acc*10+(b.toNat-48)+1) hp;omega) h2
  rw [parseUintM,if_pos h1,if_neg (by omega),if_neg (by omega)]
  exact ih _ h.2 h2
def Vt (s:Str):Int×Bool:=if s.all Ln=true∧s≠[]∧s.length≤19∧Ui 0 s<9223372036854775808 then ((Ui 0 s:Int),true) else (0,false)
theorem Zg7 {s:Str}(h:s.all Ln=true)(h0:s≠[])(h1:s.length≤19):Z40 s=if Ui 0 s<9223372036854775808 then ((Ui 0 s:Int),true) else (9223372036854775807,false):=by
 obtain ⟨c,r,rfl⟩:=List.exists_cons_of_ne_nil h0
 have hc:48≤c.toNat∧c.toNat≤57:=by rw [List.all_cons,Bool.and_eq_true] at h;exact of_decide_eq_true h.1
 have hp:parseUintB 64 (c::r)=.ok (Ui 0 (c::r)):=by
  unfold parseUintB
  rw [if_neg h0]
  refine Zjq _ 0 h ?_
  have:(10:Nat)^(c::r).length≤10^19:=Nat.pow_le_pow_right (by omega) h1
  omega
 unfold Z40
 rw [parseIntB_plain 64 c r (by omega) (by omega),hp]
 simp only [signlessC]
 by_cases hv:Ui 0 (c::r)<9223372036854775808
 ·rw [if_pos hv,if_neg (by omega)]
 ·
  rw [if_neg hv,if_pos (by omega)]
  simp only
  rw [intSat_other 64 c r (by omega)];rfl
theorem Z9s:∀ (f u:Nat),(Vw f u).all Ln=true
 | 0,u=>rfl
 | f+1,u=>by
  have key:∀ v,v<10→Ln (UInt8.ofNat (48+v))=true:=fun v hv=>by
   refine decide_eq_true ?_
   rw [UInt8.toNat_ofNat']
   omega
  rw [Vw]
  split
  ·rw [List.all_cons,key u (by omega)];rfl
  ·rw [List.all_append,Z9s f,List.all_cons,key _ (by omega)];rfl
theorem valD_app (l:Str)(acc:Nat)(b:UInt8):Ui acc (l++[b])=Ui acc l*10+(b.toNat-48):=by
 unfold Ui;rw [List.foldl_append];rfl
theorem Zbq:∀ (f u:Nat),u<10^f→Ui 0 (Vw f u)=u
 | 0,u,h=>by simp at h;subst h;rfl
 | f+1,u,h=>by
  have key:∀ v,v<10→(UInt8.ofNat (48+v)).toNat-48=v:=fun v hv=>by rw [UInt8.toNat_ofNat'];omega
  rw [Vw]
  split
  ·rw [Zjo,valD_nil,key u (by omega)];omega
  ·rw [valD_app,Zbq f (u / 10) (by rw [Nat.pow_succ] at h;omega),key _ (by omega)];omega
theorem Z8c:∀ (f u:Nat),u<10^f→1≤f→1≤(Vw f u).length∧(Vw f u).length≤f
 | 0,u,_,h=>by omega
 | f+1,u,h,_=>by
  rw [Vw]
  split
  ·simp
  ·
   rename_i hu
   rw [List.length_append,List.length_singleton]
   have h2:u / 10<10^f:=by rw [Nat.pow_succ] at h;omega
   cases f with
   | zero=>simp at h;omega
   | succ f=>have:=Z8c (f+1) (u / 10) h2 (by omega);omega
theorem Ze2:∀ (f u:Nat),u<10^(f+1)→Vw (f+2) u=Vw (f+1) u
 | 0,u,h=>by
  have h2:u<10:=by simpa using h
  rw [Vw,if_pos h2,Vw,if_pos h2]
 | f+1,u,h=>by
  by_cases hu:u<10
  ·rw [Vw,if_pos hu,Vw,if_pos hu]
  ·
   rw [Vw,if_neg hu,Ze2 f (u / 10) (by rw [Nat.pow_succ] at h;omega)]
   conv=>rhs;rw [Vw,if_neg hu]
theorem Zeu {n:Int}(h0:0≤n)(h1:n≤9223372036854775807):Xn n=Vw 19 n.toNat∧(Xn n).all Ln=true∧Xn n≠[]∧(Xn n).length≤19∧Ui 0 (Xn n)=n.toNat:=by
 have e19:(10:Nat)^19=10000000000000000000:=by decide
 have e:Xn n=Vw 19 n.toNat:=by
  unfold Xn
  rw [if_neg (by omega)]
  exact Ze2 18 n.toNat (by rw [show 18+1=19 from rfl,e19];omega)
 have hl:=Z8c 19 n.toNat (by rw [e19];omega) (by omega)
 refine ⟨e,by rw [e];exact Z9s _ _,fun h=>?_,by rw [e];exact hl.2,by rw [e];exact Zbq 19 _ (by rw [e19];omega)⟩
 rw [e] at h
 rw [h] at hl
 simp at hl
theorem Ld {n:Int}(h0:0≤n)(h1:n≤9223372036854775807):Vt (Xn n)=(n,true):=by
 obtain ⟨-,h2,h3,h4,h5⟩:=Zeu h0 h1
 unfold Vt
 rw [if_pos ⟨h2,h3,h4,by omega⟩,h5,Int.toNat_of_nonneg h0]
theorem Zgl {n m:Int}(h0:0≤n)(h1:n≤9223372036854775807)(g0:0≤m)(g1:m≤9223372036854775807)(h:Xn n=Xn m):n=m:=by
 have:=Ld h0 h1
 rw [h,Ld g0 g1] at this
 injection this with h2 _
 exact h2.symm
end Go.Acq
namespace Go.Acq
open Go
def Nd {S V X:Type}(yy:S→V→Option (S⊕X)):S→List V→Option (S⊕X)
  | s,[]=>some (.inl s)
  | s,v::vs=>Option.bind (yy s v) fun t=>match t with | .inl s'=>Nd yy s' vs | .inr x=>some (.inr x)
theorem Ze4 {S V X:Type}{yy:S→V→Option (S⊕X)}{s s':S}{v:V}{vs:List V}(h:yy s v=some (.inl s')):Nd yy s (v::vs)=Nd yy s' vs:=by
 rw [Nd,h];rfl
theorem Zhf {S V X:Type}{yy:S→V→Option (S⊕X)}{s:S}{x:X}{v:V}{vs:List V}(h:yy s v=some (.inr x)):Nd yy s (v::vs)=some (.inr x):=by
 rw [Nd,h];rfl
def Vv:Str→Str→List Str
  | [],cur=>[cur]
  | b::l,cur=>if b=10 then cur::Vv l [] else Vv l (cur++[b])
theorem Z9e:∀ (l cur:Str),∀ x∈Vv l cur,x.length≤cur.length+l.length
 | [],cur,x,h=>by rw [Vv] at h;rw [List.mem_singleton.1 h];exact Nat.le_add_right _ _
 | b::l,cur,x,h=>by
  rw [Vv] at h
  split at h
  ·
   rcases List.mem_cons.1 h with rfl | h
   ·exact Nat.le_add_right _ _
   ·have:=Z9e l [] x h;simp only [List.length_nil,List.length_cons] at this ⊢;omega
  ·have:=Z9e l _ x h;rw [List.length_append,List.length_singleton] at this;rw [List.length_cons];omega
theorem Zbj:∀ (seg rest cur:Str),(∀ b∈seg,b≠10)→Vv (seg++10::rest) cur=(cur++seg)::Vv rest []
 | [],rest,cur,_=>by rw [List.nil_append,Vv,if_pos rfl,List.append_nil]
 | b::seg,rest,cur,h=>by
  rw [List.cons_append,Vv,if_neg (h b (.head _)),Zbj seg rest _ (fun x hx=>h x (.tail _ hx)),List.append_assoc];rfl
theorem Zf4:∀ (t cur:Str),(Lib.indexByte t 10<0∧Vv t cur=[cur++t])∨(∃ r:Nat,Lib.indexByte t 10=r∧r<t.length∧Vv t cur=(cur++t.take r)::Vv (t.drop (r+1)) [])
 | [],cur=>.inl ⟨by decide,by rw [Vv,List.append_nil]⟩
 | b::l,cur=>by
  by_cases hb:b=10
  ·
   subst hb
   refine .inr ⟨0,rfl,by simp,?_⟩
   rw [Vv,if_pos rfl];simp
  ·
   have h1:(b==(10:UInt8))=false:=by simpa using hb
   rcases Zf4 l (cur++[b]) with ⟨h2,h3⟩ | ⟨r,h2,h3,h4⟩
   ·
    refine .inl ⟨?_,by rw [Vv,if_neg hb,h3,List.append_assoc];rfl⟩
    have h5:Lib.indexByte l 10=-1:=by have:=Lib.indexByte_ge l 10;omega
    rw [Lib.indexByte,h1,h5];decide
   ·
    refine .inr ⟨r+1,?_,by rw [List.length_cons];omega,?_⟩
    ·
     rw [Lib.indexByte,h1,h2]
     have:((r:Int)==-1)=false:=beq_eq_false_iff_ne.2 (by omega)
     rw [this];simp
    ·rw [Vv,if_neg hb,h4,List.append_assoc];simp
theorem ub_take (t:Str)(k:Nat):(ub t).take k=ub (t.take k):=by unfold ub;rw [List.map_take]
theorem ub_drop (t:Str)(k:Nat):(ub t).drop k=ub (t.drop k):=by unfold ub;rw [List.map_drop]
theorem Z6z (a b:Str):ub (a++b)=ub a++ub b:=by unfold ub;rw [List.map_append]
theorem Zc0 (t:Str):Z3e (ub t) [10]=some (Lib.indexByte t 10):=by
 unfold Z3e Z7n
 rw [if_neg (by simp),if_pos (by simp),Va (by constructor <;> decide)]
 simp only [Option.bind_some]
 congr 1
 unfold idxT
 rw [bu_ub];rfl
theorem Zjg {S X:Type}(yy:S→List Int→Option (S⊕X)){t:Str}{s:S}(h1:Lib.indexByte t 10<0):Gz yy [10] 0 (ub t) (.inl s)=some (.inr (.inl (ub t,.inl s))):=by
 unfold Gz
 rw [Zc0,Option.bind_some,if_pos h1]
theorem Zku {S X:Type}(yy:S→List Int→Option (S⊕X)){t:Str}{s:S}{r:Nat}(hl:t.length≤1152921504606846976)(h1:Lib.indexByte t 10=r)(h2:r<t.length) :
    Gz yy [10] 0 (ub t) (.inl s)=Option.bind (yy s (ub (t.take r))) fun x=>match x with | .inl s'=>some (.inl (ub (t.drop (r+1)),.inl s')) | .inr x=>some (.inr (.inr (.inr x))):=by
  unfold Gz
  rw [Zc0,Option.bind_some,if_neg (by omega),h1]
  have ht:((r:Int)+0).toNat=r:=by omega
  have hd:((r:Int)+(([10]:List Int).length:Int)).toNat=r+1:=by simp only [List.length_singleton];omega
  have hlen:=Gc t
  rw [Va (by omega),Va (by rw [hlen];omega),Va (by omega),ht,hd,List.take_of_length_le (by omega),ub_take,ub_drop]
  simp only [Rx]
  cases hy:yy s (ub (t.take r)) with
  | none=>rfl
  | some x =>
    cases x with
    | inr x=>rfl
    | inl s' =>
      rw [Option.bind_some,if_neg (by simp),Va (by simp only [List.length_singleton];omega),Va (by rw [hlen];simp only [List.length_singleton];omega)]
      rfl
theorem s_splitN {S X:Type}(yy:S→List Int→Option (S⊕X)):∀ (fuel:Nat) (t:Str) (s:S),t.length≤1152921504606846976→t.length<fuel →
    (Option.bind (Xd (fun s:List Int×(S⊕X)=>Gz yy [10] 0 s.1 s.2) fuel (ub t,.inl s)) fun o=>match o with | .inl (p2_0_0,p2_0_1)=>(Z0h yy p2_0_0 p2_0_1) | .inr p2_1_0=>(some p2_1_0))=Nd (fun s v=>yy s (ub v)) s (Vv t []):=by
  intro fuel
  induction fuel with
  | zero=>intro t s _ h;omega
  | succ fuel ih =>
    intro t s hl hf
    rw [Xd]
    rcases Zf4 t [] with ⟨h1,h2⟩ | ⟨r,h1,h2,h3⟩
    · rw [Zjg yy h1, h2]
      simp only [Option.bind_some,List.nil_append,Nd]
      unfold Z0h
      rw [Va (by omega),List.take_of_length_le (by omega)]
      simp only [Rx]
      cases yy s (ub t) with
      | none=>rfl
      | some x=>cases x <;> rfl
    · rw [Zku yy hl h1 h2, h3]
      rw [Nd,List.nil_append]
      cases hy:yy s (ub (t.take r)) with
      | none=>rfl
      | some x =>
        cases x with
        | inr x=>rfl
        | inl s'=>exact ih (t.drop (r+1)) s' (by rw [List.length_drop];omega) (by rw [List.length_drop];omega)
theorem s_split {S X:Type}(yy:S→List Int→Option (S⊕X))(t:Str)(s:S)(hl:t.length≤1152921504606846976):Ly yy [10] (ub t) 0 (.inl s)=Nd (fun s v=>yy s (ub v)) s (Vv t []):=by
 unfold Ly Z12
 rw [if_neg (by simp)]
 have hF:t.length<Xf:=Nat.lt_of_le_of_lt hl (by unfold Xf;decide)
 exact s_splitN yy Xf t s hl hF
theorem Z3j (x:Nat):Jg x=decide (x=9∨x=13∨x=32):=by
 unfold Jg Z1p
 by_cases h1:x=9
 ·subst h1;rfl
 ·
  by_cases h2:x=13
  ·subst h2;rfl
  ·
   rw [if_neg (by omega),if_neg (by omega)]
   by_cases h3:x=32
   ·subst h3;rfl
   ·rw [decide_eq_false (by omega:¬((x:Int)=32)),decide_eq_false (by omega:¬(x=9∨x=13∨x=32))];rfl
theorem blank_hi:∀ r,128≤r→Jg r=false:=fun r h=>by rw [Z3j];exact decide_eq_false (by omega)
def Kl (l:Str):List Str:=Wq Jg l []
theorem s_Words (l:Str)(h:l.length≤4294967296):Rv (ub l)=some (Kl l):=by
 unfold Rv Z7m
 rw [bu_ub,Va h,Zhs blank_hi];rfl
def Kw (l:Str):Option (List Str):=if Kl l=[] then none else if ((Kl l).getD 0 []).getD 0 0=99 then none else some (Kl l)
def Gs (t:Str):List (List Str):=(Vv t []).filterMap Kw
theorem Zkr (seg rest:Str)(h:∀ b∈seg,b≠10):Gs (seg++10::rest)=(Kw seg).toList++Gs rest:=by
 unfold Gs
 rw [Zbj seg rest [] h,List.nil_append,List.filterMap_cons]
 cases Kw seg <;> rfl
def okW (w:Str):Prop:=w≠[]∧∀ b∈w,Jg b.toNat=false
theorem fld_end {w:Str}(h:okW w):Wq Jg w []=[w]:=by
 have:=Z29 (p:=Jg) (l:=[]) w [] h.2
 rw [List.append_nil,List.nil_append] at this
 rw [this,Zak h.1]
theorem fld_more {w rest:Str}(h:okW w){b:UInt8}(hb:Jg b.toNat=true):Wq Jg (w++b::rest) []=w::Wq Jg rest []:=by
 rw [Z29 w [] h.2,List.nil_append,Z9r hb h.1]
end Go.Acq
namespace Go.Acq
open Go
theorem Zeb (x:Nat):Z0c x=decide (x<48∨57<x):=by
 unfold Z0c Z11
 by_cases h1:x<48
 ·rw [if_pos (by omega),decide_eq_true (by omega:x<48∨57<x)];rfl
 ·
  rw [if_neg (by omega)]
  by_cases h2:57<x
  ·rw [decide_eq_true (by omega:(57:Int)<x),decide_eq_true (by omega:x<48∨57<x)];rfl
  ·rw [decide_eq_false (by omega:¬(57:Int)<x),decide_eq_false (by omega:¬(x<48∨57<x))];rfl
theorem any_dig (l:Str):l.any (fun b=>Z0c b.toNat)=!(l.all Ln):=by
 induction l with
 | nil=>rfl
 | cons b l ih =>
  rw [List.any_cons,List.all_cons,ih,Zeb,Bool.not_and]
  congr 1
  unfold Ln
  by_cases h:48≤b.toNat∧b.toNat≤57
  ·rw [decide_eq_true h,decide_eq_false (by omega:¬(b.toNat<48∨57<b.toNat))];rfl
  ·rw [decide_eq_false h,decide_eq_true (by omega:b.toNat<48∨57<b.toNat)];rfl
theorem s_Number (s:Str):Z0j s=some (Vt s):=by
 unfold Z0j
 by_cases h1:19<s.length
 ·
  rw [if_pos (by omega)]
  unfold Z1m Vt
  rw [if_pos rfl,if_neg (by omega)]
 ·
  rw [if_neg (by omega)]
  unfold Z5e Z1m
  rw [anyT_any (fun r h=>by rw [Zeb];exact decide_eq_true (by omega)),any_dig,Option.bind_some]
  by_cases h2:s.all Ln=true
  ·
   rw [h2,if_neg (by simp)]
   unfold Z7j
   rw [Va ⟨by omega,rfl,rfl⟩,Option.bind_some]
   by_cases h3:s=[]
   ·subst h3;rfl
   ·
    rw [Zg7 h2 h3 (by omega)]
    unfold Vt
    by_cases h4:Ui 0 s<9223372036854775808
    ·rw [if_pos h4,if_pos ⟨h2,h3,by omega,h4⟩];rfl
    ·rw [if_neg h4,if_neg (fun h=>h4 h.2.2.2)];rfl
  ·
   rw [Bool.eq_false_iff.2 h2,if_pos (by simp)]
   unfold Vt
   rw [if_neg (fun h=>h2 h.1)]
theorem Zfu (s:Str):0≤(Vt s).1∧(Vt s).1≤9223372036854775807:=by
 unfold Vt
 split
 ·rename_i h;simp only;omega
 ·simp
def Ke (s:Str)(lo hi:Int):Bool:=(Vt s).2&&decide (lo≤(Vt s).1∧(Vt s).1≤hi)
theorem numB_iff {s:Str}{lo hi:Int}:Ke s lo hi=true↔(Vt s).2=true∧lo≤(Vt s).1∧(Vt s).1≤hi:=by
 unfold Ke;rw [Bool.and_eq_true,decide_eq_true_eq]
theorem Z0s {n lo hi:Int}(h0:0≤n)(h1:n≤9223372036854775807)(h2:lo≤n)(h3:n≤hi):Ke (Xn n) lo hi=true:=by
 rw [numB_iff,Ld h0 h1];exact ⟨rfl,h2,h3⟩
end Go.Acq
namespace Go.Acq
open Go
def cleanT (w:Str):Prop:=w≠[]∧∀ b∈w,45≤b.toNat∧b.toNat≤57
theorem Z3d {n:Int}(h:i64ok n):cleanT (Xn n)∧(Xn n).length≤21:=by
 have e20:(10:Nat)^20=100000000000000000000:=by decide
 have key:∀ u:Nat,u≤9223372036854775808→cleanT (Vw 20 u)∧(Vw 20 u).length≤20:=fun u hu=>by
  have h1:=Z8c 20 u (by rw [e20];omega) (by omega)
  refine ⟨⟨fun e=>by rw [e] at h1;simp at h1,fun b hb=>?_⟩,h1.2⟩
  have:=List.all_eq_true.1 (Z9s 20 u) b hb
  have:=of_decide_eq_true this
  omega
 unfold Xn
 split
 ·
  obtain ⟨⟨h1,h2⟩,h3⟩:=key n.natAbs (by omega)
  refine ⟨⟨by simp,fun b hb=>?_⟩,by rw [List.length_cons];omega⟩
  rcases List.mem_cons.1 hb with rfl | hb
  ·decide
  ·exact h2 b hb
 ·
  obtain ⟨h1,h3⟩:=key n.toNat (by omega)
  exact ⟨h1,by omega⟩
theorem cleanT.ok {w:Str}(h:cleanT w):okW w:=⟨h.1,fun b hb=>by rw [Z3j];have:=h.2 b hb;exact decide_eq_false (by omega)⟩
theorem cleanT.ten {w:Str}(h:cleanT w):∀ b∈w,b≠10:=fun b hb e=>by
 have:=h.2 b hb
 subst e
 have:(10:UInt8).toNat=10:=rfl
 omega
theorem blank32:Jg (32:UInt8).toNat=true:=by rw [Z3j];rfl
theorem said_of {l:Str}{w:List Str}(h:Kl l=w)(h0:w≠[])(h1:(w.getD 0 []).getD 0 0≠99):Kw l=some w:=by
 unfold Kw
 rw [h,if_neg h0,if_neg h1]
end Go.Acq
namespace Go.Acq
open Go
def Vb (ls:List Str):Str:=ls.flatMap (·++[10])
def Z3q (l:Str):Prop:=(∀ b∈l,b≠10)∧l.length≤100
def Rw:Nat→List Bool→List Str
  | _,[]=>[]
  | i,b::s=>if b=true then ([107,32]++Xn (i+1))::Rw (i+1) s else Rw (i+1) s
end Go.Acq
namespace Go.Acq
open Go
theorem Za0 {α:Type}(z:α)(k w:Str)(v:α):∀ xs:List (Str×α),Yr z w (Xw k v xs)=if w=k then v else Yr z w xs
 | []=>by
  show (if w=k then v else Yr z w [])=_
  rfl
 | x::xs=>by
  unfold Xw
  by_cases h:k=x.1
  ·
   rw [if_pos h]
   show (if w=k then v else Yr z w xs)=if w=k then v else (if w=x.1 then x.2 else Yr z w xs)
   by_cases hw:w=k
   ·rw [if_pos hw,if_pos hw]
   ·rw [if_neg hw,if_neg hw,if_neg (fun e=>hw (e.trans h.symm))]
  ·
   rw [if_neg h]
   show (if w=x.1 then x.2 else Yr z w (Xw k v xs))=if w=k then v else (if w=x.1 then x.2 else Yr z w xs)
   rw [Za0 z k w v xs]
   by_cases hw:w=k
   ·rw [if_pos hw,if_neg (fun e=>h (hw.symm.trans e)),if_pos hw]
   ·rw [if_neg hw,if_neg hw]
structure Rd where
  n:Net
  said:List (Str×Int)
  arcs:Int
def goodS (m:List (Str×Int)):Prop:=∀ w,Yr 0 w m=0∨Yr 0 w m=1
theorem goodS.put {m:List (Str×Int)}(h:goodS m)(k:Str):goodS (Xw k 1 m):=fun w=>by
 rw [Za0];split
 ·exact .inr rfl
 ·exact h w
def pW (r:Rd)(w:List Str):Option Rd :=
  if w.length=4∧Yr 0 [112] r.said=0∧w.getD 1 []=[109,97,120]∧Ke (w.getD 2 []) 0 2147483648=true∧Ke (w.getD 3 []) 0 2147483648=true
  then some ⟨Net.mk (Vt (w.getD 2 [])).1 r.n.S r.n.T r.n.Arcs,Xw [112] 1 r.said,(Vt (w.getD 3 [])).1⟩ else none
def nW (r:Rd)(w:List Str):Option Rd :=
  if w.length=3∧Ke (w.getD 1 []) 1 r.n.N=true∧Yr 0 (w.getD 2 []) r.said=0 then
    (if w.getD 2 []=[115] then some ⟨Net.mk r.n.N ((Vt (w.getD 1 [])).1-1) r.n.T r.n.Arcs,Xw [115] 1 r.said,r.arcs⟩
     else if w.getD 2 []=[116] then some ⟨Net.mk r.n.N r.n.S ((Vt (w.getD 1 [])).1-1) r.n.Arcs,Xw [116] 1 r.said,r.arcs⟩ else none)
  else none
def aW (r:Rd)(w:List Str):Option Rd :=
  if w.length=4∧Ke (w.getD 1 []) 1 r.n.N=true∧Ke (w.getD 2 []) 1 r.n.N=true∧Ke (w.getD 3 []) 0 9223372036854775807=true
  then some ⟨Net.mk r.n.N r.n.S r.n.T (r.n.Arcs++[Arc.mk ((Vt (w.getD 1 [])).1-1) ((Vt (w.getD 2 [])).1-1) (Vt (w.getD 3 [])).1]),r.said,r.arcs⟩ else none
def Vf (r:Rd)(w:List Str):Option Rd :=
  if w.getD 0 []=[112] then pW r w else if Yr 0 [112] r.said=1 then (if w.getD 0 []=[110] then nW r w else if w.getD 0 []=[97] then aW r w else none) else none
theorem Z1i:Vi true=some (.inl ()):=rfl
theorem Nr:Vi false=some (.inr ()):=rfl
theorem Z6t (r:DimacsReader)(a lo hi:Int)(h:inb a r.words.length):Z02 r a lo hi=some (if Ke (r.words.getD a.toNat []) lo hi=true then .inl (Vt (r.words.getD a.toNat [])).1 else .inr ()):=by
 unfold Z02
 rw [Va h,s_Number,Option.bind_some]
 unfold Ke
 generalize Vt (r.words.getD a.toNat [])=x
 obtain ⟨x,ok⟩:=x
 simp only
 cases ok with
 | false=>simp [Nr]
 | true =>
  by_cases h1:lo≤x
  ·
   by_cases h2:x≤hi
   ·simp [h1,h2,Z1i]
   ·simp [h1,h2,Nr]
  ·simp [h1,Nr]
theorem Z96 (r:DimacsReader)(n:Int):Z06 r n=some (if (r.words.length:Int)=n then .inl () else .inr ()):=by
 unfold Z06
 by_cases h:(r.words.length:Int)=n
 ·rw [if_pos h,decide_eq_true (by omega),Z1i];rfl
 ·rw [if_neg h,decide_eq_false (by omega),Nr];rfl
theorem Z8o (r:DimacsReader)(a:Int)(h:inb a r.words.length):Z0k r a=some (if Ke (r.words.getD a.toNat []) 1 r.n.N=true then .inl ((Vt (r.words.getD a.toNat [])).1-1) else .inr ()):=by
 unfold Z0k
 rw [Z6t r a 1 r.n.N h,Option.bind_some]
 have hr:=Zfu (r.words.getD a.toNat [])
 by_cases hb:Ke (r.words.getD a.toNat []) 1 r.n.N=true
 ·
  rw [if_pos hb,if_pos hb]
  simp only
  rw [Va ⟨by omega,by omega⟩]
 ·rw [if_neg hb,if_neg hb]
theorem Zbe (r:DimacsReader)(w:Str)(h:goodS r.said):Z1f r w=some (if Yr 0 w r.said=0 then .inl ⟨r.n,Xw w 1 r.said,r.arcs,r.words⟩ else .inr ()):=by
 unfold Z1f
 rw [Za0,if_pos rfl]
 rcases h w with e | e
 ·rw [e,Va (by decide),if_pos rfl];rfl
 ·rw [e,Va (by decide),if_neg (by decide)];rfl
abbrev rdOf (r:DimacsReader):Rd:=⟨r.n,r.said,r.arcs⟩
abbrev bk (w:List Str):Option Rd→DimacsReader⊕Unit
  | some r=>.inl ⟨r.n,r.said,r.arcs,w⟩
  | none=>.inr ()
theorem Zhd (r:DimacsReader)(h:goodS r.said):Z2u r=some (bk r.words (pW (rdOf r) r.words)):=by
 unfold Z2u pW
 rw [Z96 r 4,Option.bind_some]
 by_cases h1:r.words.length=4
 ·
  rw [if_pos (by omega)]
  simp only
  rw [Zbe r _ h,Option.bind_some]
  by_cases h2:Yr 0 [112] r.said=0
  ·
   rw [if_pos h2]
   simp only
   rw [Va (by constructor <;> omega)]
   have e1:(1:Int).toNat=1:=rfl
   rw [e1]
   by_cases h3:r.words.getD 1 []=[109,97,120]
   ·
    rw [decide_eq_true h3,Z1i,Option.bind_some]
    simp only
    rw [Z6t _ 2 _ _ ⟨by decide,by show (_:Int)<(r.words.length:Int);omega⟩,Option.bind_some]
    have e2:(2:Int).toNat=2:=rfl
    rw [e2]
    by_cases h4:Ke (r.words.getD 2 []) 0 2147483648=true
    ·
     rw [if_pos h4]
     simp only
     rw [Z6t _ 3 _ _ ⟨by decide,by show (_:Int)<(r.words.length:Int);omega⟩,Option.bind_some]
     have e3:(3:Int).toNat=3:=rfl
     rw [e3]
     by_cases h5:Ke (r.words.getD 3 []) 0 2147483648=true
     ·rw [if_pos h5,if_pos ⟨h1,h2,h3,h4,h5⟩]
     ·rw [if_neg h5,if_neg (fun h=>h5 h.2.2.2.2)]
    ·rw [if_neg h4,if_neg (fun h=>h4 h.2.2.2.1)]
   ·rw [decide_eq_false h3,Nr,Option.bind_some,if_neg (fun h=>h3 h.2.2.1)]
  ·rw [if_neg h2,if_neg (fun h=>h2 h.2.1)]
 ·rw [if_neg (by omega),if_neg (fun h=>h1 h.1)]
theorem s_dnode (r:DimacsReader)(h:goodS r.said):Z3u r=some (bk r.words (nW (rdOf r) r.words)):=by
 unfold Z3u nW
 rw [Z96 r 3,Option.bind_some]
 by_cases h1:r.words.length=3
 ·
  rw [if_pos (by omega)]
  simp only
  rw [Z8o r 1 (by constructor <;> omega),Option.bind_some]
  have e1:(1:Int).toNat=1:=rfl
  have e2:(2:Int).toNat=2:=rfl
  rw [e1]
  by_cases h2:Ke (r.words.getD 1 []) 1 r.n.N=true
  ·
   rw [if_pos h2]
   simp only
   rw [Va (by constructor <;> omega),e2,Zbe r _ h,Option.bind_some]
   by_cases h3:Yr 0 (r.words.getD 2 []) r.said=0
   ·
    rw [if_pos h3,if_pos ⟨h1,h2,h3⟩]
    simp only
    rw [Va (by constructor <;> omega)]
    by_cases h4:r.words.getD 2 []=[115]
    ·rw [if_pos h4,if_pos h4,h4]
    ·
     by_cases h5:r.words.getD 2 []=[116]
     ·rw [if_neg h4,if_neg h4,if_pos h5,if_pos h5,h5]
     ·rw [if_neg h4,if_neg h4,if_neg h5,if_neg h5];rfl
   ·rw [if_neg h3,if_neg (fun h=>h3 h.2.2)]
  ·rw [if_neg h2,if_neg (fun h=>h2 h.2.1)]
 ·rw [if_neg (by omega),if_neg (fun h=>h1 h.1)]
theorem s_arcR (r:DimacsReader)(hl:r.n.Arcs.length≤4294967297):Z3w r=some (bk r.words (aW (rdOf r) r.words)):=by
 unfold Z3w aW
 rw [Z96 r 4,Option.bind_some]
 have e1:(1:Int).toNat=1:=rfl
 have e2:(2:Int).toNat=2:=rfl
 have e3:(3:Int).toNat=3:=rfl
 by_cases h1:r.words.length=4
 ·
  rw [if_pos (by omega)]
  simp only
  rw [Z8o r 1 (by constructor <;> omega),Option.bind_some,e1]
  by_cases h2:Ke (r.words.getD 1 []) 1 r.n.N=true
  ·
   rw [if_pos h2]
   simp only
   rw [Z8o r 2 (by constructor <;> omega),Option.bind_some,e2]
   by_cases h3:Ke (r.words.getD 2 []) 1 r.n.N=true
   ·
    rw [if_pos h3]
    simp only
    rw [Z6t r 3 _ _ (by constructor <;> omega),Option.bind_some,e3]
    by_cases h4:Ke (r.words.getD 3 []) 0 9223372036854775807=true
    ·
     rw [if_pos h4,if_pos ⟨h1,h2,h3,h4⟩]
     simp only
     rw [Va (by rw [List.length_append,List.length_singleton];constructor <;> omega)]
    ·rw [if_neg h4,if_neg (fun h=>h4 h.2.2.2)]
   ·rw [if_neg h3,if_neg (fun h=>h3 h.2.2.1)]
  ·rw [if_neg h2,if_neg (fun h=>h2 h.2.1)]
 ·rw [if_neg (by omega),if_neg (fun h=>h1 h.1)]
theorem pW_form (r:Rd)(w:List Str):pW r w=none∨∃ a m k,pW r w=some ⟨Net.mk a r.n.S r.n.T r.n.Arcs,m,k⟩:=by
 unfold pW;split
 ·exact .inr ⟨_,_,_,rfl⟩
 ·exact .inl rfl
theorem nW_form (r:Rd)(w:List Str):nW r w=none∨∃ s t m,nW r w=some ⟨Net.mk r.n.N s t r.n.Arcs,m,r.arcs⟩:=by
 unfold nW;split
 ·
  split
  ·exact .inr ⟨_,_,_,rfl⟩
  ·
   split
   ·exact .inr ⟨_,_,_,rfl⟩
   ·exact .inl rfl
 ·exact .inl rfl
theorem aW_form (r:Rd)(w:List Str):aW r w=none∨∃ al,aW r w=some ⟨Net.mk r.n.N r.n.S r.n.T al,r.said,r.arcs⟩:=by
 unfold aW;split
 ·exact .inr ⟨_,rfl⟩
 ·exact .inl rfl
theorem s_line (r:DimacsReader)(l:Str)(h:goodS r.said)(ha:r.n.Arcs.length≤4294967297)(hl:l.length≤4294967296) :
    Z2g r (ub l)=some (match Kw l with | none=>.inl ⟨r.n,r.said,r.arcs,Kl l⟩ | some w=>bk w (Vf (rdOf r) w)):=by
  unfold Z2g Kw
  rw [s_Words l hl]
  simp only [Option.bind_some]
  by_cases h1:Kl l=[]
  ·rw [if_pos h1,if_pos (by rw [h1];rfl)]
  · have h2 : 0 < (Kl l).length := List.length_pos_iff.2 h1
    have h3:(Kl l).getD (0:Int).toNat []∈Kl l:=by
      rw [Int.toNat_zero,List.getD_eq_getElem?_getD,List.getElem?_eq_getElem h2]
      exact List.getElem_mem h2
    have h4:0<((Kl l).getD (0:Int).toNat []).length:=List.length_pos_iff.2 (Z69 _ _ _ h3)
    have g0:inb 0 (Kl l).length:=by constructor <;> omega
    rw [if_neg h1,if_neg (by omega),Va g0,Va (by constructor <;> omega),Va g0]
    rw [Int.toNat_zero]
    generalize hw:Kl l=w
    by_cases h5:(w.getD 0 []).getD 0 0=99
    ·rw [if_pos h5,if_pos (by rw [h5];rfl)]
    · have h6 : ¬ (((w.getD 0 []).getD 0 0).toNat : Int) = 99 := fun e => h5 (UInt8.toNat_inj.1 (by have : (99 : UInt8).toNat = 99 := rfl; omega))
      rw [if_neg h5,if_neg h6]
      simp only
      by_cases k1:w.getD 0 []=[112]
      · have hl : Vf (rdOf r) w = pW (rdOf r) w := by unfold Vf; rw [if_pos k1]
        rw [hl,if_pos k1,if_pos k1,Z1i,Option.bind_some]
        simp only
        unfold Z33
        rw [Zhd ⟨r.n,r.said,r.arcs,w⟩ h,Option.bind_some]
        show (match bk w (pW (rdOf r) w) with | .inl r31=>_ | .inr _=>_)=some (bk w (pW (rdOf r) w))
        rcases pW_form (rdOf r) w with e | ⟨_,_,_,e⟩ <;> rw [e]
      · have hl : Vf (rdOf r) w = if Yr 0 [112] r.said = 1 then (if w.getD 0 [] = [110] then nW (rdOf r) w else if w.getD 0 [] = [97] then aW (rdOf r) w else none) else none := by unfold Vf; rw [if_neg k1]
        have p1:∀ (j:Option (DimacsReader⊕Unit)) (o:Option Rd),(Yr 0 [112] r.said=1→j=some (bk w o))→(if w.getD 0 []=[112] then (Option.bind (Vi true) fun t=>match t with | .inl _=>j | .inr _=>some (.inr ())) else Option.bind (Vi (decide ((Yr 0 ([112]:Str) r.said)=1))) fun t=>match t with | .inl _=>j | .inr _=>some (.inr ()))=some (bk w (if Yr 0 [112] r.said=1 then o else none)):=by
          intro j o hj
          rw [if_neg k1]
          by_cases hp:Yr 0 [112] r.said=1
          ·rw [decide_eq_true hp,Z1i,if_pos hp];exact hj hp
          ·rw [decide_eq_false hp,Nr,if_neg hp];rfl
        rw [hl,if_neg k1]
        by_cases k2:w.getD 0 []=[110]
        · rw [if_pos k2, if_pos k2]
          refine p1 _ (nW (rdOf r) w) fun _=>?_
          unfold Z47
          rw [s_dnode ⟨r.n,r.said,r.arcs,w⟩ h,Option.bind_some]
          show (match bk w (nW (rdOf r) w) with | .inl r31=>_ | .inr _=>_)=some (bk w (nW (rdOf r) w))
          rcases nW_form (rdOf r) w with e | ⟨_,_,_,e⟩ <;> rw [e]
        · by_cases k3 : w.getD 0 [] = [97]
          · rw [if_neg k2, if_neg k2, if_pos k3, if_pos k3]
            refine p1 _ (aW (rdOf r) w) fun _=>?_
            unfold Z2h
            rw [s_arcR ⟨r.n,r.said,r.arcs,w⟩ ha,Option.bind_some]
            show (match bk w (aW (rdOf r) w) with | .inl r31=>_ | .inr _=>_)=some (bk w (aW (rdOf r) w))
            rcases aW_form (rdOf r) w with e | ⟨_,e⟩ <;> rw [e]
          · rw [if_neg k2, if_neg k2, if_neg k3, if_neg k3, Nr]
            split <;> rfl
theorem Zgu {r s:Rd}{w:List Str}(h:goodS r.said)(e:Vf r w=some s):goodS s.said∧s.n.Arcs.length≤r.n.Arcs.length+1:=by
 unfold Vf pW nW aW at e
 repeat' split at e
 all_goals first
  | (cases e;done)
  | (injection e with e;subst e;exact ⟨by first | exact h | exact h.put _,by simp⟩)
def Vs:Rd→List (List Str)→Option Rd
  | r,[]=>some r
  | r,w::ws=>Option.bind (Vf r w) fun s=>Vs s ws
theorem Zi2 (a b:List (List Str)):∀ r,Vs r (a++b)=Option.bind (Vs r a) fun s=>Vs s b:=by
 induction a with
 | nil=>intro r;rfl
 | cons w a ih =>
  intro r
  rw [List.cons_append,Vs,Vs]
  cases Vf r w with
  | none=>rfl
  | some s=>exact ih s
theorem Zlk {r s:Rd}{a b:List (List Str)}{w:List Str}(h1:Vs r a=some s)(h2:Vf s w=none):Vs r (a++w::b)=none:=by
 rw [Zi2,h1,Option.bind_some,Vs,h2];rfl
abbrev rd0:Rd:=⟨Net.mk 0 0 0 [],[],0⟩
abbrev tupR (r:Rd)(w:List Str):Int×Int×Int×List Arc×(List (Str×Int))×Int×List Str:=(r.n.N,r.n.S,r.n.T,r.n.Arcs,r.said,r.arcs,w)
theorem Zad:∀ (ls:List Str) (r:Rd) (ws:List Str),goodS r.said→r.n.Arcs.length+ls.length≤4294967297→(∀ l∈ls,l.length≤4294967296) →
    ∃ ws',Nd (fun s v=>Rk s.1 s.2.1 s.2.2.1 s.2.2.2.1 s.2.2.2.2.1 s.2.2.2.2.2.1 s.2.2.2.2.2.2 (ub v)) (tupR r ws) ls=some (match Vs r (ls.filterMap Kw) with | some s=>.inl (tupR s ws') | none=>.inr ())
  | [],r,ws,_,_,_=>⟨ws,rfl⟩
  | l::ls,r,ws,h,ha,hl=>by
    have hy:Rk r.n.N r.n.S r.n.T r.n.Arcs r.said r.arcs ws (ub l)=some (match Kw l with | none=>.inl (tupR r (Kl l)) | some w=>match Vf r w with | some s=>.inl (tupR s w) | none=>.inr ()):=by
      unfold Rk
      rw [s_line ⟨Net.mk r.n.N r.n.S r.n.T r.n.Arcs,r.said,r.arcs,ws⟩ l h (by show r.n.Arcs.length≤_;rw [List.length_cons] at ha;omega) (hl l (.head _)),Option.bind_some]
      cases Kw l with
      | none=>rfl
      | some w =>
        show (match bk w (Vf r w) with | .inl r56=>_ | .inr _=>_)=some (match Vf r w with | some s=>Sum.inl (tupR s w) | none=>Sum.inr ())
        cases Vf r w <;> rfl
    rw [List.filterMap_cons]
    rw [List.length_cons] at ha
    cases hs:Kw l with
    | none =>
      rw [hs] at hy
      rw [Ze4 (s':=tupR r (Kl l)) hy]
      exact Zad ls r _ h (by omega) (fun x hx=>hl x (.tail _ hx))
    | some w =>
      rw [hs] at hy
      simp only at hy ⊢
      rw [Vs]
      cases hw:Vf r w with
      | none=>rw [hw] at hy;exact ⟨[],Zhf hy⟩
      | some s =>
        rw [hw] at hy
        obtain ⟨g1,g2⟩:=Zgu h hw
        rw [Ze4 (s':=tupR s w) hy]
        exact Zad ls s _ g1 (by omega) (fun x hx=>hl x (.tail _ hx))
def Z09:Option Rd→Net×Bool
  | none=>(Net.mk 0 0 0 [],false)
  | some r=>if Yr 0 [112] r.said=1∧Yr 0 [115] r.said=1∧Yr 0 [116] r.said=1∧(r.n.Arcs.length:Int)=r.arcs then (r.n,true) else (Net.mk 0 0 0 [],false)
theorem Za2 (r:Rd):Z09 (some r)=if Yr 0 [112] r.said=1∧Yr 0 [115] r.said=1∧Yr 0 [116] r.said=1∧(r.n.Arcs.length:Int)=r.arcs then (r.n,true) else (Net.mk 0 0 0 [],false):=rfl
theorem Z5u:∀ (l cur:Str),(Vv l cur).length≤l.length+1
 | [],cur=>by rw [Vv];simp
 | b::l,cur=>by
  rw [Vv]
  split
  ·have:=Z5u l [];rw [List.length_cons,List.length_cons];omega
  ·have:=Z5u l (cur++[b]);rw [List.length_cons];omega
theorem s_dread (t:Str)(hl:t.length≤4294967296):Z39 (ub t)=some (Z09 (Vs rd0 (Gs t))):=by
 unfold Z39 Z1v Z4t
 simp only [Option.bind_some]
 rw [s_split _ t _ (by omega)]
 obtain ⟨ws',e⟩:=Zad (Vv t []) rd0 [] (fun w=>.inl rfl) (by have:=Z5u t [];show 0+_≤_;omega) (fun l h=>by have:=Z9e t [] l h;simp only [List.length_nil] at this;omega)
 have e2:=e
 show Option.bind (Nd _ (tupR rd0 []) (Vv t [])) _=_
 rw [e2,Option.bind_some]
 unfold Gs
 cases Vs rd0 (List.filterMap Kw (Vv t [])) with
 | none=>rfl
 | some r =>
  show (if Yr 0 [112] r.said=1 then _ else _)=some (Z09 (some r))
  rw [Za2]
  by_cases h1:Yr 0 [112] r.said=1
  ·
   rw [if_pos h1]
   by_cases h2:Yr 0 [115] r.said=1
   ·
    rw [if_pos h2]
    by_cases h3:Yr 0 [116] r.said=1
    ·
     rw [if_pos h3]
     by_cases h4:(r.n.Arcs.length:Int)=r.arcs
     ·rw [decide_eq_true h4,Z1i,if_pos ⟨h1,h2,h3,h4⟩];rfl
     ·rw [decide_eq_false h4,Nr,if_neg (fun h=>h4 h.2.2.2)];rfl
    ·rw [if_neg h3,Nr,if_neg (fun h=>h3 h.2.2.1)];rfl
   ·rw [if_neg h2,Nr,if_neg (fun h=>h2 h.2.1)];rfl
  ·rw [if_neg h1,Nr,if_neg (fun h=>h1 h.1)];rfl
def parF (x:Net×Bool):Net×Int:=if x.2=true then (if Kr x.1.N x.1.S x.1.T x.1.Arcs=0 then (x.1,0) else (Net.mk 0 0 0 [],Kr x.1.N x.1.S x.1.T x.1.Arcs)) else (Net.mk 0 0 0 [],70)
def parT (ws:List (List Str)):Net×Int:=parF (Z09 (Vs rd0 ws))
theorem Zc3:∀ (ws:List (List Str)) (r s:Rd),Vs r ws=some s→s.n.Arcs.length≤r.n.Arcs.length+ws.length
 | [],r,s,h=>by injection h with h;subst h;simp
 | w::ws,r,s,h=>by
  rw [Vs] at h
  cases hw:Vf r w with
  | none=>rw [hw] at h;cases h
  | some q =>
   rw [hw] at h
   have h1:=Zc3 ws q s h
   have h2:q.n.Arcs.length≤r.n.Arcs.length+1:=by
    unfold Vf pW nW aW at hw
    repeat' split at hw
    all_goals first
     | (cases hw;done)
     | (injection hw with hw;subst hw;simp)
   rw [List.length_cons];omega
theorem Zj2 (t:Str):(Gs t).length≤t.length+1:=Nat.le_trans (List.length_filterMap_le _ _) (Z5u t [])
theorem Zeo (t:Str)(hl:t.length≤100000000):Lg (ub t)=some (parT (Gs t)):=by
 unfold Lg parT parF
 rw [s_dread t (by omega),Option.bind_some]
 have hc:(Z09 (Vs rd0 (Gs t))).1.Arcs.length≤100000001:=by
  cases hf:Vs rd0 (Gs t) with
  | none=>simp [Z09]
  | some r =>
   have h1:=Zc3 _ _ _ hf
   have h2:=Zj2 t
   have h3:rd0.n.Arcs.length=0:=rfl
   rw [Za2]
   split
   ·show r.n.Arcs.length≤_;omega
   ·simp
 generalize Z09 (Vs rd0 (Gs t))=x at hc
 obtain ⟨n,ok⟩:=x
 cases ok with
 | false=>rfl
 | true =>
  simp only
  rw [Z97 n (by simp only at hc;unfold lenok;omega)]
  simp only [Option.bind_some,if_true,Bool.not_true,Bool.false_eq_true,if_false]
  by_cases h:Kr n.N n.S n.T n.Arcs=0
  ·rw [if_pos h,if_neg (by rw [h];decide)]
  ·rw [if_neg h,if_pos h]
end Go.Acq
namespace Go.Acq
open Go
abbrev jn (ws:List Str):Str:=Lib.join ws [32]
theorem Z7f (w:Str):jn [w]=w:=by simp [jn,Lib.join,List.intercalate]
theorem Z1s (w v:Str)(r:List Str):jn (w::v::r)=w++32::jn (v::r):=by
 unfold jn Lib.join
 simp [List.intercalate,List.intersperse]
structure wordOK (w:Str):Prop where
  ok:okW w
  ten:∀ b∈w,b≠10
  len:w.length≤21
theorem Zcf:∀ ws:List Str,ws≠[]→(∀ w∈ws,okW w)→Kl (jn ws)=ws
 | [],h,_=>absurd rfl h
 | [w],_,h=>by rw [Z7f];exact fld_end (h w (.head _))
 | w::v::r,_,h=>by
  rw [Z1s]
  unfold Kl
  rw [fld_more (h w (.head _)) blank32]
  have:=Zcf (v::r) (by simp) (fun x hx=>h x (.tail _ hx))
  unfold Kl at this
  rw [this]
theorem Z1n:∀ ws:List Str,(∀ w∈ws,wordOK w)→(∀ b∈jn ws,b≠10)∧(jn ws).length≤22*ws.length
 | [],_=>by simp [jn,Lib.join,List.intercalate]
 | [w],h=>by rw [Z7f];have:=(h w (.head _)).len;exact ⟨(h w (.head _)).ten,by simp only [List.length_singleton];omega⟩
 | w::v::r,h=>by
  obtain ⟨h1,h2⟩:=Z1n (v::r) (fun x hx=>h x (.tail _ hx))
  have h3:=(h w (.head _)).len
  rw [Z1s]
  refine ⟨fun b hb=>?_,?_⟩
  ·
   rcases List.mem_append.1 hb with hb | hb
   ·exact (h w (.head _)).ten b hb
   ·
    rcases List.mem_cons.1 hb with rfl | hb
    ·decide
    ·exact h1 b hb
  ·rw [List.length_append,List.length_cons,List.length_cons (a:=w)];omega
structure lineWs (ws:List Str):Prop where
  ne:ws≠[]
  all:∀ w∈ws,wordOK w
  few:ws.length≤4
  kind:(ws.getD 0 []).getD 0 0≠99
theorem lineWs.line {ws:List Str}(h:lineWs ws):Z3q (jn ws):=⟨(Z1n ws h.all).1,by have:=(Z1n ws h.all).2;have:=h.few;omega⟩
theorem Rp {n:Int}(h:i64ok n):wordOK (Xn n):=⟨(Z3d h).1.ok,(Z3d h).1.ten,(Z3d h).2⟩
theorem Lz {w:Str}(h:w≠[])(hl:w.length≤21)(hb:w.all (fun b=>decide (33≤b.toNat))=true):wordOK w:=by
 have hb:=List.all_eq_true.1 hb
 refine ⟨⟨h,fun b hm=>?_⟩,fun b hm e=>?_,hl⟩
 ·
  rw [Z3j]
  have:=of_decide_eq_true (hb b hm)
  exact decide_eq_false (by omega)
 ·
  subst e
  exact absurd (hb _ hm) (by decide)
def Ud (n:Net):List Str:=[[112],[109,97,120],Xn n.N,Xn (n.Arcs.length:Int)]
def Kg (n:Net):List Str:=[[110],Xn (n.S+1),[115]]
def Gr (n:Net):List Str:=[[110],Xn (n.T+1),[116]]
def Uq (a:Arc):List Str:=[[97],Xn (a.fr+1),Xn (a.to+1),Xn a.cap]
def Le (n:Net):List (List Str):=Ud n::Kg n::Gr n::n.Arcs.map Uq
def prtL (n:Net):List Str:=(Le n).map jn
def Nn (n:Net):Str:=Vb (prtL n)
structure NetP (n:Net):Prop where
  ck:Kr n.N n.S n.T n.Arcs=0
  caps:∀ a∈n.Arcs,0≤a.cap∧a.cap≤9223372036854775807
theorem NetP.small {n:Net}(h:NetP n):(0≤n.N∧n.N≤1000000)∧(0≤n.S∧n.S<n.N)∧(0≤n.T∧n.T<n.N)∧n.Arcs.length≤16384:=by
 have hz:=Z6o h.ck
 have h1:0≤n.S∧n.S<n.N:=of_decide_eq_true hz.2.2.1.1
 have h2:0≤n.T∧n.T<n.N:=of_decide_eq_true hz.2.2.1.2.1
 omega
theorem Zcd:∀ (al:List Arc) (left:Int),(Uz left al).isSome=true→∀ a∈al,0≤a.cap∧a.cap≤left
 | [],_,_,_,h=>by cases h
 | b::al,left,h,a,ha=>by
  unfold Uz at h
  split at h
  ·cases h
  ·
   rcases List.mem_cons.1 ha with rfl | ha
   ·omega
   ·have:=Zcd al _ h a ha;omega
theorem netP {n:Net}(h:Kr n.N n.S n.T n.Arcs=0):NetP n:=⟨h,fun a ha=>by
 have:=Zcd _ _ (Z6o h).2.2.2.2.2 a ha
 omega⟩
theorem NetP.ends {n:Net}(h:NetP n):∀ a∈n.Arcs,(0≤a.fr∧a.fr<n.N)∧(0≤a.to∧a.to<n.N):=by
 have hz:=Z6o h.ck
 obtain ⟨m,hm⟩:∃ m:Nat,n.N=m:=⟨n.N.toNat,by omega⟩
 have he:endsOK m n.Arcs:=Zg0 (by rw [←hm];exact hz.2.2.2.1)
 intro a ha
 obtain ⟨i,hi,rfl⟩:=List.mem_iff_getElem.1 ha
 have e:n.Arcs.getD i default=n.Arcs[i]:=by rw [List.getD_eq_getElem?_getD,List.getElem?_eq_getElem hi];rfl
 have h2:0≤(n.Arcs.getD i default).fr∧(n.Arcs.getD i default).fr<m:=by first | exact he i hi true | exact he i hi false
 have h3:0≤(n.Arcs.getD i default).to∧(n.Arcs.getD i default).to<m:=by first | exact he i hi false | exact he i hi true
 rw [e] at h2 h3
 exact ⟨by omega,by omega⟩
theorem aWs_ok {n:Net}(h:NetP n){a:Arc}(ha:a∈n.Arcs):lineWs (Uq a):=by
 obtain ⟨h1,h2⟩:=h.ends a ha
 have h3:=h.caps a ha
 have hs:=h.small
 refine ⟨by simp [Uq],fun w hw=>?_,by simp [Uq],by show (97:UInt8)≠99;decide⟩
 simp only [Uq,List.mem_cons,List.not_mem_nil,or_false] at hw
 rcases hw with rfl | rfl | rfl | rfl
 ·exact Lz (by simp) (by simp) (by decide)
 ·exact Rp ⟨by omega,by omega⟩
 ·exact Rp ⟨by omega,by omega⟩
 ·exact Rp ⟨by omega,by omega⟩
theorem Z2l {n:Net}(h:NetP n):∀ ws∈Le n,lineWs ws:=by
 have hs:=h.small
 intro ws hw
 simp only [Le,List.mem_cons] at hw
 rcases hw with rfl | rfl | rfl | hw
 ·
  refine ⟨by simp [Ud],fun w hw=>?_,by simp [Ud],by show (112:UInt8)≠99;decide⟩
  simp only [Ud,List.mem_cons,List.not_mem_nil,or_false] at hw
  rcases hw with rfl | rfl | rfl | rfl
  ·exact Lz (by simp) (by simp) (by decide)
  ·exact Lz (by simp) (by simp) (by decide)
  ·exact Rp ⟨by omega,by omega⟩
  ·exact Rp ⟨by omega,by omega⟩
 ·
  refine ⟨by simp [Kg],fun w hw=>?_,by simp [Kg],by show (110:UInt8)≠99;decide⟩
  simp only [Kg,List.mem_cons,List.not_mem_nil,or_false] at hw
  rcases hw with rfl | rfl | rfl
  ·exact Lz (by simp) (by simp) (by decide)
  ·exact Rp ⟨by omega,by omega⟩
  ·exact Lz (by simp) (by simp) (by decide)
 ·
  refine ⟨by simp [Gr],fun w hw=>?_,by simp [Gr],by show (110:UInt8)≠99;decide⟩
  simp only [Gr,List.mem_cons,List.not_mem_nil,or_false] at hw
  rcases hw with rfl | rfl | rfl
  ·exact Lz (by simp) (by simp) (by decide)
  ·exact Rp ⟨by omega,by omega⟩
  ·exact Lz (by simp) (by simp) (by decide)
 ·
  obtain ⟨a,ha,rfl⟩:=List.mem_map.1 hw
  exact aWs_ok h ha
theorem Zcl:∀ ls:List Str,(∀ l∈ls,Z3q l)→Gs (Vb ls)=ls.filterMap Kw
 | [],_=>rfl
 | x::r,h=>by
  have e:Vb (x::r)=x++10::Vb r:=by simp [Vb]
  rw [e,Zkr x _ (h x (.head _)).1,Zcl r (fun l hl=>h l (.tail _ hl)),List.filterMap_cons]
  cases Kw x <;> rfl
theorem line_map {W:List (List Str)}(h:∀ ws∈W,lineWs ws):∀ l∈W.map jn,Z3q l:=fun l hl=>by
 obtain ⟨w,hw,rfl⟩:=List.mem_map.1 hl
 exact (h w hw).line
theorem Z9t:∀ ls:List Str,(∀ l∈ls,Z3q l)→(Vb ls).length≤101*ls.length
 | [],_=>by simp [Vb]
 | x::r,h=>by
  have h1:=Z9t r (fun l hl=>h l (.tail _ hl))
  have h2:=(h x (.head _)).2
  unfold Vb at h1 ⊢
  rw [List.flatMap_cons,List.length_append,List.length_append,List.length_singleton,List.length_cons];omega
theorem prtL_len (n:Net):(prtL n).length=n.Arcs.length+3:=by simp [prtL,Le]
theorem Zex {n:Net}(h:NetP n):(Nn n).length≤101*(n.Arcs.length+3):=by
 have:=Z9t (prtL n) (line_map (Z2l h))
 rw [prtL_len] at this;exact this
theorem Z7a {v:Int}(h:i64ok (v+1)):Rc v=some (Xn (v+1)):=by
 unfold Rc Ko
 rw [Va h,Va h];rfl
theorem catN_app (a b:List Str):Vb (a++b)=Vb a++Vb b:=by unfold Vb;rw [List.flatMap_append]
theorem s_Print {n:Net}(h:NetP n):Ok (Z3v n) (fun r=>r=(ub (Nn n),0)):=by
 have hs:=h.small
 have hw:=Z2l h
 have hll:lenok n.Arcs.length:=by omega
 have hP:=(Z1n (Ud n) (hw (Ud n) (.head _)).all).2
 have hS:=(Z1n (Kg n) (hw (Kg n) (.tail _ (.head _))).all).2
 have hT:=(Z1n (Gr n) (hw (Gr n) (.tail _ (.tail _ (.head _)))).all).2
 have e4:(Ud n).length=4:=rfl
 have e3:(Kg n).length=3:=rfl
 have e3':(Gr n).length=3:=rfl
 unfold Z3v Ko
 refine Ok.bind.2 (Gm (Z97 n hll) ?_)
 rw [if_neg (by rw [h.ck];simp)]
 refine Ok.bind.2 (Ok.gd.2 ⟨⟨by omega,by omega⟩,Ok.some.2 ?_⟩)
 refine Ok.bind.2 (Ok.gd.2 ⟨⟨by omega,by omega⟩,Ok.some.2 ?_⟩)
 show Ok (gd ((Ud n).length≤_∧(([]:List Int)++ub (jn (Ud n)++[10])).length≤_) _) _
 refine Ok.gd.2 ⟨⟨by omega,by rw [List.nil_append,Gc,List.length_append,List.length_singleton];omega⟩,?_⟩
 refine Ok.bind.2 (Gm (Z7a ⟨by omega,by omega⟩) ?_)
 show Ok (gd ((Kg n).length≤_∧((([]:List Int)++ub (jn (Ud n)++[10]))++ub (jn (Kg n)++[10])).length≤_) _) _
 refine Ok.gd.2 ⟨⟨by omega,by rw [List.nil_append,List.length_append,Gc,Gc,List.length_append,List.length_append,List.length_singleton];omega⟩,?_⟩
 refine Ok.bind.2 (Gm (Z7a ⟨by omega,by omega⟩) ?_)
 show Ok (gd ((Gr n).length≤_∧(((([]:List Int)++ub (jn (Ud n)++[10]))++ub (jn (Kg n)++[10]))++ub (jn (Gr n)++[10])).length≤_) _) _
 refine Ok.gd.2 ⟨⟨by omega,by rw [List.nil_append,List.length_append,List.length_append,Gc,Gc,Gc,List.length_append,List.length_append,List.length_append,List.length_singleton];omega⟩,?_⟩
 have hb:(((([]:List Int)++ub (jn (Ud n)++[10]))++ub (jn (Kg n)++[10]))++ub (jn (Gr n)++[10]))++ub (Vb ((n.Arcs.map Uq).map jn))=ub (Nn n):=by
  rw [List.nil_append,←Z6z,←Z6z,←Z6z]
  unfold Nn prtL Le
  rw [List.map_cons,List.map_cons,List.map_cons]
  unfold Vb
  rw [List.flatMap_cons,List.flatMap_cons,List.flatMap_cons,List.append_assoc,List.append_assoc]
 have hpl:=Zex h
 refine Ok.bind.2 (Ok.lp (fun s=>∃ k:Nat,s.2=k∧k≤n.Arcs.length∧s.1++ub (Vb (((n.Arcs.drop k).map Uq).map jn))=ub (Nn n)) (fun s=>(n.Arcs.length-s.2).toNat) ⟨0,rfl,Nat.zero_le _,hb⟩ (by unfold Xf;simp only;omega) ?_)
 rintro ⟨buf,x⟩ ⟨k,h1,h2,h3⟩ P next exit
 simp only at h1 h3 next ⊢
 subst h1
 unfold Z3o
 refine Ok.ite.2 ⟨fun hx=>?_,fun hx=>?_⟩
 ·
  have hk2:k<n.Arcs.length:=by omega
  obtain ⟨a,ha⟩:∃ a,n.Arcs.getD k default=a:=⟨_,rfl⟩
  have ham:a∈n.Arcs:=by rw [←ha];exact Z4a hk2 default
  obtain ⟨g1,g2⟩:=h.ends a ham
  have g3:=h.caps a ham
  rw [Int.toNat_natCast,ha]
  have e1:n.Arcs.drop k=a::n.Arcs.drop (k+1):=by rw [List.drop_eq_getElem_cons hk2,←ha,List.getD_eq_getElem?_getD,List.getElem?_eq_getElem hk2];rfl
  have hlen:=congrArg List.length h3
  rw [List.length_append,Gc,Gc] at hlen
  rw [e1,List.map_cons,List.map_cons] at h3 hlen
  have e2:Vb (jn (Uq a)::((n.Arcs.drop (k+1)).map Uq).map jn)=(jn (Uq a)++[10])++Vb (((n.Arcs.drop (k+1)).map Uq).map jn):=by unfold Vb;rw [List.flatMap_cons]
  rw [e2,List.length_append,List.length_append,List.length_singleton] at hlen
  refine Ok.gd.2 ⟨(by (first | omega | (constructor <;> omega) | (simp only [List.length_set,List.length_replicate];omega) | (simp only [List.length_set,List.length_replicate];constructor <;> omega))),Ok.bind.2 (Gm (Z7a ⟨by omega,by omega⟩) (Ok.bind.2 (Gm (Z7a ⟨by omega,by omega⟩) (Ok.bind.2 (Ok.gd.2 ⟨⟨⟨by omega,by omega⟩,rfl⟩,Ok.some.2 ?_⟩)))))⟩
  show Ok (gd ((Uq a).length≤_∧(buf++ub (jn (Uq a)++[10])).length≤_) _) _
  refine Ok.gd.2 ⟨⟨by show 4≤_;omega,by rw [List.length_append,Gc,List.length_append,List.length_singleton];omega⟩,Ok.gd.2 ⟨⟨by omega,by omega⟩,Ok.some.2 (next _ ⟨k+1,rfl,by omega,?_⟩ (by simp only;omega))⟩⟩
  simp only
  rw [←h3,e2,Z6z (jn (Uq a)++[10]),List.append_assoc];rfl
 ·
  refine Ok.some.2 (exit _ ?_)
  obtain rfl:k=n.Arcs.length:=by omega
  unfold Z70
  rw [List.drop_eq_nil_of_le (Nat.le_refl _)] at h3
  refine Ok.some.2 ?_
  rw [←h3];simp [Vb,ub]
abbrev sd3:List (Str×Int):=[([112],1),([115],1),([116],1)]
theorem lineW_p {n:Net}(h:NetP n):Vf rd0 (Ud n)=some ⟨Net.mk n.N 0 0 [],[([112],1)],n.Arcs.length⟩:=by
 have hs:=h.small
 unfold Vf
 rw [if_pos (show (Ud n).getD 0 []=[112] from rfl)]
 unfold pW
 have e1:(Ud n).getD 2 []=Xn n.N:=rfl
 have e2:(Ud n).getD 3 []=Xn (n.Arcs.length:Int):=rfl
 rw [e1,e2,if_pos ⟨rfl,rfl,rfl,Z0s (by omega) (by omega) (by omega) (by omega),Z0s (by omega) (by omega) (by omega) (by omega)⟩,Ld (by omega) (by omega),Ld (by omega) (by omega)]
 rfl
theorem Zb5 {r:Rd}{w:List Str}(h1:w.getD 0 []=[110])(h2:Yr 0 [112] r.said=1):Vf r w=nW r w:=by
 unfold Vf
 rw [if_neg (by rw [h1];decide),if_pos h2,if_pos h1]
theorem lineW_aa {r:Rd}{w:List Str}(h1:w.getD 0 []=[97])(h2:Yr 0 [112] r.said=1):Vf r w=aW r w:=by
 unfold Vf
 rw [if_neg (by rw [h1];decide),if_pos h2,if_neg (by rw [h1];decide),if_pos h1]
theorem lineW_s {n:Net}(h:NetP n){k:Int}:Vf ⟨Net.mk n.N 0 0 [],[([112],1)],k⟩ (Kg n)=some ⟨Net.mk n.N n.S 0 [],[([112],1),([115],1)],k⟩:=by
 have hs:=h.small
 rw [Zb5 rfl rfl]
 unfold nW
 have e1:(Kg n).getD 1 []=Xn (n.S+1):=rfl
 have e2:(Kg n).getD 2 []=[115]:=rfl
 rw [e1,e2,if_pos ⟨rfl,Z0s (by omega) (by omega) (by omega) (by simp only;omega),rfl⟩,if_pos rfl,Ld (by omega) (by omega)]
 simp only [Int.add_sub_cancel]
 rfl
theorem lineW_a {N S T k:Int}{al:List Arc}{a:Arc}(h1:0≤a.fr∧a.fr<N)(h2:0≤a.to∧a.to<N)(h3:0≤a.cap∧a.cap≤9223372036854775807)(hN:N≤1000000) :
    Vf ⟨Net.mk N S T al,sd3,k⟩ (Uq a)=some ⟨Net.mk N S T (al++[a]),sd3,k⟩:=by
  rw [lineW_aa rfl rfl]
  unfold aW
  have e1:(Uq a).getD 1 []=Xn (a.fr+1):=rfl
  have e2:(Uq a).getD 2 []=Xn (a.to+1):=rfl
  have e3:(Uq a).getD 3 []=Xn a.cap:=rfl
  rw [e1,e2,e3,if_pos ⟨rfl,Z0s (by omega) (by omega) (by omega) (by simp only;omega),Z0s (by omega) (by omega) (by omega) (by simp only;omega),Z0s h3.1 h3.2 h3.1 h3.2⟩,Ld (by omega) (by omega),Ld (by omega) (by omega),Ld h3.1 h3.2]
  simp only [Int.add_sub_cancel]
theorem Zc4 {N S T k:Int}(hN:N≤1000000):∀ (al pre:List Arc),(∀ a∈al,((0≤a.fr∧a.fr<N)∧(0≤a.to∧a.to<N))∧0≤a.cap∧a.cap≤9223372036854775807) →
    Vs ⟨Net.mk N S T pre,sd3,k⟩ (al.map Uq)=some ⟨Net.mk N S T (pre++al),sd3,k⟩
  | [],pre,_=>by rw [List.append_nil];rfl
  | a::al,pre,h=>by
    obtain ⟨⟨h1,h2⟩,h3⟩:=h a (.head _)
    rw [List.map_cons,Vs,lineW_a h1 h2 h3 hN,Option.bind_some,Zc4 hN al _ (fun x hx=>h x (.tail _ hx)),List.append_assoc];rfl
theorem NetP.each {n:Net}(h:NetP n):∀ a∈n.Arcs,((0≤a.fr∧a.fr<n.N)∧(0≤a.to∧a.to<n.N))∧0≤a.cap∧a.cap≤9223372036854775807:=fun a ha=>⟨h.ends a ha,h.caps a ha⟩
end Go.Acq
namespace Go.Acq
open Go
structure lineV (ws:List Str):Prop where
  ne:ws≠[]
  ok:∀ w∈ws,okW w
  line:Z3q (jn ws)
  kind:(ws.getD 0 []).getD 0 0≠99
theorem lineWs.v {ws:List Str}(h:lineWs ws):lineV ws:=⟨h.ne,fun w hw=>(h.all w hw).ok,h.line,h.kind⟩
theorem lineV.said {ws:List Str}(h:lineV ws):Kw (jn ws)=some ws:=said_of (Zcf ws h.ne h.ok) h.ne h.kind
theorem Zf1:∀ W:List (List Str),(∀ ws∈W,lineV ws)→(W.map jn).filterMap Kw=W
 | [],_=>rfl
 | w::W,h=>by rw [List.map_cons,List.filterMap_cons,(h w (.head _)).said,Zf1 W (fun x hx=>h x (.tail _ hx))]
theorem saidV {W:List (List Str)}(h:∀ ws∈W,lineV ws):Gs (Vb (W.map jn))=W:=by
 rw [Zcl _ (fun l hl=>by
  obtain ⟨w,hw,rfl⟩:=List.mem_map.1 hl
  exact (h w hw).line),Zf1 W h]
theorem par_none {ws:List (List Str)}(h:Vs rd0 ws=none):parT ws=(Net.mk 0 0 0 [],70):=by unfold parT;rw [h];rfl
theorem Zlq {r:Rd}{w:List Str}(h1:w.getD 0 []≠[112])(h2:w.getD 0 []≠[110])(h3:w.getD 0 []≠[97]):Vf r w=none:=by
 unfold Vf
 rw [if_neg h1]
 by_cases hp:Yr 0 [112] r.said=1
 ·rw [if_pos hp,if_neg h2,if_neg h3]
 ·rw [if_neg hp]
def hiW (w:Str):Prop:=w≠[]∧∀ b∈w,33≤b.toNat∧b.toNat<128
theorem hiW.ok {w:Str}(h:hiW w):okW w:=⟨h.1,fun b hb=>by rw [Z3j];have:=h.2 b hb;exact decide_eq_false (by omega)⟩
theorem hi_lit {w:Str}(h:w≠[])(hb:w.all (fun b=>decide (33≤b.toNat∧b.toNat<128))=true):hiW w:=⟨h,fun b hm=>of_decide_eq_true (List.all_eq_true.1 hb b hm)⟩
theorem jn_hi:∀ ws:List Str,(∀ w∈ws,hiW w)→∀ b∈jn ws,32≤b.toNat∧b.toNat<128
 | [],_,b,hb=>by simp [jn,Lib.join,List.intercalate] at hb
 | [w],h,b,hb=>by rw [Z7f] at hb;have:=(h w (.head _)).2 b hb;omega
 | w::v::r,h,b,hb=>by
  rw [Z1s] at hb
  rcases List.mem_append.1 hb with hb | hb
  ·have:=(h w (.head _)).2 b hb;omega
  ·
   rcases List.mem_cons.1 hb with rfl | hb
   ·decide
   ·exact jn_hi (v::r) (fun x hx=>h x (.tail _ hx)) b hb
theorem lineV_hi {ws:List Str}(ne:ws≠[])(h:∀ w∈ws,hiW w)(hl:(jn ws).length≤100)(hk:(ws.getD 0 []).getD 0 0≠99):lineV ws :=
 ⟨ne,fun w hw=>(h w hw).ok,⟨fun b hb e=>by have:=jn_hi ws h b hb;subst e;exact absurd this.1 (by decide),hl⟩,hk⟩
end Go.Acq
namespace Go.Acq
open Go
set_option maxRecDepth 100000 in
theorem Zec:Z3x=some true:=by decide +kernel
def twN (t:Int):List Str:=[[110],Xn (t+1),[116]]
def Jk (n:Net)(t:Int):List (List Str):=Ud n::Kg n::twN t::n.Arcs.map Uq
def whatT:Str:=[119,104,97,116]
section
variable {n : Net} {t : Int}
theorem prtV_ok (h:NetP n)(ht:0≤t∧t<n.N):∀ ws∈Jk n t,lineV ws:=by
 have hs:=h.small
 intro ws hw
 simp only [Jk,List.mem_cons] at hw
 rcases hw with rfl | rfl | rfl | hw
 ·exact (Z2l h _ (by simp [Le])).v
 ·exact (Z2l h _ (by simp [Le])).v
 ·
  refine lineWs.v ⟨by simp [twN],fun w hw=>?_,by simp [twN],by show (110:UInt8)≠99;decide⟩
  simp only [twN,List.mem_cons,List.not_mem_nil,or_false] at hw
  rcases hw with rfl | rfl | rfl
  ·exact Lz (by simp) (by simp) (by decide)
  ·exact Rp ⟨by omega,by omega⟩
  ·exact Lz (by simp) (by simp) (by decide)
 ·exact (Z2l h _ (by simp only [Le,List.mem_cons];exact .inr (.inr (.inr hw)))).v
theorem what_ok:lineV [whatT]:=by
 refine lineV_hi (by simp) (fun w hw=>?_) (by decide) (by decide)
 obtain rfl:=List.mem_singleton.1 hw
 exact hi_lit (by decide) (by decide)
theorem Zb3 (h:NetP n)(ht:0≤t∧t<n.N):Vs rd0 (Jk n t)=some ⟨Net.mk n.N n.S t n.Arcs,sd3,n.Arcs.length⟩:=by
 have hs:=h.small
 have e3:Vf ⟨Net.mk n.N n.S 0 [],[([112],1),([115],1)],n.Arcs.length⟩ (twN t)=some ⟨Net.mk n.N n.S t [],sd3,n.Arcs.length⟩:=by
  rw [Zb5 rfl rfl]
  unfold nW
  have e1:(twN t).getD 1 []=Xn (t+1):=rfl
  have e2:(twN t).getD 2 []=[116]:=rfl
  rw [e1,e2,if_pos ⟨rfl,Z0s (by omega) (by omega) (by omega) (by simp only;omega),rfl⟩,if_neg (by decide),if_pos rfl,Ld (by omega) (by omega)]
  simp only [Int.add_sub_cancel]
  rfl
 unfold Jk
 rw [Vs,lineW_p h,Option.bind_some,Vs,lineW_s h,Option.bind_some,Vs,e3,Option.bind_some,Zc4 h.small.1.2 _ _ (fun a ha=>h.each a ha)];rfl
theorem par_same (h:NetP n):parT (Jk n n.S)=(Net.mk 0 0 0 [],12):=by
 have hs:=h.small
 have hz:=Z6o h.ck
 have hc:Kr n.N n.S n.S n.Arcs=12:=checkE_2 rfl ⟨fun _=>hz.1,fun _=>hz.2.1,fun h=>absurd h (by omega),fun h=>absurd h (by omega),fun h=>absurd h (by omega),fun h=>absurd h (by omega)⟩ (fun h=>h.2.2 rfl)
 unfold parT
 rw [Zb3 h hs.2.1,Za2,if_pos ⟨rfl,rfl,rfl,rfl⟩]
 unfold parF
 rw [if_pos rfl]
 show (if Kr n.N n.S n.S n.Arcs=0 then _ else _)=_
 rw [hc,if_neg (by decide)]
theorem par_what (h:NetP n)(ht:0≤t∧t<n.N):parT (Jk n t++[[whatT]])=(Net.mk 0 0 0 [],70) :=
 par_none (Zlk (Zb3 h ht) (Zlq (by decide) (by decide) (by decide)))
theorem Zf5 {W:List (List Str)}(h:∀ ws∈W,lineV ws):(Vb (W.map jn)).length≤101*W.length:=by
 have:=Z9t (W.map jn) (fun l hl=>by obtain ⟨ws,hw,rfl⟩:=List.mem_map.1 hl;exact (h ws hw).line)
 rwa [List.length_map] at this
theorem Zbp {b:UInt8}{s sub:Str}{k:Nat}(h:sub.isPrefixOf (b::s)=false)(hk:Lib.index s sub=k):Lib.index (b::s) sub=(k+1:Nat):=by
 unfold Lib.index
 rw [h,if_neg (by decide),hk]
 have:((k:Int)==-1)=false:=by rw [beq_eq_false_iff_ne];omega
 simp only [this]
 simp
theorem Z86 {c:UInt8}{tl R:Str}{k:Nat}(hk:Lib.index R (c::tl)=k):∀ P:Str,(∀ b∈P,b≠c)→Lib.index (P++R) (c::tl)=(P.length+k:Nat)
 | [],_=>by simpa using hk
 | b::P,h=>by
  have ih:=Z86 hk P (fun x hx=>h x (.tail _ hx))
  have hb:(c::tl).isPrefixOf (b::(P++R))=false:=by
   have:=h b (.head _)
   simp [List.isPrefixOf,beq_eq_false_iff_ne,Ne.symm this]
  rw [List.cons_append,Zbp hb ih,List.length_cons]
  congr 1;omega
theorem itoa1 {x:Int}(h:1≤x∧x≤7):Xn x=[UInt8.ofNat (48+x.toNat)]:=by
 rcases (show x=1∨x=2∨x=3∨x=4∨x=5∨x=6∨x=7 by omega) with rfl | rfl | rfl | rfl | rfl | rfl | rfl <;> decide
theorem dig_ne {x y:Int}(hx:1≤x∧x≤7)(hy:1≤y∧y≤7)(h:x≠y):UInt8.ofNat (48+x.toNat)≠UInt8.ofNat (48+y.toNat):=fun e=>h (by
 have:=Zgl (n:=x) (m:=y) (by omega) (by omega) (by omega) (by omega) (by rw [itoa1 hx,itoa1 hy,e])
 exact this)
theorem dig_lt {x:Int}(hx:1≤x∧x≤7):UInt8.ofNat (48+x.toNat)≠110:=by
 rcases (show x=1∨x=2∨x=3∨x=4∨x=5∨x=6∨x=7 by omega) with rfl | rfl | rfl | rfl | rfl | rfl | rfl <;> decide
theorem Zck {x:Int}(h0:0≤x)(h1:x≤9223372036854775807):∀ b∈Xn x,b≠110:=fun b hb e=>by
 have:=List.all_eq_true.1 (Zeu h0 h1).2.1 b hb
 subst e
 exact absurd this (by decide)
theorem cut_at (A B D C new:Str){i j:Nat}(hi:i=(A++B).length)(hj:j=i+D.length):((A++(B++(D++C))).take i++new)++(A++(B++(D++C))).drop j=A++(B++(new++C)):=by
 subst hj;subst hi
 have e:A++(B++(D++C))=(A++B)++(D++C):=by simp
 rw [e,List.take_left,←List.drop_drop,List.drop_left,List.drop_left]
 simp
theorem s_Again2 (h:NetP n)(h7:n.N≤7)(ht:n.T≠n.S) :
    Z3f (Nn n) ((([110,32]:Str)++Xn (n.T+1))++([32,116]:Str)) ((([110,32]:Str)++Xn (n.S+1))++([32,116]:Str)) 1=some (Vb ((Jk n n.S).map jn)):=by
  have hs:=h.small
  have hS:1≤n.S+1∧n.S+1≤7:=by omega
  have hT:1≤n.T+1∧n.T+1≤7:=by omega
  have hl:=Zex h
  obtain ⟨s',es⟩:∃ s',s'=UInt8.ofNat (48+(n.S+1).toNat):=⟨_,rfl⟩
  obtain ⟨t',et⟩:∃ t',t'=UInt8.ofNat (48+(n.T+1).toNat):=⟨_,rfl⟩
  have eS:Xn (n.S+1)=[s']:=by rw [itoa1 hS,es]
  have eT:Xn (n.T+1)=[t']:=by rw [itoa1 hT,et]
  have hne:s'≠t':=by rw [es,et];exact dig_ne hS hT (by omega)
  have hs0:s'≠110:=by rw [es];exact dig_lt hS
  rw [eS,eT]
  obtain ⟨C,hC⟩:∃ C,C=Vb ((n.Arcs.map Uq).map jn):=⟨_,rfl⟩
  have hP:Nn n=(jn (Ud n)++[10])++(110::([32,s',32,115,10]++([110,32,t',32,116]++(10::C)))):=by
    rw [hC]
    show Vb ((Le n).map jn)=_
    unfold Le
    simp only [List.map_cons,Vb,List.flatMap_cons]
    rw [show jn (Kg n)=[110,32,s',32,115] by unfold Kg;rw [eS];rfl,show jn (Gr n)=[110,32,t',32,116] by unfold Gr;rw [eT];rfl]
    simp
  have hQ:Vb ((Jk n n.S).map jn)=(jn (Ud n)++[10])++(110::([32,s',32,115,10]++([110,32,s',32,116]++(10::C)))):=by
    rw [hC]
    unfold Jk
    simp only [List.map_cons,Vb,List.flatMap_cons]
    rw [show jn (Kg n)=[110,32,s',32,115] by unfold Kg;rw [eS];rfl,show jn (twN n.S)=[110,32,s',32,116] by unfold twN;rw [eS];rfl]
    simp
  have hno:∀ b∈jn (Ud n)++[10],b≠110:=by
    intro b hb
    rcases List.mem_append.1 hb with hb | hb
    · unfold Ud at hb
      rw [Z1s,Z1s,Z1s,Z7f] at hb
      have h1:=Zck (x:=n.N) (by omega) (by omega)
      have h2:=Zck (x:=(n.Arcs.length:Int)) (by omega) (by omega)
      simp only [List.mem_append,List.mem_cons,List.not_mem_nil,or_false] at hb
      rcases hb with rfl | rfl | ((rfl | rfl | rfl) | rfl | (hb | rfl | hb)) <;> first | decide | exact h1 b hb | exact h2 b hb
    ·obtain rfl:=List.mem_singleton.1 hb;decide
  have i0:Lib.index ([110,32,t',32,116]++(10::C)) [110,32,t',32,116]=(0:Nat):=by
    refine Lib.index_first (i:=0) (Nat.zero_le _) ?_ (fun _ h=>absurd h (Nat.not_lt_zero _))
    simp [Lib.occAt,List.isPrefixOf]
  have i1:=Z86 i0 [32,s',32,115,10] (fun b hb=>by simp only [List.mem_cons,List.not_mem_nil,or_false] at hb;rcases hb with rfl | rfl | rfl | rfl | rfl <;> first | decide | exact hs0)
  have i2:=Zbp (b:=110) (by simp [List.isPrefixOf,beq_eq_false_iff_ne,Ne.symm hne]) i1
  have i3:=Z86 i2 _ hno
  rw [←hP] at i3
  have hcount:Lib.count (Nn n) [110,32,t',32,116]=1+Lib.count ((Nn n).drop ((jn (Ud n)++[10]).length+(5+0+1)+5)) [110,32,t',32,116]:=Lib.count_hit (by simp) i3
  have hcl:=Lib.count_le (Nn n) [110,32,t',32,116]
  unfold Z3f
  have eo:((([110,32]:Str)++[t'])++([32,116]:Str))=[110,32,t',32,116]:=rfl
  have en:((([110,32]:Str)++[s'])++([32,116]:Str))=[110,32,s',32,116]:=rfl
  rw [eo,en,Va ⟨by omega,by simp,by simp only [List.length_cons,List.length_nil];omega⟩]
  congr 1
  unfold Lib.replace
  rw [if_neg (by simp [Ne.symm hne])]
  have en:Lib.replaceNum (Nn n) [110,32,t',32,116] 1=1:=by
    unfold Lib.replaceNum
    rw [if_neg (by omega)];rfl
  rw [en,Lib.replaceK_hit _ _ 0 _ _ i3,Lib.replaceK,hQ,hP]
  exact cut_at (jn (Ud n)++[10]) (110::[32,s',32,115,10]) [110,32,t',32,116] (10::C) _ (by simp only [List.length_append,List.length_cons,List.length_nil]) rfl
end
theorem s_SChk2 (w l:Int):Z30 ⟨2,0,1,[]⟩ ⟨w,l,[]⟩=some (if w<1∨64<w then 40 else if l<1 then 2 else 0):=by
 unfold Z30 Z32
 rw [Z97 ⟨2,0,1,[]⟩ (by unfold lenok;simp)]
 have hc:Kr 2 0 1 []=0:=by decide
 by_cases h1:w<1
 ·simp [h1]
 ·
  by_cases h2:64<w
  ·simp [h1,h2]
  ·
   by_cases h3:l<1
   ·simp [h1,h2,h3]
   ·simp [h1,h2,h3,hc]
theorem s_PSolve {w l e:Int}{T:Str}(hp:¬(w<1∨64<w)→¬l<1→e≠0∧Lg (ub T)=some (Net.mk 0 0 0 [],e)) :
    Z22 (ub T) ⟨w,l,[]⟩=some ([],if w<1∨64<w then 40 else if l<1 then 2 else e):=by
  unfold Z22 Z7b
  rw [Option.bind_some,s_SChk2,Option.bind_some]
  by_cases h1:w<1∨64<w
  ·rw [if_pos h1,if_pos (by omega),if_pos h1]
  · rw [if_neg h1]
    by_cases h2:l<1
    ·rw [if_pos h2,if_pos (by omega),if_neg h1,if_pos h2]
    · obtain ⟨he, hq⟩ := hp h1 h2
      rw [if_neg h2,if_neg (by omega),hq,Option.bind_some]
      simp only
      rw [if_pos he,if_neg h1,if_neg h2]
theorem p_j8 {w l e want:Int}{T:Str}(hp:¬(w<1∨64<w)→¬l<1→e≠0∧Lg (ub T)=some (Net.mk 0 0 0 [],e))(hw:want=if w<1∨64<w then 40 else if l<1 then 2 else e) :
    Ru w l T want=some true:=by
  unfold Ru
  rw [s_PSolve hp,Option.bind_some]
  simp only
  rw [if_pos hw.symm,if_pos (by simp),Zec];rfl
theorem p_j6 {w l:Int}{line:Bool}{T:Str}(hp:¬(w<1∨64<w)→¬l<1→Lg (ub T)=some (Net.mk 0 0 0 [],if line=true then 70 else 12)) :
    Z1l w l line T=some true:=by
  have hq:¬(w<1∨64<w)→¬l<1→(if line=true then (70:Int) else 12)≠0∧Lg (ub T)=some (Net.mk 0 0 0 [],if line=true then 70 else 12):=fun a b=>⟨by split <;> decide,hp a b⟩
  have h8:=fun want h=>p_j8 (want:=want) hq h
  unfold Z1l Z38
  by_cases h1:w<1
  ·rw [if_pos h1,if_pos rfl];exact h8 _ (by rw [if_pos (.inl h1)])
  · rw [if_neg h1]
    by_cases h2:64<w
    ·rw [if_pos (decide_eq_true h2)];exact h8 _ (by rw [if_pos (.inr h2)])
    · rw [if_neg (by simpa using h2)]
      by_cases h3:l<1
      ·rw [if_pos h3];exact h8 _ (by rw [if_neg (by omega),if_pos h3])
      · rw [if_neg h3]
        cases line with
        | true=>rw [if_pos rfl];exact h8 _ (by rw [if_neg (by omega),if_neg h3,if_pos rfl])
        | false=>rw [if_neg (by decide)];exact h8 _ (by rw [if_neg (by omega),if_neg h3,if_neg (by decide)])
theorem p_j5 {n:Net}{t w l:Int}{line:Bool}(h:NetP n)(ha:n.Arcs.length≤14)(ht:0≤t∧t<n.N)(hb:line=true∨t=n.S∨(w<1∨64<w)∨l<1) :
    Z13 w l line (Vb ((Jk n t).map jn))=some true:=by
  have hv:=prtV_ok h ht
  have hl:=Zf5 hv
  have hlen:(Jk n t).length=n.Arcs.length+3:=by simp [Jk]
  unfold Z13
  cases line with
  | true =>
    rw [if_pos rfl,Va (by unfold slok;rw [List.length_append];simp only [List.length_cons,List.length_nil];omega)]
    refine p_j6 fun _ _=>?_
    have e:Vb ((Jk n t).map jn)++([119,104,97,116,10]:Str)=Vb ((Jk n t++[[whatT]]).map jn):=by
      rw [List.map_append,catN_app]
      congr 1
    have hv2:∀ ws∈Jk n t++[[whatT]],lineV ws:=fun ws hw=>by
      rcases List.mem_append.1 hw with hw | hw
      ·exact hv ws hw
      ·obtain rfl:=List.mem_singleton.1 hw;exact what_ok
    rw [e,Zeo _ (by have:=Zf5 hv2;rw [List.length_append] at this;simp only [List.length_cons,List.length_nil] at this;omega),saidV hv2,par_what h ht,if_pos rfl]
  | false =>
    rw [if_neg (by decide)]
    refine p_j6 fun h1 h2=>?_
    have et:t=n.S:=by
      rcases hb with hb | hb | hb | hb
      ·cases hb
      ·exact hb
      ·exact absurd hb h1
      ·exact absurd hb h2
    subst et
    rw [Zeo _ (by omega),saidV hv,par_same h,if_neg (by decide)]
theorem p_j4 {n:Net}{w l:Int}{line ends:Bool}(h:NetP n)(ha:n.Arcs.length≤14)(h7:n.N≤7)(hts:n.T≠n.S)(b:Bool)(hb:b=false→line=true∨ends=true∨(w<1∨64<w)∨l<1) :
    Ok (Z1e w l line ends n b) (fun r=>r=true):=by
  unfold Z1e
  refine Ok.ite.2 ⟨fun _=>?_,fun hf=>?_⟩
  ·rw [Zec];exact Ok.some.2 rfl
  have hs:=h.small
  refine Ok.bind.2 (Ok.mono (s_Print h) ?_)
  rintro _ rfl
  simp only
  rw [if_neg (by decide),bu_ub]
  have hb':=hb (by simpa using hf)
  refine Ok.ite.2 ⟨fun he=>?_,fun he=>?_⟩
  · have lT : (Xn (n.T + 1)).length ≤ 21 := (Z3d (n := n.T + 1) ⟨by omega, by omega⟩).2
    have lS:(Xn (n.S+1)).length≤21:=(Z3d (n:=n.S+1) ⟨by omega,by omega⟩).2
    have iT:Ko (n.T+1)=some (Xn (n.T+1)):=by unfold Ko;rw [Va ⟨by omega,by omega⟩]
    have iS:Ko (n.S+1)=some (Xn (n.S+1)):=by unfold Ko;rw [Va ⟨by omega,by omega⟩]
    refine Ok.gd.2 ⟨⟨by omega,by omega⟩,?_⟩
    rw [iT,Option.bind_some]
    refine Ok.gd.2 ⟨by unfold slok;simp only [List.length_append,List.length_cons,List.length_nil];omega,Ok.gd.2 ⟨by unfold slok;simp only [List.length_append,List.length_cons,List.length_nil];omega,Ok.gd.2 ⟨⟨by omega,by omega⟩,?_⟩⟩⟩
    rw [iS,Option.bind_some]
    refine Ok.gd.2 ⟨by unfold slok;simp only [List.length_append,List.length_cons,List.length_nil];omega,Ok.gd.2 ⟨by unfold slok;simp only [List.length_append,List.length_cons,List.length_nil];omega,?_⟩⟩
    rw [s_Again2 h h7 hts,Option.bind_some]
    exact Gm (p_j5 h ha hs.2.1 (.inr (.inl rfl))) rfl
  ·exact Gm (p_j5 (t:=n.T) h ha hs.2.2.1 (by
      rcases hb' with hb' | hb' | hb'
      ·exact .inl hb'
      ·exact absurd hb' he
      ·exact .inr (.inr hb'))) rfl
theorem p_PlayerFirst {workers limit:Int}{n:Net}{line ends:Bool}(hw:i64ok workers)(hl:i64ok limit)(hn:NetIn n):Z5g workers limit n line ends=some true:=by
 refine ok_eq ?_
 unfold Z5g
 refine Ok.bind.2 (Ok.mono (s_Some hn (by omega) (by omega) (by omega) (by omega)) fun r hr=>?_)
 have ha:=hr.arcs
 have hv:=hr.verts
 have he:=hr.ends
 have hp:=netP hr.check
 have h4:=fun b=>p_j4 (w:=workers) (l:=limit) (line:=line) (ends:=ends) hp (by omega) hv (fun e=>he.2.2.2.2.2 e.symm) b
 have h1:∀ b:Bool,(b=false→workers<1∨64<workers)→Ok (Z0x workers limit line ends r b) (fun b=>b=true):=by
  intro b hb
  unfold Z0x Z2i Z2b
  cases b with
  | false =>
   have:=hb rfl
   simp only [Bool.false_eq_true,if_false]
   exact h4 _ fun _=>.inr (.inr (.inl this))
  | true =>
   simp only [if_true]
   by_cases c1:1≤limit
   ·
    simp only [c1,decide_true,if_true]
    cases line with
    | true=>simp only [Bool.not_true,Bool.false_eq_true,if_false];exact h4 _ fun _=>.inl rfl
    | false =>
     simp only [Bool.not_false,if_true]
     cases ends with
     | true=>exact h4 _ fun _=>.inr (.inl rfl)
     | false=>exact h4 _ fun h=>by cases h
   ·
    simp only [c1,decide_false,Bool.false_eq_true,if_false]
    exact h4 _ fun _=>.inr (.inr (.inr (by omega)))
 refine Ok.ite.2 ⟨fun c=>h1 _ fun hd=>.inr (by have:=of_decide_eq_false hd;omega),fun c=>h1 _ fun _=>.inl (by omega)⟩
end Go.Acq
