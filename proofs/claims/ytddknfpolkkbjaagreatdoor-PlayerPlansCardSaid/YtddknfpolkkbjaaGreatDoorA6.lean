/- Texts of this claim, one behind the other. -/
import Derived.Test.YtddknfpolkkbjaaGreatDoorA4
import Derived.Test.YtddknfpolkkbjaaGreatDoorA5
import Derived.Test.YtddknfpolkkbjaaGreatDoorA1
import Derived.Test.YtddknfpolkkbjaaGreatDoorA2
import Derived.Lib.ParseIntBTie
set_option linter.unusedVariables false
set_option linter.unusedSimpArgs false
namespace Go.Proofs.YtddknfpolkkbjaaGreatDoor.Ax
open Go Go.Acq Go.RowKit Go.Proofs
set_option maxHeartbeats 8000000
set_option maxRecDepth 20000
theorem Z1z:Vs Tryz.prog 192 2=true:=by kernel_rfl
theorem Nu:Vs Tryz.prog 35 3=true:=by kernel_rfl
theorem Z4w:Tryz.prog.underlying 185=some (.array 2 69):=by kernel_rfl
theorem TWQPL.b5:Vb Tryz.prog 5=some 1:=by kernel_rfl
theorem Zb9:Yb Tryz.prog 101=true:=by kernel_rfl
theorem Za3:Yb Tryz.prog 102=true:=by kernel_rfl
theorem Zjk:Yb Tryz.prog 109=true:=by kernel_rfl
theorem Zae:Yb Tryz.prog 11=true:=by kernel_rfl
theorem Zjh:Yb Tryz.prog 110=true:=by kernel_rfl
theorem Zif:Yb Tryz.prog 111=true:=by kernel_rfl
theorem Zeb:Yb Tryz.prog 112=true:=by kernel_rfl
theorem Zgr:Yb Tryz.prog 113=true:=by kernel_rfl
theorem Zip:Yb Tryz.prog 13=true:=by kernel_rfl
theorem Zi6:Yb Tryz.prog 14=true:=by kernel_rfl
theorem Zhf:Yb Tryz.prog 19=true:=by kernel_rfl
theorem Nc:Yb Tryz.prog 20=true:=by kernel_rfl
theorem Zc3:Yb Tryz.prog 29=true:=by kernel_rfl
theorem Zag:Yb Tryz.prog 31=true:=by kernel_rfl
theorem Zgu:Yb Tryz.prog 32=true:=by kernel_rfl
theorem Zid:Yb Tryz.prog 38=true:=by kernel_rfl
theorem Zf5:Yb Tryz.prog 46=true:=by kernel_rfl
theorem Zf3:Yb Tryz.prog 47=true:=by kernel_rfl
theorem Zj4:Yb Tryz.prog 48=true:=by kernel_rfl
theorem Ziy:Yb Tryz.prog 49=true:=by kernel_rfl
theorem Zej:Yb Tryz.prog 50=true:=by kernel_rfl
theorem Zga:Yb Tryz.prog 57=true:=by kernel_rfl
theorem Zfx:Yb Tryz.prog 58=true:=by kernel_rfl
theorem Zaa:Yb Tryz.prog 65=true:=by kernel_rfl
theorem Z0h:Yb Tryz.prog 8=true:=by kernel_rfl
theorem Zfa:Wh Tryz.prog 104 0=some 0:=by kernel_rfl
theorem Zeg:Wh Tryz.prog 104 1=some 1:=by kernel_rfl
theorem Ku:Wh Tryz.prog 132 0=some 0:=by kernel_rfl
theorem Rb:Wh Tryz.prog 132 1=some 4:=by kernel_rfl
theorem Rz:Wh Tryz.prog 132 2=some 5:=by kernel_rfl
theorem Z0k:Wh Tryz.prog 132 3=some 6:=by kernel_rfl
theorem Z24:Wh Tryz.prog 192 0=some 0:=by kernel_rfl
theorem Z2d:Wh Tryz.prog 192 1=some 1:=by kernel_rfl
theorem Ko:Wh Tryz.prog 35 0=some 0:=by kernel_rfl
theorem Nn:Wh Tryz.prog 35 1=some 1:=by kernel_rfl
theorem Z05:Wh Tryz.prog 35 2=some 2:=by kernel_rfl
theorem Rw:Yk Tryz.prog 193=some 192:=by kernel_rfl
theorem Zeh:Yh Tryz.prog 104=some 3:=by kernel_rfl
theorem Zgc:Yh Tryz.prog 106=some 6:=by kernel_rfl
theorem Gi:Yh Tryz.prog 192=some 2:=by kernel_rfl
theorem Jr:Yh Tryz.prog 35=some 3:=by kernel_rfl
theorem Z4g:Yh Tryz.prog 69=some 3:=by kernel_rfl
theorem Z28:Xi Tryz.prog 48=true:=by kernel_rfl
theorem Zfy:Yz Tryz.prog 104=some (.agg #[.slice none 0 0,.slice none 0 0,iV 0]):=by kernel_rfl
theorem Zhr:Yz Tryz.prog 106=some (.agg #[iV 0,iV 0,iV 0,iV 0,iV 0,iV 0]):=by kernel_rfl
theorem Zey:Yz Tryz.prog 185=some (.agg #[.slice none 0 0,iV 0,.int .i8 0,.slice none 0 0,iV 0,.int .i8 0]):=by kernel_rfl
theorem Z0b:Yz Tryz.prog 192=some (.agg #[.nilFunc,iV 0]):=by kernel_rfl
theorem Gs:Yz Tryz.prog 35=some (.agg #[iV 0,iV 0,.slice none 0 0]):=by kernel_rfl
theorem Zgj:ElemT Tryz.prog 27 5 1 1 (.int .u8 0):=⟨Xw,Kp,TWQPL.b5,TWQSY.z5,rfl⟩
theorem Zjp {a0:CheckAnswer}{d2 a3 a6 a8 b8 d1 a9 c7 b6:Nat}{a5 a7 b7 c4:Option Addr}(w:World)(a4:RS w [] Zx 3 a5 a3 a6 a0.Net.Arcs)(d0:RS w [] iC 1 a7 a8 b8 a0.f)(d3:RS w [] boolC 1 b7 d1 a9 a0.s)(d4:RS w [] iC 1 c4 c7 b6 a0.out)(a2:HB w [] d2 [iV a0.Net.N,iV a0.Net.S,iV a0.Net.T,.slice a5 a3 a6,.slice a7 a8 b8,.slice b7 d1 a9,.slice c4 c7 b6]){r0:Bool}(H:Z7f a0=some r0):Fnc Tryz.prog 109 #[pV d2] w [] (fun v N=>v=.bool r0∧N=[]):=by
 unfold Z7f at H;refine Fnc.enter (vs:=[pV d2]) Tryz.func109 rfl rfl (Inv.refl w) ?_;refine sR Y1 rfl ?_;refine aN Za ?_;refine Zh ?_;rcases Zp H with ⟨g1,H⟩ | ⟨g1,H⟩
 ·refine Wz 23 [0,1,2,3,4,5,6,7,8,9,10,11,12,13,14,15,16,17,18,19,20,21,22] rfl Xx (by kernel_rfl) (by kernel_rfl) rfl (by kernel_rfl) ?_;refine TQ.move Za ?_;refine TQ.nilCheck Za ?_;refine Yo Za Rb ?_;refine Ue a2 Zb Vy ?_;refine Lz (xs:=a0.f) d0.len Zb Wf ?_;refine TQ.move Za ?_;refine TQ.nilCheck Za ?_;refine Yo Za Ku ?_;refine Yo Za Vm ?_;refine Ue a2 Zb Vt ?_;refine Lz (xs:=a0.Net.Arcs) a4.len Zb Wo ?_;refine Uv Zl ?_;refine TQ.move Za ?_;refine Vz (t:=15) (b':=true) rfl (decide_eq_true g1) ?_;refine TQ.move Za ?_;refine TQ.nilCheck Za ?_;refine Yo Za Rz ?_;refine Ue a2 Zb Jl ?_;refine Lz (xs:=a0.s) d3.len Zb Jg ?_;refine TQ.move Za ?_;refine TQ.nilCheck Za ?_;refine Yo Za Ku ?_;refine Yo Za Ut ?_;refine Ue a2 Zb Yf ?_;refine TQ.tail [23,24,25] Ys ?_;refine Zq Zl ?_;refine Ye Zb ?_;refine aN Za ?_;refine Zm (aT [2] rfl) ?_;refine T.ret ?_;obtain rfl:=ret1 H;exact Yd Za (Res.tmp rfl) Zg ⟨rfl,rfl⟩
 ·refine Wz 23 [0,1,2,3,4,5,6,7,8,9,10,11,12,13,14,15,16,17,18,19,20,21,22] rfl Xx (by kernel_rfl) (by kernel_rfl) rfl (by kernel_rfl) ?_;refine TQ.move Za ?_;refine TQ.nilCheck Za ?_;refine Yo Za Rb ?_;refine Ue a2 Zb Vy ?_;refine Lz (xs:=a0.f) d0.len Zb Wf ?_;refine TQ.move Za ?_;refine TQ.nilCheck Za ?_;refine Yo Za Ku ?_;refine Yo Za Vm ?_;refine Ue a2 Zb Vt ?_;refine Lz (xs:=a0.Net.Arcs) a4.len Zb Wo ?_;refine Uv Zl ?_;refine TQ.move Za ?_;refine Vz (t:=15) (b':=false) rfl (decide_eq_false g1) ?_;refine Yi Za ?_;refine Yi Za ?_;refine Yi Za ?_;refine Yi Za ?_;refine Yi Za ?_;refine Yi Za ?_;refine Yi Za ?_;refine Yi Za ?_;refine Yi Za ?_;refine Yi Za ?_;refine TQ.tail [23,24,25] Ys ?_;refine Zf Za ?_;refine Yg Zb ?_;refine aN Za ?_;refine Zm (aT [2] rfl) ?_;refine T.ret ?_;obtain rfl:=ret1 H;exact Yd Za (Res.tmp rfl) Zg ⟨rfl,rfl⟩
theorem Zgd {a0:CheckAnswer}{d2 a3 a6 a9 c4 d1 b6 d0 b7:Nat}{a5 a8 b8 c7:Option Addr}(w:World)(a4:RS w [] Zx 3 a5 a3 a6 a0.Net.Arcs)(a2:RS w [] iC 1 a8 a9 c4 a0.f)(d7:RS w [] boolC 1 b8 d1 b6 a0.s)(d8:RS w [] iC 1 c7 d0 b7 a0.out)(a7:HB w [] d2 [iV a0.Net.N,iV a0.Net.S,iV a0.Net.T,.slice a5 a3 a6,.slice a8 a9 c4,.slice b8 d1 b6,.slice c7 d0 b7]){r0:Bool}(H:Z6n a0=some r0):Fnc Tryz.prog 110 #[pV d2] w [] (fun v N=>v=.bool r0∧N=[]):=by
 unfold Z6n at H;refine Fnc.enter (vs:=[pV d2]) Tryz.func110 rfl rfl (Inv.refl w) ?_;refine sR Y1 rfl ?_;refine aN Za ?_;refine Zh ?_;refine sR Y7 rfl ?_;refine Zc Za ?_;refine TO.nilCheck Za ?_;refine Zs Za Ku ?_;refine Zs Za Vm ?_;refine Vn a7 Zb Vt ?_;refine Ym (xs:=a0.Net.Arcs) a4.len Zb Wo ?_;refine Zc Za ?_;refine dN ?_;refine Wi (fun (d5:Unit)=>Z67=some r0) (fun (d5:Unit)=>[]) (fun (d5:Unit)=>[]) ?_ ?_
 ·
  refine T.block ?_;obtain ⟨d9,e1,d6⟩:=Zn H;refine Z0w (fun (d3:Nat) (x1:Int)=>Xa (fun s=>Z2q a0 s) d3 x1=some d9) (fun (d3:Nat) (x1:Int)=>[(0,pV d2),(9,.slice a5 a3 a6),(10,iV (a0.Net.Arcs.length:Int)),(11,iV x1)]) (fun (d3:Nat) (x1:Int)=>[]) (fun (d3:Nat) (x1:Int)=>d3) Xd 0 e1 (aF rfl) Zg ?_;rintro d3 x1 H;obtain ⟨e2,e3,rfl,H,d4⟩:=Vo H;have H:Z2q a0 x1=some e3:=H;unfold Z2q at H;refine sR Y1 rfl ?_;refine Zq Zl ?_;refine dS ?_;rcases Zp H with ⟨g2,H⟩ | ⟨g2,H⟩
  ·
   refine Yw rfl g2 ?_;refine T.skip ?_;refine Zz ?_;refine Zh ?_;refine T.block ?_;obtain ⟨g3,H⟩:=Ya H;refine sR Y6 rfl ?_;refine Zc Za ?_;refine Xr a4 g3 Zb Wo Vl ?_;refine Gu (cs:=[iV ((a0.Net.Arcs.getD x1.toNat default).fr),iV ((a0.Net.Arcs.getD x1.toNat default).to),iV ((a0.Net.Arcs.getD x1.toNat default).cap)]) default a4 g3 Zb Je ?_;refine Xs Zj Gv ?_;intro b4;refine Yc Za ?_;refine Xo Za Ze Vl Zj ?_;refine dN ?_;refine Zh ?_;obtain ⟨g6,H⟩:=Ya H;rcases Zp H with ⟨g7,H⟩ | ⟨g7,H⟩
   ·refine Wz 18 [0,1,2,3,4,5,6,7,8,9,10,11,12,13,14,15,16,17] rfl Xx (by kernel_rfl) (by kernel_rfl) rfl (by kernel_rfl) ?_;refine TQ.move Za ?_;refine TQ.nilCheck Za ?_;refine Yo Za Rb ?_;refine Ue a7 Zb Vy ?_;refine TQ.move Za ?_;refine Ka a2 g6 Zb Wf We ?_;refine Gt a2 g6 Za Wp ?_;refine Uv Zl ?_;refine TQ.move Za ?_;refine Vz (t:=24) (b':=true) rfl (decide_eq_true g7) ?_;refine Yi Za ?_;refine Yi Za ?_;refine Yi Za ?_;refine Yi Za ?_;refine Yi Za ?_;refine Yi Za ?_;refine Yi Za ?_;refine Yi Za ?_;refine Yi Za ?_;refine TQ.tail [18,19] Ys ?_;refine Zf Za ?_;refine Ye Zb ?_;refine dN ?_;refine Zm (aT [0,9,10,11,25,26,27,28,29,30,31,32,33,34,35] rfl) ?_;refine Yr rfl rfl ?_;refine sR Y1 rfl ?_;refine aN Za ?_;refine Zm (aT [2] rfl) ?_;refine T.ret ?_;refine Yy ?_;refine Zy ?_;have H:=Wd H d4▸d6;refine Zy ?_;refine Yy ?_;refine Zy ?_;obtain rfl:=ret1 H;exact Yd Za (Res.tmp rfl) Zg ⟨rfl,rfl⟩
   ·
    obtain ⟨g8,H⟩:=Ya H;refine Wz 18 [0,1,2,3,4,5,6,7,8,9,10,11,12,13,14,15,16,17] rfl Xx (by kernel_rfl) (by kernel_rfl) rfl (by kernel_rfl) ?_;refine TQ.move Za ?_;refine TQ.nilCheck Za ?_;refine Yo Za Rb ?_;refine Ue a7 Zb Vy ?_;refine TQ.move Za ?_;refine Ka a2 g6 Zb Wf We ?_;refine Gt a2 g6 Za Wp ?_;refine Uv Zl ?_;refine TQ.move Za ?_;refine Vz (t:=24) (b':=false) rfl (decide_eq_false g7) ?_;refine TQ.move Za ?_;refine TQ.nilCheck Za ?_;refine Yo Za Rb ?_;refine Ue a7 Zb Vy ?_;refine TQ.move Za ?_;refine Ka a2 g8 Zb Wf We ?_;refine Gt a2 g8 Za Wp ?_;refine Yo Za Nw ?_;refine Yx Za Wp Zi rfl ?_;refine TQ.tail [18,19] Ys ?_;refine Zq Zl ?_;refine Yg Zb ?_;refine dN ?_;refine Zm (aT [0,9,10,11,25,26,27,28,29,30,31,32,33,34,35] rfl) ?_;rcases Zp H with ⟨g9,H⟩ | ⟨g9,H⟩
    ·refine Yw rfl g9 ?_;refine sR Y1 rfl ?_;refine aN Za ?_;refine Zm (aT [2] rfl) ?_;refine T.ret ?_;refine Yy ?_;refine Zy ?_;have H:=Wd H d4▸d6;refine Zy ?_;refine Yy ?_;refine Zy ?_;obtain rfl:=ret1 H;exact Yd Za (Res.tmp rfl) Zg ⟨rfl,rfl⟩
    ·refine Yu rfl g9 ?_;refine T.skip ?_;refine Yv ?_;refine Zz ?_;obtain ⟨e4,H⟩:=Ya H;refine rG Y2 rfl ?_;refine Xy e4 Zb ?_;refine Zc Za ?_;refine Zk ?_;have H:=Wr H d4;exact Lw e2 (x1+1) H (Nat.lt_succ_self _) (aF rfl) Zg
  ·refine Yu rfl g2 ?_;refine T.exit ?_;refine Xc ?_;have H:=Wd H d4▸d6;refine Xc ?_;refine Ve ?_;exact Xe () H Js Zg
 ·rintro d5 H;unfold Z67 at H;refine sR Y1 rfl ?_;refine aN Za ?_;refine T.ret ?_;obtain rfl:=ret1 H;exact Yd Za (Res.tmp rfl) Zg ⟨rfl,rfl⟩
theorem Zfu {a0:CheckAnswer}{b7 a2 a4 a6 a9 b6 a7 c7 b8:Nat}{a3 a5 a8 c4:Option Addr}(w:World)(hin:Inv w (([(eC b7 #[iV a0.Net.N,iV a0.Net.S,iV a0.Net.T,.slice a3 a2 a4,.slice a5 a6 a9,.slice a8 b6 a7,.slice c4 c7 b8] 132)]:Heap).filterMap Prod.fst) w [(eC b7 #[iV a0.Net.N,iV a0.Net.S,iV a0.Net.T,.slice a3 a2 a4,.slice a5 a6 a9,.slice a8 b6 a7,.slice c4 c7 b8] 132)])(d1:RS w (([(eC b7 #[iV a0.Net.N,iV a0.Net.S,iV a0.Net.T,.slice a3 a2 a4,.slice a5 a6 a9,.slice a8 b6 a7,.slice c4 c7 b8] 132)]:Heap).filterMap Prod.fst) Zx 3 a3 a2 a4 a0.Net.Arcs)(d2:RS w (([(eC b7 #[iV a0.Net.N,iV a0.Net.S,iV a0.Net.T,.slice a3 a2 a4,.slice a5 a6 a9,.slice a8 b6 a7,.slice c4 c7 b8] 132)]:Heap).filterMap Prod.fst) iC 1 a5 a6 a9 a0.f)(e9:RS w (([(eC b7 #[iV a0.Net.N,iV a0.Net.S,iV a0.Net.T,.slice a3 a2 a4,.slice a5 a6 a9,.slice a8 b6 a7,.slice c4 c7 b8] 132)]:Heap).filterMap Prod.fst) boolC 1 a8 b6 a7 a0.s)(f0:RS w (([(eC b7 #[iV a0.Net.N,iV a0.Net.S,iV a0.Net.T,.slice a3 a2 a4,.slice a5 a6 a9,.slice a8 b6 a7,.slice c4 c7 b8] 132)]:Heap).filterMap Prod.fst) iC 1 c4 c7 b8 a0.out){r0:Bool}{o0:CheckAnswer}(H:Z6q a0=some (r0,o0)):Fnc Tryz.prog 111 #[pV b7] w (([(eC b7 #[iV a0.Net.N,iV a0.Net.S,iV a0.Net.T,.slice a3 a2 a4,.slice a5 a6 a9,.slice a8 b6 a7,.slice c4 c7 b8] 132)]:Heap).filterMap Prod.fst) (fun v N=>∃ (d6:Option Nat) (e2 e3:Nat) (f2:List Value),v=.bool r0∧N=[(eC b7 #[iV a0.Net.N,iV a0.Net.S,iV a0.Net.T,.slice a3 a2 a4,.slice a5 a6 a9,.slice a8 b6 a7,sV d6 e2 e3] 132),(eI d6 o0.out f2 2)]∧o0.out.length=e2∧e2≤e3∧f2.length=(e3-e2)*1∧(d6=none→e3=0)):=by
 unfold Z6q at H;refine Fnc.enter (vs:=[pV b7]) Tryz.func111 rfl rfl hin ?_;refine sR Y1 rfl ?_;refine aN Za ?_;obtain ⟨g2,H⟩:=Ya H;refine sR Y10 rfl ?_;refine Zc Za ?_;refine Zc Za ?_;refine TO.nilCheck Za ?_;refine Zs Za Ku ?_;refine Zs Za Ut ?_;refine Zt Za Yf Zi rfl ?_;refine Z1g g2 Zb Wf We Z27 Z6g rfl ?_;intro b3;refine TO.nilCheck Za ?_;refine Zs Za Z0k ?_;refine Xu (cs':=[iV a0.Net.N,iV a0.Net.S,iV a0.Net.T,.slice a3 a2 a4,.slice a5 a6 a9,.slice a8 b6 a7,nV b3 a0.Net.N.toNat a0.Net.N.toNat]) Za Zo Lt Zj ?_;refine dN ?_;refine Zm (aT [0] rfl) ?_;refine Zh ?_;refine sR Y7 rfl ?_;refine Zc Za ?_;refine TO.nilCheck Za ?_;refine Zs Za Ku ?_;refine Zs Za Vm ?_;refine Zt Za Vt Zi rfl ?_;refine Ym (xs:=a0.Net.Arcs) d1.len Zb Wo ?_;refine Zc Za ?_;refine dN ?_;refine Wi (fun (d0:List Int)=>Z6p a0 d0=some (r0,o0)∧d0.length=a0.Net.N.toNat) (fun (d0:List Int)=>[(0,pV b7)]) (fun (d0:List Int)=>[(eC b7 #[iV a0.Net.N,iV a0.Net.S,iV a0.Net.T,.slice a3 a2 a4,.slice a5 a6 a9,.slice a8 b6 a7,nV b3 a0.Net.N.toNat a0.Net.N.toNat] 132),(eI (some b3) d0 ([]) 2)]) ?_ ?_
 ·
  refine T.block ?_;obtain ⟨g3,g4,g5⟩:=Zn H;refine Ld (fun (d7:Nat) (d3:List Int) (x7:Int)=>Xa (fun s=>Z3a a0 s.1 s.2) d7 (d3,x7)=some g3∧d3.length=a0.Net.N.toNat) (fun (d7:Nat) (d3:List Int) (x7:Int)=>[(0,pV b7),(20,.slice a3 a2 a4),(21,iV (a0.Net.Arcs.length:Int)),(22,iV x7)]) (fun (d7:Nat) (d3:List Int) (x7:Int)=>[(eC b7 #[iV a0.Net.N,iV a0.Net.S,iV a0.Net.T,.slice a3 a2 a4,.slice a5 a6 a9,.slice a8 b6 a7,nV b3 a0.Net.N.toNat a0.Net.N.toNat] 132),(eI (some b3) d3 ([]) 2)]) (fun (d7:Nat) (d3:List Int) (x7:Int)=>d7) Xd (List.replicate a0.Net.N.toNat (0:Int)) 0 ⟨g4,List.length_replicate⟩ (aF rfl) (Zd Ze (Zd Ze Zg)) ?_;rintro d7 d3 x7 ⟨H,d8⟩;obtain ⟨g6,g7,rfl,H,f3⟩:=Vo H;have H:Z3a a0 d3 x7=some g7:=H;unfold Z3a at H;refine sR Y1 rfl ?_;refine Zq Zl ?_;refine dS ?_;rcases Zp H with ⟨g8,H⟩ | ⟨g8,H⟩
  ·refine Yw rfl g8 ?_;refine T.skip ?_;refine Zz ?_;refine Zh ?_;refine T.block ?_;obtain ⟨g9,H⟩:=Ya H;refine sR Y6 rfl ?_;refine Zc Za ?_;refine Xr d1 g9 Zb Wo Vl ?_;refine Gu (cs:=[iV ((a0.Net.Arcs.getD x7.toNat default).fr),iV ((a0.Net.Arcs.getD x7.toNat default).to),iV ((a0.Net.Arcs.getD x7.toNat default).cap)]) default d1 g9 Zb Je ?_;refine Xs Zj Gv ?_;intro h9;refine Yc Za ?_;refine Xo Za Ze Vl Zj ?_;refine dN ?_;refine Zh ?_;obtain ⟨f4,f5,h0,f6,H⟩:=gd4 H;refine Wz 15 [0,1,2,3,4,5,6,7,8,9,10,11,12,13,14] rfl Xx (by kernel_rfl) (by kernel_rfl) rfl (by kernel_rfl) ?_;refine TQ.move Za ?_;refine TQ.nilCheck Za ?_;refine Yo Za Z0k ?_;refine Yx Za Vy Yl rfl ?_;refine Yo Za Gh ?_;refine Yx Za Yf Zi rfl ?_;refine Z0c d8 f4 Zb Wf We ?_;refine Z0o f4 Za Wp Xn ?_;refine TQ.move Za ?_;refine TQ.nilCheck Za ?_;refine Yo Za Rb ?_;refine Yx Za Vy Yl rfl ?_;refine TQ.move Za ?_;refine Ka d2 f5 Zb Wf We ?_;refine Gt d2 f5 Za Wp ?_;refine TQ.tail [15,16,17] Ys ?_;refine Xy h0 Zb ?_;refine Kv d8 f6 Zb Wf We ?_;refine Rq f6 Za Yt We ?_;refine dN ?_;refine Zm (aT [0,20,21,22,4,3] rfl) ?_;obtain ⟨f7,f8,h1,f9,H⟩:=gd4 H;refine Wz 15 [0,1,2,3,4,5,6,7,8,9,10,11,12,13,14] rfl Xx (by kernel_rfl) (by kernel_rfl) rfl (by kernel_rfl) ?_;refine TQ.move Za ?_;refine TQ.nilCheck Za ?_;refine Yo Za Z0k ?_;refine Yx Za Vy Xn rfl ?_;refine Yo Za Lh ?_;refine Yx Za Yf Yl rfl ?_;refine Z0c (List.length_set.trans d8) f7 Zb Wf We ?_;refine Z0o f7 Za Wp Zi ?_;refine TQ.move Za ?_;refine TQ.nilCheck Za ?_;refine Yo Za Rb ?_;refine Yx Za Vy Xn rfl ?_;refine TQ.move Za ?_;refine Ka d2 f8 Zb Wf We ?_;refine Gt d2 f8 Za Wp ?_;refine TQ.tail [15,16,17] Ys ?_;refine Nd h1 Zb ?_;refine Kv (List.length_set.trans d8) f9 Zb Wf We ?_;refine Rq f9 Za Ze We ?_;refine Zk ?_;refine Yv ?_;refine Zz ?_;refine Zm (aT [0,20,21,22] rfl) ?_;obtain ⟨h2,H⟩:=Ya H;refine rG Y2 rfl ?_;refine Xy h2 Zb ?_;refine Zc Za ?_;refine Zk ?_;have H:=Wr H f3;exact Gj g6 ((d3.set ((a0.Net.Arcs.getD x7.toNat default).fr).toNat ((d3.getD ((a0.Net.Arcs.getD x7.toNat default).fr).toNat 0)+(a0.f.getD x7.toNat 0))).set ((a0.Net.Arcs.getD x7.toNat default).to).toNat (((d3.set ((a0.Net.Arcs.getD x7.toNat default).fr).toNat ((d3.getD ((a0.Net.Arcs.getD x7.toNat default).fr).toNat 0)+(a0.f.getD x7.toNat 0))).getD ((a0.Net.Arcs.getD x7.toNat default).to).toNat 0) - (a0.f.getD x7.toNat 0))) (x7+1) ⟨H,(List.length_set.trans (List.length_set.trans d8))⟩ (Nat.lt_succ_self _) (aF rfl) (Zd Yt (Zd Ze Zg))
  ·refine Yu rfl g8 ?_;refine T.exit ?_;refine Xc ?_;have H:=Wd H f3▸g5;refine Xc ?_;refine Ve ?_;exact Xe d3 ⟨H,d8⟩ (aF rfl) (Zd Ze (Zd Ze Zg))
 ·
  rintro d0 ⟨H,d5⟩;unfold Z6p at H;refine Zh ?_;refine sR Y6 rfl ?_;refine Zc Za ?_;refine TO.nilCheck Za ?_;refine Zs Za Z0k ?_;refine Zt Za Vy Zi rfl ?_;refine Ym (xs:=d0) d5 Zb Wf ?_;refine Zc Za ?_;refine dN ?_;refine Wi (fun (u32:Unit)=>Z8x a0 d0=some (r0,o0)) (fun (u32:Unit)=>[]) (fun (u32:Unit)=>[(eC b7 #[iV a0.Net.N,iV a0.Net.S,iV a0.Net.T,.slice a3 a2 a4,.slice a5 a6 a9,.slice a8 b6 a7,nV b3 a0.Net.N.toNat a0.Net.N.toNat] 132),(eI (some b3) d0 ([]) 2)]) ?_ ?_
  ·
   refine T.block ?_;obtain ⟨h3,h4,g0⟩:=Zn H;refine Z0w (fun (d9:Nat) (d4:Int)=>Xa (fun s=>Z57 a0 d0 s) d9 d4=some h3) (fun (d9:Nat) (d4:Int)=>[(0,pV b7),(65,nV b3 a0.Net.N.toNat a0.Net.N.toNat),(66,iV (d0.length:Int)),(67,iV d4)]) (fun (d9:Nat) (d4:Int)=>[(eC b7 #[iV a0.Net.N,iV a0.Net.S,iV a0.Net.T,.slice a3 a2 a4,.slice a5 a6 a9,.slice a8 b6 a7,nV b3 a0.Net.N.toNat a0.Net.N.toNat] 132),(eI (some b3) d0 ([]) 2)]) (fun (d9:Nat) (d4:Int)=>d9) Xd 0 h4 (aF rfl) (Zd Ze (Zd Ze Zg)) ?_;rintro d9 d4 H;obtain ⟨e5,h5,rfl,H,e1⟩:=Vo H;have H:Z57 a0 d0 d4=some h5:=H;unfold Z57 at H;refine sR Y1 rfl ?_;refine Zq Zl ?_;refine dS ?_;rcases Zp H with ⟨e6,H⟩ | ⟨e6,H⟩
   ·
    refine Yw rfl e6 ?_;refine T.skip ?_;refine Zz ?_;refine Zh ?_;refine T.block ?_;obtain ⟨g1,H⟩:=Ya H;refine sR Y5 rfl ?_;refine Zc Za ?_;refine Kv d5 g1 Zb Wf We ?_;refine Z19 g1 Za Wp Yl ?_;refine Yc Za ?_;refine aN Za ?_;refine Zh ?_;rcases Zp H with ⟨e4,H⟩ | ⟨e4,H⟩
    ·
     rcases Zp H with ⟨e7,H⟩ | ⟨e7,H⟩
     ·
      refine rG Y20 rfl ?_;refine Zc Za ?_;refine Zq Zl ?_;refine Zc Za ?_;refine Zu (t:=74) (b':=true) rfl (decide_eq_true e4) ?_;refine Zc Za ?_;refine Zc Za ?_;refine TO.nilCheck Za ?_;refine Zs Za Ku ?_;refine Zs Za Gn ?_;refine Zt Za Yf Zi rfl ?_;refine Zq Zl ?_;refine Ye Zb ?_;refine Zc Za ?_;refine Zu (t:=83) (b':=true) rfl (decide_eq_true e7) ?_;refine Zc Za ?_;refine Zc Za ?_;refine TO.nilCheck Za ?_;refine Zs Za Ku ?_;refine Zs Za Ru ?_;refine Zt Za Yf Zi rfl ?_;refine Zq Zl ?_;refine Ye Zb ?_;refine dN ?_;refine Zm (aT [0,65,66,67,75,76,77,78,79,80,81,84,85,86,87,88,89,90,91] rfl) ?_;rcases Zp H with ⟨e8,H⟩ | ⟨e8,H⟩
      ·refine Yw rfl e8 ?_;refine sR Y1 rfl ?_;refine aN Za ?_;refine Zm (aT [2] rfl) ?_;refine T.ret ?_;refine Yy ?_;refine Zy ?_;have H:=Wd H e1▸g0;refine Zy ?_;refine Yy ?_;refine Zy ?_;obtain ⟨rfl,rfl⟩:=ret2 H;exact Yd Za (Res.tmp rfl) (Zd Ze (Zd Ze Zg)) ⟨(some b3),a0.Net.N.toNat,a0.Net.N.toNat,([]),rfl,rfl,d5,(Nat.le_refl _),(Xk _ _),Wl⟩
      ·refine Yu rfl e8 ?_;refine T.skip ?_;refine Yv ?_;refine Zz ?_;obtain ⟨h6,H⟩:=Ya H;refine rG Y2 rfl ?_;refine Xy h6 Zb ?_;refine Zc Za ?_;refine Zk ?_;have H:=Wr H e1;exact Lw e5 (d4+1) H (Nat.lt_succ_self _) (aF rfl) (Zd Ze (Zd Ze Zg))
     ·refine rG Y20 rfl ?_;refine Zc Za ?_;refine Zq Zl ?_;refine Zc Za ?_;refine Zu (t:=74) (b':=true) rfl (decide_eq_true e4) ?_;refine Zc Za ?_;refine Zc Za ?_;refine TO.nilCheck Za ?_;refine Zs Za Ku ?_;refine Zs Za Gn ?_;refine Zt Za Yf Zi rfl ?_;refine Zq Zl ?_;refine Ye Zb ?_;refine Zc Za ?_;refine Zu (t:=83) (b':=false) rfl (decide_eq_false e7) ?_;refine Zf Za ?_;refine Zf Za ?_;refine Zf Za ?_;refine Zf Za ?_;refine Zf Za ?_;refine Zf Za ?_;refine Zf Za ?_;refine Yg Zb ?_;refine dN ?_;refine Zm (aT [0,65,66,67,75,76,77,78,79,80,81,84,85,86,87,88,89,90,91] rfl) ?_;refine Xf rfl rfl ?_;refine T.skip ?_;refine Yv ?_;refine Zz ?_;obtain ⟨h7,H⟩:=Ya H;refine rG Y2 rfl ?_;refine Xy h7 Zb ?_;refine Zc Za ?_;refine Zk ?_;have H:=Wr H e1;exact Lw e5 (d4+1) H (Nat.lt_succ_self _) (aF rfl) (Zd Ze (Zd Ze Zg))
    ·refine rG Y20 rfl ?_;refine Zc Za ?_;refine Zq Zl ?_;refine Zc Za ?_;refine Zu (t:=74) (b':=false) rfl (decide_eq_false e4) ?_;refine Zf Za ?_;refine Zf Za ?_;refine Zf Za ?_;refine Zf Za ?_;refine Zf Za ?_;refine Zf Za ?_;refine Zf Za ?_;refine Yg Zb ?_;refine Zc Za ?_;refine Zf Za ?_;refine Zf Za ?_;refine Zf Za ?_;refine Zf Za ?_;refine Zf Za ?_;refine Zf Za ?_;refine Zf Za ?_;refine Yg Zb ?_;refine dN ?_;refine Zm (aT [0,65,66,67,75,76,77,78,79,80,81,84,85,86,87,88,89,90,91] rfl) ?_;refine Xf rfl rfl ?_;refine T.skip ?_;refine Yv ?_;refine Zz ?_;obtain ⟨h8,H⟩:=Ya H;refine rG Y2 rfl ?_;refine Xy h8 Zb ?_;refine Zc Za ?_;refine Zk ?_;have H:=Wr H e1;exact Lw e5 (d4+1) H (Nat.lt_succ_self _) (aF rfl) (Zd Ze (Zd Ze Zg))
   ·refine Yu rfl e6 ?_;refine T.exit ?_;refine Xc ?_;have H:=Wd H e1▸g0;refine Xc ?_;refine Ve ?_;exact Xe () H Js (Zd Ze (Zd Ze Zg))
  ·rintro u32 H;unfold Z8x at H;refine sR Y1 rfl ?_;refine aN Za ?_;refine T.ret ?_;obtain ⟨rfl,rfl⟩:=ret2 H;exact Yd Za (Res.tmp rfl) (Zd Ze (Zd Ze Zg)) ⟨(some b3),a0.Net.N.toNat,a0.Net.N.toNat,([]),rfl,rfl,d5,(Nat.le_refl _),(Xk _ _),Wl⟩
theorem Ze6 {a0:CheckAnswer}{d1 a4 a6 a8 b8 d0 a9 c7 b6:Nat}{a5 a7 b7 c4:Option Addr}(w:World)(d2:RS w [] Zx 3 a5 a4 a6 a0.Net.Arcs)(d4:RS w [] iC 1 a7 a8 b8 a0.f)(a3:RS w [] boolC 1 b7 d0 a9 a0.s)(d3:RS w [] iC 1 c4 c7 b6 a0.out)(a2:HB w [] d1 [iV a0.Net.N,iV a0.Net.S,iV a0.Net.T,.slice a5 a4 a6,.slice a7 a8 b8,.slice b7 d0 a9,.slice c4 c7 b6]){r0:Bool}(H:Z64 a0=some r0):Fnc Tryz.prog 112 #[pV d1] w [] (fun v N=>v=.bool r0∧N=[]):=by
 unfold Z64 at H;refine Fnc.enter (vs:=[pV d1]) Tryz.func112 rfl rfl (Inv.refl w) ?_;refine sR Y1 rfl ?_;refine aN Za ?_;refine Zh ?_;obtain ⟨g1,H⟩:=Ya H;rcases Zp H with ⟨g2,H⟩ | ⟨g2,H⟩
 ·obtain ⟨g3,H⟩:=Ya H;refine Wz 21 [0,1,2,3,4,5,6,7,8,9,10,11,12,13,14,15,16,17,18,19,20] rfl Xx (by kernel_rfl) (by kernel_rfl) rfl (by kernel_rfl) ?_;refine TQ.move Za ?_;refine TQ.nilCheck Za ?_;refine Yo Za Rz ?_;refine Ue a2 Zb Jl ?_;refine TQ.move Za ?_;refine TQ.nilCheck Za ?_;refine Yo Za Ku ?_;refine Yo Za Gn ?_;refine Ue a2 Zb Yf ?_;refine Ka a3 g1 Zb Jg Uy ?_;refine Z4h a3 g1 Za Kk ?_;refine TQ.move Za ?_;refine Vz (t:=14) (b':=true) rfl g2 ?_;refine TQ.move Za ?_;refine TQ.nilCheck Za ?_;refine Yo Za Rz ?_;refine Ue a2 Zb Jl ?_;refine TQ.move Za ?_;refine TQ.nilCheck Za ?_;refine Yo Za Ku ?_;refine Yo Za Ru ?_;refine Ue a2 Zb Yf ?_;refine TQ.tail [21,22,23,24,25] Ys ?_;refine Xr a3 g3 Zb Jg Uy ?_;refine Z9d a3 g3 Za Kk ?_;refine TO.not Za ?_;refine Ye Zb ?_;refine aN Za ?_;refine Zm (aT [2] rfl) ?_;refine T.ret ?_;obtain rfl:=ret1 H;exact Yd Za (Res.tmp rfl) Zg ⟨rfl,rfl⟩
 ·refine Wz 21 [0,1,2,3,4,5,6,7,8,9,10,11,12,13,14,15,16,17,18,19,20] rfl Xx (by kernel_rfl) (by kernel_rfl) rfl (by kernel_rfl) ?_;refine TQ.move Za ?_;refine TQ.nilCheck Za ?_;refine Yo Za Rz ?_;refine Ue a2 Zb Jl ?_;refine TQ.move Za ?_;refine TQ.nilCheck Za ?_;refine Yo Za Ku ?_;refine Yo Za Gn ?_;refine Ue a2 Zb Yf ?_;refine Ka a3 g1 Zb Jg Uy ?_;refine Z4h a3 g1 Za Kk ?_;refine TQ.move Za ?_;refine Vz (t:=14) (b':=false) rfl (Bool.eq_false_iff.2 g2) ?_;refine Yi Za ?_;refine Yi Za ?_;refine Yi Za ?_;refine Yi Za ?_;refine Yi Za ?_;refine Yi Za ?_;refine Yi Za ?_;refine Yi Za ?_;refine Yi Za ?_;refine TQ.tail [21,22,23,24,25] Ys ?_;refine Zf Za ?_;refine Zf Za ?_;refine Zf Za ?_;refine Yg Zb ?_;refine aN Za ?_;refine Zm (aT [2] rfl) ?_;refine T.ret ?_;obtain rfl:=ret1 H;exact Yd Za (Res.tmp rfl) Zg ⟨rfl,rfl⟩
theorem Zfg {a0:CheckAnswer}{b8 a3 a5 c4 d2 d6 c7 d5 d0:Nat}{a4 b7 d1 d3:Option Addr}(w:World)(a9:RS w [] Zx 3 a4 a3 a5 a0.Net.Arcs)(e2:RS w [] iC 1 b7 c4 d2 a0.f)(a7:RS w [] boolC 1 d1 d6 c7 a0.s)(d4:RS w [] iC 1 d3 d5 d0 a0.out)(a6:HB w [] b8 [iV a0.Net.N,iV a0.Net.S,iV a0.Net.T,.slice a4 a3 a5,.slice b7 c4 d2,.slice d1 d6 c7,.slice d3 d5 d0]){r0:Bool}(H:Z8j a0=some r0):Fnc Tryz.prog 113 #[pV b8] w [] (fun v N=>v=.bool r0∧N=[]):=by
 unfold Z8j at H;refine Fnc.enter (vs:=[pV b8]) Tryz.func113 rfl rfl (Inv.refl w) ?_;refine sR Y1 rfl ?_;refine aN Za ?_;refine Zh ?_;obtain ⟨g1,H⟩:=Ya H;refine Wz 9 [0,1,2,3,4,5,6,7,8] rfl Xx (by kernel_rfl) (by kernel_rfl) rfl (by kernel_rfl) ?_;refine TQ.move Za ?_;refine TQ.nilCheck Za ?_;refine Yo Za Z0k ?_;refine Ue a6 Zb Vy ?_;refine TQ.move Za ?_;refine TQ.nilCheck Za ?_;refine Yo Za Ku ?_;refine Yo Za Gn ?_;refine Ue a6 Zb Yf ?_;refine TQ.tail [9,10,11] Ys ?_;refine Xr d4 g1 Zb Wf We ?_;refine Kw d4 g1 Za Wp ?_;refine aN Za ?_;refine Zm (aT [0,3] rfl) ?_;refine Zh ?_;refine sR Y7 rfl ?_;refine Zc Za ?_;refine TO.nilCheck Za ?_;refine Zs Za Ku ?_;refine Zs Za Vm ?_;refine Vn a6 Zb Vt ?_;refine Ym (xs:=a0.Net.Arcs) a9.len Zb Wo ?_;refine Zc Za ?_;refine dN ?_;refine Wi (fun (a8:Int)=>Z7d a8=some r0) (fun (a8:Int)=>[(3,iV a8)]) (fun (a8:Int)=>[]) ?_ ?_
 ·
  refine T.block ?_;obtain ⟨e6,e7,e8⟩:=Zn H;refine Ld (fun (d7:Nat) (a2 x3:Int)=>Xa (fun s=>Z3k a0 s.1 s.2) d7 (a2,x3)=some e6) (fun (d7:Nat) (a2 x3:Int)=>[(0,pV b8),(3,iV a2),(21,.slice a4 a3 a5),(22,iV (a0.Net.Arcs.length:Int)),(23,iV x3)]) (fun (d7:Nat) (a2 x3:Int)=>[]) (fun (d7:Nat) (a2 x3:Int)=>d7) Xd (a0.out.getD a0.Net.S.toNat 0) 0 e7 (aF rfl) Zg ?_;rintro d7 a2 x3 H;obtain ⟨e3,e4,rfl,H,d9⟩:=Vo H;have H:Z3k a0 a2 x3=some e4:=H;unfold Z3k at H;refine sR Y1 rfl ?_;refine Zq Zl ?_;refine dS ?_;rcases Zp H with ⟨g4,H⟩ | ⟨g4,H⟩
  ·
   refine Yw rfl g4 ?_;refine T.skip ?_;refine Zz ?_;refine Zh ?_;refine T.block ?_;obtain ⟨g5,H⟩:=Ya H;refine sR Y4 rfl ?_;refine Xr a9 g5 Zb Wo Vl ?_;refine Gu (cs:=[iV ((a0.Net.Arcs.getD x3.toNat default).fr),iV ((a0.Net.Arcs.getD x3.toNat default).to),iV ((a0.Net.Arcs.getD x3.toNat default).cap)]) default a9 g5 Zb Je ?_;refine Xs Zj Gv ?_;intro b6;refine Xo Za Ze Vl Zj ?_;refine dS ?_;refine Wi (fun (d8:Bool)=>Z3e a0 a2 x3 d8=some e4) (fun (d8:Bool)=>[(0,pV b8),(3,iV a2),(5,pV b6),(21,.slice a4 a3 a5),(22,iV (a0.Net.Arcs.length:Int)),(23,iV x3),(45,.bool d8)]) (fun (d8:Bool)=>[(eC b6 #[iV ((a0.Net.Arcs.getD x3.toNat default).fr),iV ((a0.Net.Arcs.getD x3.toNat default).to),iV ((a0.Net.Arcs.getD x3.toNat default).cap)] 64)]) ?_ ?_
   ·
    obtain ⟨g8,H⟩:=Ya H;rcases Zp H with ⟨g9,H⟩ | ⟨g9,H⟩
    ·obtain ⟨e5,H⟩:=Ya H;refine Wz 15 [0,1,2,3,4,5,6,7,8,9,10,11,12,13,14] rfl Xx (by kernel_rfl) (by kernel_rfl) rfl (by kernel_rfl) ?_;refine TQ.move Za ?_;refine TQ.nilCheck Za ?_;refine Yo Za Rz ?_;refine Ue a6 Zb Jl ?_;refine Yo Za Gh ?_;refine Yx Za Yf Zi rfl ?_;refine Ka a7 g8 Zb Jg Uy ?_;refine Z4h a7 g8 Za Kk ?_;refine TQ.move Za ?_;refine Vz (t:=35) (b':=true) rfl g9 ?_;refine TQ.move Za ?_;refine TQ.nilCheck Za ?_;refine Yo Za Rz ?_;refine Ue a6 Zb Jl ?_;refine Yo Za Lh ?_;refine Yx Za Yf Zi rfl ?_;refine TQ.tail [15,16,17,18] Ys ?_;refine Xr a7 e5 Zb Jg Uy ?_;refine Z9d a7 e5 Za Kk ?_;refine TO.not Za ?_;refine Ye Zb ?_;refine Zk ?_;exact Xe (!(a0.s.getD ((a0.Net.Arcs.getD x3.toNat default).to).toNat false)) H (aF rfl) (Zd Ze Zg)
    ·refine Wz 15 [0,1,2,3,4,5,6,7,8,9,10,11,12,13,14] rfl Xx (by kernel_rfl) (by kernel_rfl) rfl (by kernel_rfl) ?_;refine TQ.move Za ?_;refine TQ.nilCheck Za ?_;refine Yo Za Rz ?_;refine Ue a6 Zb Jl ?_;refine Yo Za Gh ?_;refine Yx Za Yf Zi rfl ?_;refine Ka a7 g8 Zb Jg Uy ?_;refine Z4h a7 g8 Za Kk ?_;refine TQ.move Za ?_;refine Vz (t:=35) (b':=false) rfl (Bool.eq_false_iff.2 g9) ?_;refine Yi Za ?_;refine Yi Za ?_;refine Yi Za ?_;refine Yi Za ?_;refine Yi Za ?_;refine Yi Za ?_;refine TQ.tail [15,16,17,18] Ys ?_;refine Zf Za ?_;refine Zf Za ?_;refine Zf Za ?_;refine Yg Zb ?_;refine Zk ?_;exact Xe false H (aF rfl) (Zd Ze Zg)
   ·
    rintro d8 H;unfold Z3e at H;rcases Zp H with ⟨e1,H⟩ | ⟨e1,H⟩
    ·refine Yr rfl e1 ?_;obtain ⟨e9,H⟩:=Ya H;refine rG Y5 rfl ?_;refine Zc Za ?_;refine Zs Za Nw ?_;refine Zt Za Wp Zi rfl ?_;refine Nd e9 Zb ?_;refine Yc Za ?_;refine Zk ?_;refine Yv ?_;refine Zz ?_;obtain ⟨f0,H⟩:=Ya H;refine rG Y2 rfl ?_;refine Xy f0 Zb ?_;refine Zc Za ?_;refine Zk ?_;have H:=Wr H d9;exact Gj e3 (a2 - ((a0.Net.Arcs.getD x3.toNat default).cap)) (x3+1) H (Nat.lt_succ_self _) (aF rfl) Zg
    ·refine Xf rfl (Bool.eq_false_iff.2 e1) ?_;refine T.skip ?_;refine Yv ?_;refine Zz ?_;obtain ⟨f2,H⟩:=Ya H;refine rG Y2 rfl ?_;refine Xy f2 Zb ?_;refine Zc Za ?_;refine Zk ?_;have H:=Wr H d9;exact Gj e3 a2 (x3+1) H (Nat.lt_succ_self _) (aF rfl) Zg
  ·refine Yu rfl g4 ?_;refine T.exit ?_;refine Xc ?_;have H:=Wd H d9▸e8;refine Xc ?_;refine Ve ?_;exact Xe a2 H (aF rfl) Zg
 ·rintro a8 H;unfold Z7d at H;refine sR Y3 rfl ?_;refine Zc Za ?_;refine Zq Zl ?_;refine aN Za ?_;refine T.ret ?_;obtain rfl:=ret1 H;exact Yd Za (Res.tmp rfl) Zg ⟨rfl,rfl⟩
theorem Za9 {a0:CheckAnswer}{d6 a2 a4 a9 c7 d0 b7 a7 a6:Nat}{a3 a8 c4:Option Addr}{a5:Option Nat}{d1:List Value}(w:World)(hin:Inv w (([(eC d6 #[iV a0.Net.N,iV a0.Net.S,iV a0.Net.T,.slice a3 a2 a4,.slice a8 a9 c7,.slice c4 d0 b7,sV a5 a7 a6] 132),(eI a5 a0.out d1 2)]:Heap).filterMap Prod.fst) w [(eC d6 #[iV a0.Net.N,iV a0.Net.S,iV a0.Net.T,.slice a3 a2 a4,.slice a8 a9 c7,.slice c4 d0 b7,sV a5 a7 a6] 132),(eI a5 a0.out d1 2)])(d2:RS w (([(eC d6 #[iV a0.Net.N,iV a0.Net.S,iV a0.Net.T,.slice a3 a2 a4,.slice a8 a9 c7,.slice c4 d0 b7,sV a5 a7 a6] 132),(eI a5 a0.out d1 2)]:Heap).filterMap Prod.fst) Zx 3 a3 a2 a4 a0.Net.Arcs)(d9:RS w (([(eC d6 #[iV a0.Net.N,iV a0.Net.S,iV a0.Net.T,.slice a3 a2 a4,.slice a8 a9 c7,.slice c4 d0 b7,sV a5 a7 a6] 132),(eI a5 a0.out d1 2)]:Heap).filterMap Prod.fst) iC 1 a8 a9 c7 a0.f)(d7:RS w (([(eC d6 #[iV a0.Net.N,iV a0.Net.S,iV a0.Net.T,.slice a3 a2 a4,.slice a8 a9 c7,.slice c4 d0 b7,sV a5 a7 a6] 132),(eI a5 a0.out d1 2)]:Heap).filterMap Prod.fst) boolC 1 c4 d0 b7 a0.s)(d4:a0.out.length=a7)(d5:a7≤a6)(d8:d1.length=(a6-a7)*1)(d3:(a5=none→a6=0)){r0:Int}{o0:CheckAnswer}(H:Z4x a0=some (r0,o0)):Fnc Tryz.prog 65 #[pV d6] w (([(eC d6 #[iV a0.Net.N,iV a0.Net.S,iV a0.Net.T,.slice a3 a2 a4,.slice a8 a9 c7,.slice c4 d0 b7,sV a5 a7 a6] 132),(eI a5 a0.out d1 2)]:Heap).filterMap Prod.fst) (fun v N=>∃ (f0:Option Nat) (f4 f5:Nat) (g8:List Value),v=iV r0∧N=[(eC d6 #[iV a0.Net.N,iV a0.Net.S,iV a0.Net.T,.slice a3 a2 a4,.slice a8 a9 c7,.slice c4 d0 b7,sV f0 f4 f5] 132),(eI f0 o0.out g8 2)]∧o0.out.length=f4∧f4≤f5∧g8.length=(f5-f4)*1∧(f0=none→f5=0)):=by
 unfold Z4x at H;refine Fnc.enter (vs:=[pV d6]) Tryz.func65 rfl rfl hin ?_;refine sR Y1 rfl ?_;refine aN Za ?_;refine Zh ?_;refine Zh ?_;obtain ⟨r3,e4,H⟩:=Zn H;refine rG Y6 rfl ?_;refine Zc Za ?_;refine TO.nilCheck Za ?_;refine Zs Za Ku ?_;refine Rj (vs:=[iV a0.Net.N,iV a0.Net.S,iV a0.Net.T,.slice a3 a2 a4]) Za Xb Zi Ys ?_;refine Zw Nr Za (fun wc hwc=>La (n0:=a0.Net) wc (d2.mono hwc) e4) ?_;rintro _ _ ⟨rfl,rfl⟩;refine aN Za ?_;refine sR Y2 rfl ?_;refine Zc Za ?_;refine Zq Zl ?_;refine dN ?_;rcases Zp H with ⟨g5,H⟩ | ⟨g5,H⟩
 ·refine Yw rfl g5 ?_;refine sR Y2 rfl ?_;refine Zc Za ?_;refine aN Za ?_;refine Zm (aT [2] rfl) ?_;refine T.ret ?_;refine Zy ?_;obtain ⟨rfl,rfl⟩:=ret2 H;exact Yd Za (Res.tmp rfl) (Zd Ze (Zd Ze Zg)) ⟨a5,a7,a6,d1,rfl,rfl,d4,d5,d8,d3⟩
 ·
  refine Yu rfl g5 ?_;refine T.skip ?_;refine Zz ?_;refine Zm (aT [0] rfl) ?_;refine Zh ?_;refine sR Y18 rfl ?_;refine Zc Za ?_;refine TO.makeFunc Zb ?_;refine Vi (t:=192) [.nilFunc,iV 0] [0,1] Za (by simp only [Xv,setCells,Value.cells,List.toList_toArray,List.getD_cons_zero,List.getD_cons_succ,List.set_cons_zero,List.set_cons_succ];rfl) (by kernel_rfl) ?_;refine Zc Za ?_;refine TO.makeFunc Zb ?_;refine Vi (t:=192) [.nilFunc,iV 0] [0,1] Za (by simp only [Xv,setCells,Value.cells,List.toList_toArray,List.getD_cons_zero,List.getD_cons_succ,List.set_cons_zero,List.set_cons_succ];rfl) (by kernel_rfl) ?_;refine Zc Za ?_;refine TO.makeFunc Zb ?_;refine Vi (t:=192) [.nilFunc,iV 0] [0,1] Za (by simp only [Xv,setCells,Value.cells,List.toList_toArray,List.getD_cons_zero,List.getD_cons_succ,List.set_cons_zero,List.set_cons_succ];rfl) (by kernel_rfl) ?_;refine Zc Za ?_;refine TO.makeFunc Zb ?_;refine Vi (t:=192) [.nilFunc,iV 0] [0,1] Za (by simp only [Xv,setCells,Value.cells,List.toList_toArray,List.getD_cons_zero,List.getD_cons_succ,List.set_cons_zero,List.set_cons_succ];rfl) (by kernel_rfl) ?_;refine Zc Za ?_;refine TO.makeFunc Zb ?_;refine Vi (t:=192) [.nilFunc,iV 0] [0,1] Za (by simp only [Xv,setCells,Value.cells,List.toList_toArray,List.getD_cons_zero,List.getD_cons_succ,List.set_cons_zero,List.set_cons_succ];rfl) (by kernel_rfl) ?_;refine Jc [.nilFunc,iV 0,.nilFunc,iV 0,.nilFunc,iV 0,.nilFunc,iV 0,.nilFunc,iV 0] [0,2,4,6,8] Za Rw Gi Z0b Ys (by simp only [Xv,setCells,Value.cells,List.toList_toArray,List.getD_cons_zero,List.getD_cons_succ,List.set_cons_zero,List.set_cons_succ];rfl) (by kernel_rfl) ?_;intro b6;refine Ym (xs:=[(),(),(),(),()]) (n:=5) rfl Zb Rw ?_;refine Zc Za ?_;refine dN ?_;refine Zm (aT [29,30,31] rfl) ?_;refine Z59 (fun (e1:List Int) (n44 e9:Nat) (e2:Option Nat) (f2:List Value)=>Z6y a0 e1=some (r0,o0)∧e1.length=n44∧n44≤e9∧f2.length=(e9 - n44)*1∧(e2=none→e9=0)) (fun (e1:List Int) (n44 e9:Nat) (e2:Option Nat) (f2:List Value)=>[]) (fun (e1:List Int) (n44 e9:Nat) (e2:Option Nat) (f2:List Value)=>[(eC d6 #[iV a0.Net.N,iV a0.Net.S,iV a0.Net.T,.slice a3 a2 a4,.slice a8 a9 c7,.slice c4 d0 b7,sV e2 n44 e9] 132),(eI e2 e1 f2 2)]) ?_ ?_
  ·
   refine T.block ?_;refine Zat ?_;refine RT.round ?_;refine sR Y1 rfl ?_;refine Jn (b:=true) Zl (by first | decide | rfl) ?_;refine dS ?_;refine Yr rfl rfl ?_;refine T.skip ?_;refine Zz ?_;refine Zh ?_;refine T.block ?_;refine sR Y4 rfl ?_;refine Z0z (xs:=[(),(),(),(),()]) (n:=5) rfl (Z23 (k:=0) rfl) Zb Rw Gi ?_;refine Rj (vs:=[.func (.func 109) #[pV d6] #[],iV 60]) Za Z1z Zi Ys ?_;refine Xs Zj Z0b ?_;intro b8;refine Xo Za Ze Gi Zj ?_;refine dS ?_;obtain ⟨h4,g9,H⟩:=Zn H;refine rG Y4 rfl ?_;refine Zs Za Z24 ?_;refine Zt Za Z28 Zi rfl ?_;refine Jb Zjk Zb (fun wc hwc=>Zjp (a0:=a0) wc (d2.mono hwc) (d9.mono hwc) (d7.mono hwc) (rsI hwc Uo d4 d5 d3) (hwc.hb (cs:=[iV a0.Net.N,iV a0.Net.S,iV a0.Net.T,.slice a3 a2 a4,.slice a8 a9 c7,.slice c4 d0 b7,sV a5 a7 a6]) Xn) g9) ?_;rintro _ _ ⟨rfl,rfl⟩;refine TO.not Za ?_;refine dN ?_;rcases Zp H with ⟨f7,H⟩ | ⟨f7,H⟩
   ·refine Yr rfl f7 ?_;refine sR Y3 rfl ?_;refine Zs Za Z2d ?_;refine Zt Za Kx Zi rfl ?_;refine aN Za ?_;refine Zm (aT [2] rfl) ?_;refine T.ret ?_;refine Yy ?_;refine Zy ?_;refine Zy ?_;refine Yy ?_;refine Zy ?_;obtain ⟨rfl,rfl⟩:=ret2 H;exact Yd Za (Res.tmp rfl) (Zd Yt (Zd Yt Zg)) ⟨a5,a7,a6,d1,rfl,rfl,d4,d5,d8,d3⟩
   ·
    refine Xf rfl (Bool.eq_false_iff.2 f7) ?_;refine T.skip ?_;refine Yv ?_;refine Zz ?_;refine Zm (aT [29,30,31] rfl) ?_;refine rG Y2 rfl ?_;refine Gr (r:=1) (by decide) Zb ?_;refine Zc Za ?_;refine Zk ?_;refine X.round ?_;refine RT.round ?_;refine sR Y1 rfl ?_;refine Jn (b:=true) Zl (by first | decide | rfl) ?_;refine dS ?_;refine Yr rfl rfl ?_;refine T.skip ?_;refine Zz ?_;refine Zh ?_;refine T.block ?_;refine sR Y4 rfl ?_;refine Z0z (xs:=[(),(),(),(),()]) (n:=5) rfl (Z23 (k:=1) rfl) Zb Rw Gi ?_;refine Rj (vs:=[.func (.func 110) #[pV d6] #[],iV 61]) Za Z1z Yl Ys ?_;refine Xs Zj Z0b ?_;intro h5;refine Xo Za Ze Gi Zj ?_;refine dS ?_;obtain ⟨h6,h0,H⟩:=Zn H;refine rG Y4 rfl ?_;refine Zs Za Z24 ?_;refine Zt Za Z28 Zi rfl ?_;refine Jb Zjh Zb (fun wc hwc=>Zgd (a0:=a0) wc (d2.mono hwc) (d9.mono hwc) (d7.mono hwc) (rsI hwc Vp d4 d5 d3) (hwc.hb (cs:=[iV a0.Net.N,iV a0.Net.S,iV a0.Net.T,.slice a3 a2 a4,.slice a8 a9 c7,.slice c4 d0 b7,sV a5 a7 a6]) Uo) h0) ?_;rintro _ _ ⟨rfl,rfl⟩;refine TO.not Za ?_;refine dN ?_;rcases Zp H with ⟨f8,H⟩ | ⟨f8,H⟩
    ·refine Yr rfl f8 ?_;refine sR Y3 rfl ?_;refine Zs Za Z2d ?_;refine Zt Za Kx Zi rfl ?_;refine aN Za ?_;refine Zm (aT [2] rfl) ?_;refine T.ret ?_;refine Yy ?_;refine Zy ?_;refine Zy ?_;refine Yy ?_;refine Zy ?_;obtain ⟨rfl,rfl⟩:=ret2 H;exact Yd Za (Res.tmp rfl) (Zd Vv (Zd Vv Zg)) ⟨a5,a7,a6,d1,rfl,rfl,d4,d5,d8,d3⟩
    ·
     refine Xf rfl (Bool.eq_false_iff.2 f8) ?_;refine T.skip ?_;refine Yv ?_;refine Zz ?_;refine Zm (aT [29,30,31] rfl) ?_;refine rG Y2 rfl ?_;refine Gr (r:=2) (by decide) Zb ?_;refine Zc Za ?_;refine Zk ?_;refine X.round ?_;refine RT.round ?_;refine sR Y1 rfl ?_;refine Jn (b:=true) Zl (by first | decide | rfl) ?_;refine dS ?_;refine Yr rfl rfl ?_;refine T.skip ?_;refine Zz ?_;refine Zh ?_;refine T.block ?_;refine sR Y4 rfl ?_;refine Z0z (xs:=[(),(),(),(),()]) (n:=5) rfl (Z23 (k:=2) rfl) Zb Rw Gi ?_;refine Rj (vs:=[.func (.func 111) #[pV d6] #[],iV 62]) Za Z1z Xn Ys ?_;refine Xs Zj Z0b ?_;intro h7;refine Xo Za Ze Gi Zj ?_;refine dS ?_;obtain ⟨⟨h8,f9⟩,h1,H⟩:=Zn H;refine rG Y4 rfl ?_;refine Zs Za Z24 ?_;refine Zt Za Z28 Zi rfl ?_;refine Z4k Zif Zb (Take.gone Gb (Gone.refl _)) rfl (fun wc hwc=>Zfu (a0:=a0) wc (hwc.self (Zd Gb Zg) rfl) (d2.monoM (by decide) hwc (Take.gone Gb (Gone.refl _)) rfl) (d9.monoM (by decide) hwc (Take.gone Gb (Gone.refl _)) rfl) (d7.monoM (by decide) hwc (Take.gone Gb (Gone.refl _)) rfl) (hwc.rsM (f:=iC) (s:=1) (xs:=a0.out) (j:=d1) (fun _=>rfl) (Take.gone Gb (Gone.refl _)) rfl Vp d4 d5 d3) h1) ?_;rintro _ _ ⟨e3,n24,f3,f6,rfl,rfl,e5,e6,e8,e7⟩;refine TO.not Za ?_;refine dN ?_;rcases Zp H with ⟨g0,H⟩ | ⟨g0,H⟩
     ·refine Yr rfl g0 ?_;refine sR Y3 rfl ?_;refine Zs Za Z2d ?_;refine Zt Za Kx Xn rfl ?_;refine aN Za ?_;refine Zm (aT [2] rfl) ?_;refine T.ret ?_;refine Yy ?_;refine Zy ?_;refine Zy ?_;refine Yy ?_;refine Zy ?_;obtain ⟨rfl,rfl⟩:=ret2 H;exact Yd Za (Res.tmp rfl) (Zd Ze (Zd Ze Zg)) ⟨e3,n24,f3,f6,rfl,rfl,e5,e6,e8,e7⟩
     ·
      refine Xf rfl (Bool.eq_false_iff.2 g0) ?_;refine T.skip ?_;refine Yv ?_;refine Zz ?_;refine Zm (aT [29,30,31] rfl) ?_;refine rG Y2 rfl ?_;refine Gr (r:=3) (by decide) Zb ?_;refine Zc Za ?_;refine Zk ?_;refine X.round ?_;refine RT.round ?_;refine sR Y1 rfl ?_;refine Jn (b:=true) Zl (by first | decide | rfl) ?_;refine dS ?_;refine Yr rfl rfl ?_;refine T.skip ?_;refine Zz ?_;refine Zh ?_;refine T.block ?_;refine sR Y4 rfl ?_;refine Z0z (xs:=[(),(),(),(),()]) (n:=5) rfl (Z23 (k:=3) rfl) Zb Rw Gi ?_;refine Rj (vs:=[.func (.func 112) #[pV d6] #[],iV 63]) Za Z1z Vf Ys ?_;refine Xs Zj Z0b ?_;intro b33;refine Xo Za Ze Gi Zj ?_;refine dS ?_;obtain ⟨h9,h2,H⟩:=Zn H;refine rG Y4 rfl ?_;refine Zs Za Z24 ?_;refine Zt Za Z28 Zi rfl ?_;refine Jb Zeb Zb (fun wc hwc=>Ze6 (a0:=(CheckAnswer.mk a0.Net a0.f a0.s f9.out)) wc (d2.mono hwc) (d9.mono hwc) (d7.mono hwc) (rsI hwc Xn e5 e6 e7) (hwc.hb (cs:=[iV a0.Net.N,iV a0.Net.S,iV a0.Net.T,.slice a3 a2 a4,.slice a8 a9 c7,.slice c4 d0 b7,sV e3 n24 f3]) Yl) h2) ?_;rintro _ _ ⟨rfl,rfl⟩;refine TO.not Za ?_;refine dN ?_;rcases Zp H with ⟨g1,H⟩ | ⟨g1,H⟩
      ·refine Yr rfl g1 ?_;refine sR Y3 rfl ?_;refine Zs Za Z2d ?_;refine Zt Za Kx Zi rfl ?_;refine aN Za ?_;refine Zm (aT [2] rfl) ?_;refine T.ret ?_;refine Yy ?_;refine Zy ?_;refine Zy ?_;refine Yy ?_;refine Zy ?_;obtain ⟨rfl,rfl⟩:=ret2 H;exact Yd Za (Res.tmp rfl) (Zd Zo (Zd Zo Zg)) ⟨e3,n24,f3,f6,rfl,rfl,e5,e6,e8,e7⟩
      ·
       refine Xf rfl (Bool.eq_false_iff.2 g1) ?_;refine T.skip ?_;refine Yv ?_;refine Zz ?_;refine Zm (aT [29,30,31] rfl) ?_;refine rG Y2 rfl ?_;refine Gr (r:=4) (by decide) Zb ?_;refine Zc Za ?_;refine Zk ?_;refine X.round ?_;refine RT.round ?_;refine sR Y1 rfl ?_;refine Jn (b:=true) Zl (by first | decide | rfl) ?_;refine dS ?_;refine Yr rfl rfl ?_;refine T.skip ?_;refine Zz ?_;refine Zh ?_;refine T.block ?_;refine sR Y4 rfl ?_;refine Z0z (xs:=[(),(),(),(),()]) (n:=5) rfl (Z23 (k:=4) rfl) Zb Rw Gi ?_;refine Rj (vs:=[.func (.func 113) #[pV d6] #[],iV 64]) Za Z1z mm6 Ys ?_;refine Xs Zj Z0b ?_;intro i4;refine Xo Za Ze Gi Zj ?_;refine dS ?_;obtain ⟨i5,h3,H⟩:=Zn H;refine rG Y4 rfl ?_;refine Zs Za Z24 ?_;refine Zt Za Z28 Zi rfl ?_;refine Jb Zgr Zb (fun wc hwc=>Zfg (a0:=(CheckAnswer.mk a0.Net a0.f a0.s f9.out)) wc (d2.mono hwc) (d9.mono hwc) (d7.mono hwc) (rsI hwc Uo e5 e6 e7) (hwc.hb (cs:=[iV a0.Net.N,iV a0.Net.S,iV a0.Net.T,.slice a3 a2 a4,.slice a8 a9 c7,.slice c4 d0 b7,sV e3 n24 f3]) Xn) h3) ?_;rintro _ _ ⟨rfl,rfl⟩;refine TO.not Za ?_;refine dN ?_;rcases Zp H with ⟨g2,H⟩ | ⟨g2,H⟩
       ·refine Yr rfl g2 ?_;refine sR Y3 rfl ?_;refine Zs Za Z2d ?_;refine Zt Za Kx Zi rfl ?_;refine aN Za ?_;refine Zm (aT [2] rfl) ?_;refine T.ret ?_;refine Yy ?_;refine Zy ?_;refine Zy ?_;refine Yy ?_;refine Zy ?_;obtain ⟨rfl,rfl⟩:=ret2 H;exact Yd Za (Res.tmp rfl) (Zd Yt (Zd Yt Zg)) ⟨e3,n24,f3,f6,rfl,rfl,e5,e6,e8,e7⟩
       ·refine Xf rfl (Bool.eq_false_iff.2 g2) ?_;refine T.skip ?_;refine Yv ?_;refine Zz ?_;refine Zm (aT [29,30,31] rfl) ?_;refine rG Y2 rfl ?_;refine Gr (r:=5) (by decide) Zb ?_;refine Zc Za ?_;refine Zk ?_;refine X.round ?_;refine RT.round ?_;refine sR Y1 rfl ?_;refine Jn (b:=false) Zl (by first | decide | rfl) ?_;refine dS ?_;refine Xf rfl rfl ?_;refine T.exit ?_;refine Xc ?_;refine Xc ?_;refine Ve ?_;exact Z5k f9.out n24 f3 e3 f6 ⟨H,e5,e6,e8,e7⟩ Js (Zd Yt (Zd Yt Zg))
  ·rintro e1 n44 e9 e2 f2 ⟨H,g3,g4,g6,g7⟩;unfold Z6y at H;refine sR Y1 rfl ?_;refine aN Za ?_;refine T.ret ?_;obtain ⟨rfl,rfl⟩:=ret2 H;exact Yd Za (Res.tmp rfl) (Zd Ze (Zd Ze Zg)) ⟨e2,n44,e9,f2,rfl,rfl,g3,g4,g6,g7⟩
theorem Zf8 {n0:Net}{f1:List Int}{s2:List Bool}{a4 a5 a7:Option Addr}{a3 a2 a6 a8 b6 a9:Nat}(w:World)(b7:RS w [] Zx 3 a4 a3 a2 n0.Arcs)(b8:RS w [] iC 1 a5 a6 a8 f1)(c4:RS w [] boolC 1 a7 b6 a9 s2){r0:Int}(H:Z6e n0 f1 s2=some r0):Fnc Tryz.prog 38 #[.agg #[iV n0.N,iV n0.S,iV n0.T,.slice a4 a3 a2],.slice a5 a6 a8,.slice a7 b6 a9] w [] (fun v N=>v=iV r0∧N=[]):=by
 unfold Z6e at H;refine Fnc.enter (vs:=[.agg #[iV n0.N,iV n0.S,iV n0.T,.slice a4 a3 a2],.slice a5 a6 a8,.slice a7 b6 a9]) Tryz.func38 rfl rfl (Inv.refl w) ?_;refine sR Y2 rfl ?_;refine Wa Za ?_;intro b1;refine aN Za ?_;refine Zh ?_;obtain ⟨⟨r6,r7⟩,e8,H⟩:=Zn H;refine rG Y7 rfl ?_;refine Xj Za Xb Zi rfl ?_;refine Zc Za ?_;refine Zc Za ?_;refine Vi (t:=132) [iV 0,iV 0,iV 0,.slice none 0 0,.slice none 0 0,.slice none 0 0,.slice none 0 0] [0,4,5,6] Za (by simp only [Xv,setCells,Value.cells,List.toList_toArray,List.getD_cons_zero,List.getD_cons_succ,List.set_cons_zero,List.set_cons_succ];rfl) (by kernel_rfl) ?_;refine Wa Za ?_;intro b3;refine TO.addNone (.cells (arr iC ([]:List Int) []).toArray 2 (0,0)) ?_;refine Ug (H:=[(eI none ([]:List Int) ([]) 2),(eC b3 #[iV n0.N,iV n0.S,iV n0.T,.slice a4 a3 a2,.slice a5 a6 a8,.slice a7 b6 a9,sV none 0 0] 132),(eC b1 #[iV n0.N,iV n0.S,iV n0.T,.slice a4 a3 a2] 24)]) rfl ?_;refine Z01 Zaa Za (Take.gone Zo (Take.gone Ze (Gone.refl _))) rfl (fun wc hwc=>Za9 (a0:=(CheckAnswer.mk n0 f1 s2 ([]:List Int))) wc (hwc.self (Zd Zo (Zd Ze Zg)) rfl) (b7.monoM (by decide) hwc (Take.gone Zo (Take.gone Ze (Gone.refl _))) rfl) (b8.monoM (by decide) hwc (Take.gone Zo (Take.gone Ze (Gone.refl _))) rfl) (c4.monoM (by decide) hwc (Take.gone Zo (Take.gone Ze (Gone.refl _))) rfl) rfl (Nat.le_refl _) (Xk 0 _) (fun _=>rfl) e8) ?_;rintro _ _ ⟨d3,d4,c11,d5,rfl,rfl,c7,d0,d1,d2⟩;refine aN Za ?_;refine Zm (aT [6] rfl) ?_;refine T.ret ?_;obtain rfl:=ret1 H;exact Yd Za (Res.tmp rfl) Zg ⟨rfl,rfl⟩
theorem Zf6 {n0:Net}{f1:List Int}{s2:List Bool}{a3 a7 a8:Option Addr}{a2 a4 a5 a6 b6 a9:Nat}(w:World)(b7:RS w [] Zx 3 a3 a2 a4 n0.Arcs)(d0:RS w [] iC 1 a7 a5 a6 f1)(d1:RS w [] boolC 1 a8 b6 a9 s2){r0:Int}{r1:Bool}(H:Z9f n0 f1 s2=some (r0,r1)):Fnc Tryz.prog 58 #[.agg #[iV n0.N,iV n0.S,iV n0.T,.slice a3 a2 a4],.slice a7 a5 a6,.slice a8 b6 a9] w [] (fun v N=>v=.tuple #[iV r0,.bool r1]∧N=[]):=by
 unfold Z9f at H;refine Fnc.enter (vs:=[.agg #[iV n0.N,iV n0.S,iV n0.T,.slice a3 a2 a4],.slice a7 a5 a6,.slice a8 b6 a9]) Tryz.func58 rfl rfl (Inv.refl w) ?_;refine sR Y3 rfl ?_;refine Wa Za ?_;intro b1;refine Yc Za ?_;refine aN Za ?_;refine sR Y6 rfl ?_;refine Xj Za Xb Zi rfl ?_;refine Zc Za ?_;refine Zc Za ?_;refine Vi (t:=132) [iV 0,iV 0,iV 0,.slice none 0 0,.slice none 0 0,.slice none 0 0,.slice none 0 0] [0,4,5,6] Za (by simp only [Xv,setCells,Value.cells,List.toList_toArray,List.getD_cons_zero,List.getD_cons_succ,List.set_cons_zero,List.set_cons_succ];rfl) (by kernel_rfl) ?_;refine Wa Za ?_;intro b3;refine aN Za ?_;refine Zm (aT [3,8] rfl) ?_;refine Zh ?_;refine Zh ?_;obtain ⟨⟨r6,r7⟩,e8,H⟩:=Zn H;refine rG Y3 rfl ?_;refine Zc Za ?_;refine TO.addNone (.cells (arr iC ([]:List Int) []).toArray 2 (0,0)) ?_;refine Ug (H:=[(eI none ([]:List Int) ([]) 2),(eC b3 #[iV n0.N,iV n0.S,iV n0.T,.slice a3 a2 a4,.slice a7 a5 a6,.slice a8 b6 a9,sV none 0 0] 132),(eC b1 #[iV n0.N,iV n0.S,iV n0.T,.slice a3 a2 a4] 24)]) rfl ?_;refine Z01 Zaa Za (Take.gone Zo (Take.gone Ze (Gone.refl _))) rfl (fun wc hwc=>Za9 (a0:=(CheckAnswer.mk n0 f1 s2 ([]:List Int))) wc (hwc.self (Zd Zo (Zd Ze Zg)) rfl) (b7.monoM (by decide) hwc (Take.gone Zo (Take.gone Ze (Gone.refl _))) rfl) (d0.monoM (by decide) hwc (Take.gone Zo (Take.gone Ze (Gone.refl _))) rfl) (d1.monoM (by decide) hwc (Take.gone Zo (Take.gone Ze (Gone.refl _))) rfl) rfl (Nat.le_refl _) (Xk 0 _) (fun _=>rfl) e8) ?_;rintro _ _ ⟨d5,d6,c11,d7,rfl,rfl,b8,c4,d4,c7⟩;refine Zq Zl ?_;refine dN ?_;rcases Zp H with ⟨d2,H⟩ | ⟨d2,H⟩
 ·refine Yw rfl d2 ?_;refine sR Y2 rfl ?_;refine Yc Za ?_;refine aN Za ?_;refine T.ret ?_;refine Zy ?_;obtain ⟨rfl,rfl⟩:=ret2 H;exact Xg Za (Res.tmp rfl) (Res.tmp rfl) Zg ⟨rfl,rfl⟩
 ·refine Yu rfl d2 ?_;refine T.skip ?_;refine Zz ?_;refine Zh ?_;obtain ⟨d3,H⟩:=Ya H;refine Wz 6 [0,1,2,3,4,5] rfl Xx (by kernel_rfl) (by kernel_rfl) rfl (by kernel_rfl) ?_;refine TQ.move Za ?_;refine TQ.nilCheck Za ?_;refine Yo Za Z0k ?_;refine Yx Za Vy Zi rfl ?_;refine Yo Za Gn ?_;refine Yx Za Yf Xn rfl ?_;refine TQ.tail [6,7,8,9] Ys ?_;refine Lx c7 c4 b8 d3 Zb Wf We ?_;refine Zbh c7 c4 b8 d3 Za Wp Yl ?_;refine Yc Za ?_;refine aN Za ?_;refine Zm (aT [6,7] rfl) ?_;refine T.ret ?_;obtain ⟨rfl,rfl⟩:=ret2 H;exact Xg Za (Res.tmp rfl) (Res.tmp rfl) Zg ⟨rfl,rfl⟩
theorem No {s0:Str}(w:World)(hG:GK Tryz.prog w []){r0:Plan}{r1:Bool}(H:Ud s0=some (r0,r1)):Fnc Tryz.prog 20 #[.string (bs s0)] w [] (fun v N=>∃ (d0:Option Addr) (e7 e8:Nat) (b6:Option Nat) (b7:List Int) (d5 d6:Nat) (e9:List Value),v=.tuple #[.agg #[iV r0.Workers,iV r0.Limit,.slice d0 e7 e8],.bool r1]∧N=[(eI b6 b7 e9 3)]∧Qu b6 d0 e7 e8 r0.Picks b7 d5 d6∧b7.length=d5∧d5≤d6∧e9.length=(d6-d5)*1∧(b6=none→d6=0)):=by
 unfold Ud at H;refine Fnc.enter (vs:=[.string (bs s0)]) Tryz.func20 rfl rfl (Inv.refl w) ?_;refine sR Y2 rfl ?_;refine Xs Zj Gs ?_;intro b1;refine aN Za ?_;refine Zh ?_;obtain ⟨a2,f8,H⟩:=Zn H;refine rG Y4 rfl ?_;refine Zc Za ?_;refine TO.toB (p:=s0) Za Km Xw TWQSY.v5 ?_;intro b3 c4 j5 g7 f9 g8;refine Zw Z33 Za (fun wc hwc=>Z3n (line0:=(ub s0)) wc (hwc.rs (f:=(intC .u8)) (s:=1) (xs:=(ub s0)) (j:=j5) (fun _=>rfl) Zi rfl f9 Wl) f8) ?_;rintro _ _ ⟨a7,d7,c14,d8,rfl,rfl,a6,d1,g0,d2⟩;refine aN Za ?_;refine Zh ?_;refine Zh ?_;refine Wi (fun (d3:Bool)=>Z1a a2 d3=some (r0,r1)) (fun (d3:Bool)=>[(2,pV b1),(4,sV a7 d7 c14),(20,.bool d3)]) (fun (d3:Bool)=>[(eC b1 #[iV 0,iV 0,.slice none 0 0] 35),(eA a7 Yn a2 d8 9)]) ?_ ?_
 ·
  rcases Zp H with ⟨d9,H⟩ | ⟨d9,H⟩
  ·refine rG Y8 rfl ?_;refine Zc Za ?_;refine Ym (xs:=a2) a6 Zb Xp ?_;refine Zq Zl ?_;refine Zc Za ?_;refine Zu (t:=16) (b':=true) rfl (decide_eq_true d9) ?_;refine Zf Za ?_;refine Zf Za ?_;refine Zf Za ?_;refine Ye Zb ?_;refine Zk ?_;exact Xe true H (aF rfl) (Zd Yt (Zd Ze Zg))
  ·refine rG Y8 rfl ?_;refine Zc Za ?_;refine Ym (xs:=a2) a6 Zb Xp ?_;refine Zq Zl ?_;refine Zc Za ?_;refine Zu (t:=16) (b':=false) rfl (decide_eq_false d9) ?_;refine Zc Za ?_;refine Ym (xs:=a2) a6 Zb Xp ?_;refine Zq Zl ?_;refine Yg Zb ?_;refine Zk ?_;exact Xe (decide (10002<(a2.length:Int))) H (aF rfl) (Zd Yt (Zd Ze Zg))
 ·
  rintro d3 H;unfold Z1a at H;rcases Zp H with ⟨e1,H⟩ | ⟨e1,H⟩
  ·refine Yr rfl e1 ?_;refine sR Y3 rfl ?_;refine Vi (t:=35) [iV 0,iV 0,.slice none 0 0] [0,1,2] Za (by simp only [Xv,setCells,Value.cells,List.toList_toArray,List.getD_cons_zero,List.getD_cons_succ,List.set_cons_zero,List.set_cons_succ];rfl) (by kernel_rfl) ?_;refine Xo Za Ze Jr Zj ?_;refine aN Za ?_;refine T.ret ?_;refine Zy ?_;obtain ⟨rfl,rfl⟩:=ret2 H;exact Xg Za (Ky rfl Nu Zi rfl) (Res.tmp rfl) (Pick.none Zg) ⟨none,0,0,none,([]),0,0,([]),rfl,rfl,(Qu.self none [] 0 0),rfl,(Nat.le_refl _),(Xk 0 _),(fun _=>rfl)⟩
  ·
   refine Xf rfl (Bool.eq_false_iff.2 e1) ?_;refine T.skip ?_;refine Zz ?_;obtain ⟨g1,H⟩:=Ya H;refine sR Y4 rfl ?_;refine Zc Za ?_;refine Ym (xs:=a2) a6 Zb Xp ?_;refine Z1g g1 Zb Xt Wc TWQCY.z3 Z31 rfl ?_;intro a9;refine aN Za ?_;refine Zh ?_;refine sR Y3 rfl ?_;refine Zc Za ?_;refine Ym (xs:=a2) a6 Zb Xp ?_;refine Zc Za ?_;refine dN ?_;refine Wi (fun (a4:List Int)=>Z1t a4=some (r0,r1)∧a4.length=(a2.length:Int).toNat) (fun (a4:List Int)=>[(2,pV b1),(5,nV a9 ((a2.length:Int).toNat) ((a2.length:Int).toNat))]) (fun (a4:List Int)=>[(eC b1 #[iV 0,iV 0,.slice none 0 0] 35),(eI (some a9) a4 ([]) 3)]) ?_ ?_
   ·
    refine T.block ?_;obtain ⟨g2,g3,f0⟩:=Zn H;refine Ld (fun (c7:Nat) (a3:List Int) (a5:Int)=>Xa (fun s=>Z13 a2 s.1 s.2) c7 (a3,a5)=some g2∧a3.length=(a2.length:Int).toNat) (fun (c7:Nat) (a3:List Int) (a5:Int)=>[(2,pV b1),(5,nV a9 ((a2.length:Int).toNat) ((a2.length:Int).toNat)),(25,sV a7 d7 c14),(26,iV (a2.length:Int)),(27,iV a5)]) (fun (c7:Nat) (a3:List Int) (a5:Int)=>[(eC b1 #[iV 0,iV 0,.slice none 0 0] 35),(eI (some a9) a3 ([]) 3),(eA a7 Yn a2 d8 9)]) (fun (c7:Nat) (a3:List Int) (a5:Int)=>c7) Xd (List.replicate ((a2.length:Int).toNat) (0:Int)) 0 ⟨g3,List.length_replicate⟩ (aF rfl) (Zd Zo (Zd Ze (Zd Ze Zg))) ?_;rintro c7 a3 a5 ⟨H,b8⟩;obtain ⟨g4,f2,rfl,H,e2⟩:=Vo H;have H:Z13 a2 a3 a5=some f2:=H;unfold Z13 at H;refine sR Y1 rfl ?_;refine Zq Zl ?_;refine dS ?_;rcases Zp H with ⟨e3,H⟩ | ⟨e3,H⟩
    ·
     refine Yw rfl e3 ?_;refine T.skip ?_;refine Zz ?_;refine Zh ?_;refine T.block ?_;obtain ⟨f3,H⟩:=Ya H;refine sR Y5 rfl ?_;refine Zc Za ?_;refine Lx d2 d1 a6 f3 Zb Xp Ww ?_;refine Z0x (f:=Yn) (v:=.string (bs (a2.getD a5.toNat ([]:Str)))) ([]:Str) (fun _=>rfl) d2 d1 a6 f3 Zb Vc Xn ?_;refine Yc Za ?_;refine aN Za ?_;refine Zh ?_;obtain ⟨⟨e4,g9⟩,g5,H⟩:=Zn H;refine rG Y7 rfl ?_;refine Zc Za ?_;refine Zw Z7w Za (fun wc hwc=>Z82 (s0:=(a2.getD a5.toNat ([]:Str))) wc (hG.mono hwc) g5) ?_;rintro _ _ ⟨rfl,rfl⟩;refine Zc Za ?_;refine TO.extract Zb ?_;refine TO.extract Zb ?_;refine Yc Za ?_;refine aN Za ?_;refine Zm (aT [2,5,25,26,27,6,7,8,9] rfl) ?_;refine Zh ?_;refine Zh ?_;refine Wi (fun (d4:Bool)=>Z0a a3 a5 e4 d4=some f2) (fun (d4:Bool)=>[(2,pV b1),(5,nV a9 ((a2.length:Int).toNat) ((a2.length:Int).toNat)),(6,iV a5),(8,iV e4),(25,sV a7 d7 c14),(26,iV (a2.length:Int)),(27,iV a5),(43,.bool d4)]) (fun (d4:Bool)=>[(eC b1 #[iV 0,iV 0,.slice none 0 0] 35),(eI (some a9) a3 ([]) 3),(eA a7 Yn a2 d8 9)]) ?_ ?_
     ·
      rcases Zp H with ⟨e5,H⟩ | ⟨e5,H⟩
      ·refine rG Y7 rfl ?_;refine Zc Za ?_;refine TO.not Za ?_;refine Zc Za ?_;refine Zu (t:=39) (b':=true) rfl e5 ?_;refine Zf Za ?_;refine Zf Za ?_;refine Zf Za ?_;refine Ye Zb ?_;refine Zk ?_;exact Xe true H (aF rfl) (Zd Ze (Zd Ze (Zd Ze Zg)))
      ·refine rG Y7 rfl ?_;refine Zc Za ?_;refine TO.not Za ?_;refine Zc Za ?_;refine Zu (t:=39) (b':=false) rfl (Bool.eq_false_iff.2 e5) ?_;refine Zc Za ?_;refine Z58 (p:=(a2.getD a5.toNat ([]:Str))) Zb Km ?_;refine Zq Zl ?_;refine Yg Zb ?_;refine Zk ?_;exact Xe (decide (9<((a2.getD a5.toNat ([]:Str)).length:Int))) H (aF rfl) (Zd Ze (Zd Ze (Zd Ze Zg)))
     ·
      rintro d4 H;unfold Z0a at H;rcases Zp H with ⟨e6,H⟩ | ⟨e6,H⟩
      ·refine Yr rfl e6 ?_;refine sR Y3 rfl ?_;refine Vi (t:=35) [iV 0,iV 0,.slice none 0 0] [0,1,2] Za (by simp only [Xv,setCells,Value.cells,List.toList_toArray,List.getD_cons_zero,List.getD_cons_succ,List.set_cons_zero,List.set_cons_succ];rfl) (by kernel_rfl) ?_;refine Xo Za Ze Jr Zj ?_;refine aN Za ?_;refine Zm (aT [2,3] rfl) ?_;refine T.ret ?_;refine Zy ?_;refine Yy ?_;refine Zy ?_;have H:=Wd H e2▸f0;refine Zy ?_;refine Yy ?_;refine Zy ?_;obtain ⟨rfl,rfl⟩:=ret2 H;exact Xg Za (Ky rfl Nu Zi rfl) (Res.tmp rfl) (Pick.none Zg) ⟨none,0,0,none,([]),0,0,([]),rfl,rfl,(Qu.self none [] 0 0),rfl,(Nat.le_refl _),(Xk 0 _),(fun _=>rfl)⟩
      ·refine Xf rfl (Bool.eq_false_iff.2 e6) ?_;refine T.skip ?_;refine Zz ?_;obtain ⟨f4,H⟩:=Ya H;refine rG Y5 rfl ?_;refine Zc Za ?_;refine Zc Za ?_;refine Zc Za ?_;refine Kv b8 f4 Zb Xt Wc ?_;refine Rq f4 Za Zo Wc ?_;refine Zk ?_;refine Yv ?_;refine Zz ?_;obtain ⟨g6,H⟩:=Ya H;refine rG Y2 rfl ?_;refine Xy g6 Zb ?_;refine Zc Za ?_;refine Zk ?_;have H:=Wr H e2;exact Gj g4 (a3.set a5.toNat e4) (a5+1) ⟨H,(List.length_set.trans b8)⟩ (Nat.lt_succ_self _) (aF rfl) (Zd Zo (Zd Ze (Zd Ze Zg)))
    ·refine Yu rfl e3 ?_;refine T.exit ?_;refine Xc ?_;have H:=Wd H e2▸f0;refine Xc ?_;refine Ve ?_;exact Xe a3 ⟨H,b8⟩ (aF rfl) (Zd Ze (Zd Ze Zg))
   ·rintro a4 ⟨H,a8⟩;unfold Z1t at H;refine Zh ?_;obtain ⟨f5,f6,f7,H⟩:=gd3 H;refine Wz 8 [0,1,2,3,4,5,6,7] rfl Xx (by kernel_rfl) (by kernel_rfl) rfl (by kernel_rfl) ?_;refine TQ.move Za ?_;refine Z0c a8 f5 Zb Xt Wc ?_;refine Z0o f5 Za Yf Yl ?_;refine TQ.move Za ?_;refine Z0c a8 f6 Zb Xt Wc ?_;refine Z0o f6 Za Yf Yl ?_;refine TQ.move Za ?_;refine TQ.slL (xs:=a4) a8 f7 Zb Xt Wc ?_;refine TQ.tail [8,9,10] Ys ?_;refine Vi (t:=35) [iV 0,iV 0,.slice none 0 0] [0,1,2] Za (by simp only [Xv,setCells,Value.cells,List.toList_toArray,List.getD_cons_zero,List.getD_cons_succ,List.set_cons_zero,List.set_cons_succ];rfl) (by kernel_rfl) ?_;refine Xo Za Ze Jr Zj ?_;refine aN Za ?_;refine Zm (aT [2,3] rfl) ?_;refine T.ret ?_;obtain ⟨rfl,rfl⟩:=ret2 H;exact Xg Za (Ky rfl Nu Zi rfl) (Res.tmp rfl) (Zd Zo Zg) ⟨(Us (some ⟨a9,0,none⟩) (2:Int).toNat ((a2.length:Int).toNat) 1),((a2.length:Int).toNat - (2:Int).toNat),((a2.length:Int).toNat - (2:Int).toNat),(some a9),a4,((a2.length:Int).toNat),((a2.length:Int).toNat),([]),rfl,rfl,((Qu.self (some a9) a4 ((a2.length:Int).toNat) ((a2.length:Int).toNat)).drop f7 a8 (Nat.le_refl _)),a8,(Nat.le_refl _),(Xk _ _),Wl⟩
theorem Zj3 (w:World){r0:Net}(H:Z74=some r0):Fnc Tryz.prog 47 #[] w [] (fun v N=>∃ (a2:Option Nat) (a3 a4:Nat) (a5:List Value),v=.agg #[iV r0.N,iV r0.S,iV r0.T,sV a2 a3 a4]∧N=[(eA a2 Zx r0.Arcs a5 64)]∧r0.Arcs.length=a3∧a3≤a4∧a5.length=(a4-a3)*3∧(a2=none→a4=0)):=by
 unfold Z74 at H;refine Fnc.enter (vs:=[]) Tryz.func47 rfl rfl (Inv.refl w) ?_;refine sR Y1 rfl ?_;refine Xs Zj Z17 ?_;intro b1;refine dN ?_;refine sR Y2 rfl ?_;refine Vi (t:=24) [iV 0,iV 0,iV 0,.slice none 0 0] [0,1,2,3] Za (by simp only [Xv,setCells,Value.cells,List.toList_toArray,List.getD_cons_zero,List.getD_cons_succ,List.set_cons_zero,List.set_cons_succ];rfl) (by kernel_rfl) ?_;refine Xo Za Ze Lc Zj ?_;refine dN ?_;refine T.ret ?_;obtain rfl:=ret1 H;exact Yd Za (Ky rfl Xb Zi rfl) (Pick.none Zg) ⟨none,0,0,([]),rfl,rfl,rfl,(Nat.le_refl _),(Xk 0 _),(fun _=>rfl)⟩
theorem Zf9 {n0:Net}{p1:Plan}{a5 a7:Option Addr}{a4 a3 a6 a2:Nat}(w:World)(a8:RS w [] Zx 3 a5 a4 a3 n0.Arcs)(a9:RS w [] iC 1 a7 a6 a2 p1.Picks){r0:Int}(H:Z5v n0 p1=some r0):Fnc Tryz.prog 46 #[.agg #[iV n0.N,iV n0.S,iV n0.T,.slice a5 a4 a3],.agg #[iV p1.Workers,iV p1.Limit,.slice a7 a6 a2]] w [] (fun v N=>v=iV r0∧N=[]):=by
 unfold Z5v at H;refine Fnc.enter (vs:=[.agg #[iV n0.N,iV n0.S,iV n0.T,.slice a5 a4 a3],.agg #[iV p1.Workers,iV p1.Limit,.slice a7 a6 a2]]) Tryz.func46 rfl rfl (Inv.refl w) ?_;refine sR Y3 rfl ?_;refine Wa Za ?_;intro b1;refine Wa Za ?_;intro b3;refine aN Za ?_;refine Zh ?_;refine T.block ?_;refine Zh ?_;refine Wi (fun (x6:Bool)=>Z4q n0 p1 x6=some r0) (fun (x6:Bool)=>[(2,pV b1),(3,pV b3),(5,.bool x6)]) (fun (x6:Bool)=>[(eC b1 #[iV n0.N,iV n0.S,iV n0.T,.slice a5 a4 a3] 24),(eC b3 #[iV p1.Workers,iV p1.Limit,.slice a7 a6 a2] 35)]) ?_ ?_
 ·
  rcases Zp H with ⟨g5,H⟩ | ⟨g5,H⟩
  ·refine rG Y9 rfl ?_;refine Zs Za Ko ?_;refine Zt Za Yf Zi rfl ?_;refine Zq Zl ?_;refine Zc Za ?_;refine Zu (t:=9) (b':=true) rfl (decide_eq_true g5) ?_;refine Zf Za ?_;refine Zf Za ?_;refine Zf Za ?_;refine Ye Zb ?_;refine Yc Za ?_;refine Zk ?_;exact Xe true H (aF rfl) (Zd Zo (Zd Ze Zg))
  ·refine rG Y9 rfl ?_;refine Zs Za Ko ?_;refine Zt Za Yf Zi rfl ?_;refine Zq Zl ?_;refine Zc Za ?_;refine Zu (t:=9) (b':=false) rfl (decide_eq_false g5) ?_;refine Zs Za Ko ?_;refine Zt Za Yf Zi rfl ?_;refine Zq Zl ?_;refine Yg Zb ?_;refine Yc Za ?_;refine Zk ?_;exact Xe (decide (64<p1.Workers)) H (aF rfl) (Zd Zo (Zd Ze Zg))
 ·
  rintro x6 H;unfold Z4q at H;rcases Zp H with ⟨g7,H⟩ | ⟨g7,H⟩
  ·refine Yr rfl g7 ?_;refine sR Y1 rfl ?_;refine aN Za ?_;refine T.ret ?_;refine Yy ?_;refine Zy ?_;obtain rfl:=ret1 H;exact Yd Za (Res.tmp rfl) Zg ⟨rfl,rfl⟩
  ·
   refine Xf rfl (Bool.eq_false_iff.2 g7) ?_;refine sR Y4 rfl ?_;refine Zs Za Nn ?_;refine Zt Za Yf Yl rfl ?_;refine Zq Zl ?_;refine aN Za ?_;rcases Zp H with ⟨g8,H⟩ | ⟨g8,H⟩
   ·refine Yw rfl g8 ?_;refine sR Y1 rfl ?_;refine aN Za ?_;refine T.ret ?_;refine Yy ?_;refine Zy ?_;obtain rfl:=ret1 H;exact Yd Za (Res.tmp rfl) Zg ⟨rfl,rfl⟩
   ·refine Yu rfl g8 ?_;refine T.skip ?_;refine Yv ?_;refine Zz ?_;refine Zh ?_;obtain ⟨r9,b6,H⟩:=Zn H;refine rG Y3 rfl ?_;refine Xj Za Xb Zi rfl ?_;refine Zw Nr Za (fun wc hwc=>La (n0:=n0) wc (a8.mono hwc) b6) ?_;rintro _ _ ⟨rfl,rfl⟩;refine aN Za ?_;refine Zm (aT [4] rfl) ?_;refine T.ret ?_;obtain rfl:=ret1 H;exact Yd Za (Res.tmp rfl) Zg ⟨rfl,rfl⟩
theorem Zh8 {b0:List Int}{p1:Plan}{d0 a4:Option Addr}{b8 c4 a2 a3:Nat}(w:World)(d8:RS w [] (intC .u8) 1 d0 b8 c4 b0)(a5:RS w [] iC 1 a4 a2 a3 p1.Picks)(hG:GK Tryz.prog w []){r0:List Int}{r1:Int}(H:Z6d b0 p1=some (r0,r1)):Fnc Tryz.prog 19 #[.slice d0 b8 c4,.agg #[iV p1.Workers,iV p1.Limit,.slice a4 a2 a3]] w [] (fun v N=>∃ (a6:Option Nat) (d6 d7:Nat) (g5:List Value),v=.tuple #[sV a6 d6 d7,iV r1]∧N=[(eA a6 (intC .u8) r0 g5 5)]∧r0.length=d6∧d6≤d7∧g5.length=(d7-d6)*1∧(a6=none→d7=0)):=by
 unfold Z6d at H;refine Fnc.enter (vs:=[.slice d0 b8 c4,.agg #[iV p1.Workers,iV p1.Limit,.slice a4 a2 a3]]) Tryz.func19 rfl rfl (Inv.refl w) ?_;refine sR Y3 rfl ?_;refine Wa Za ?_;intro b1;refine Yc Za ?_;refine aN Za ?_;refine Zh ?_;refine Zh ?_;obtain ⟨r3,e4,H⟩:=Zn H;obtain ⟨j7,h3,H⟩:=Zn H;apply Z47 [⟨[],false,[],fun _ v e=>∃ (d1:Option Nat) (n6 c7:Nat) (j8:List Value),v=.agg #[iV r3.N,iV r3.S,iV r3.T,sV d1 n6 c7]∧e=[(eA d1 Zx r3.Arcs j8 64)]∧r3.Arcs.length=n6∧n6≤c7∧j8.length=(c7 - n6)*3∧(d1=none→c7=0)⟩,rV [] _] [13,14] 2 (HRk [[]]) [[]] [] [(eC b1 #[iV p1.Workers,iV p1.Limit,.slice a4 a2 a3] 35)]
 ·exact Xx
 ·exact rfl
 ·kernel_rfl
 ·kernel_rfl
 ·kernel_rfl
 ·exact rfl
 ·exact rfl
 ·exact rfl
 ·exact rfl
 ·exact Vh (by repeat constructor)
 ·
  refine ⟨?_,?_,trivial⟩
  ·rintro vs es Es Hx -;refine Yj (D:=[]) rfl ?_;refine Zw Zf3 Za (fun wc hwc=>Zj3  wc  e4) ?_;rintro _ _ ⟨d1,n6,c7,j8,rfl,rfl,d9,a7,d2,a8⟩;refine Zk ?_;exact Yp rfl ⟨d1,n6,c7,j8,rfl,rfl,d9,a7,d2,a8⟩ (Vh (by repeat constructor)) rfl
  ·rintro vs es Es Hx -;refine Yj (D:=[]) rfl ?_;refine Xj Za Nu Zi rfl ?_;refine Zk ?_;exact Yp rfl ⟨rfl,rfl⟩ (Zv _) rfl
 ·
  rintro vs es hb ⟨⟨d1,n6,c7,j8,g6,g7,d9,a7,d2,a8⟩,⟨g8,g9⟩,-⟩ hHR;obtain rfl:hb=[]:=hHR;refine Yj (D:=[(13,vs 0),(14,vs 1)]) rfl ?_;refine Ug (H:=_++(_++(es 0++(es 1++([]))))) rfl ?_;rw [g7,g9];rw [g6,g8];clear g8 g6 g7 g9;refine Zw Zf5 Za (fun wc hwc=>Zf9 (n0:=r3) (p1:=p1) wc (hwc.rs (f:=Zx) (s:=3) (xs:=r3.Arcs) (j:=j8) (fun _=>rfl) Yl d9 a7 a8) (a5.mono hwc) h3) ?_;rintro _ _ ⟨rfl,rfl⟩;refine aN Za ?_;refine sR Y2 rfl ?_;refine Zc Za ?_;refine Zq Zl ?_;refine dN ?_;rcases Zp H with ⟨e1,H⟩ | ⟨e1,H⟩
  ·refine Yw rfl e1 ?_;refine sR Y3 rfl ?_;refine Zc Za ?_;refine Yc Za ?_;refine aN Za ?_;refine Zm (aT [4,5] rfl) ?_;refine T.ret ?_;refine Zy ?_;obtain ⟨rfl,rfl⟩:=ret2 H;exact Xg Za (Res.tmp rfl) (Res.tmp rfl) (Pick.none Zg) ⟨none,0,0,([]),rfl,rfl,rfl,(Nat.le_refl _),(Xk 0 _),(fun _=>rfl)⟩
  ·
   refine Yu rfl e1 ?_;refine T.skip ?_;refine Zz ?_;refine Zm (aT [0,3] rfl) ?_;refine Zh ?_;obtain ⟨⟨d3,j9⟩,h4,H⟩:=Zn H;refine rG Y8 rfl ?_;refine Zc Za ?_;refine Zw Zag Za (fun wc hwc=>Zdm (b0:=b0) wc (d8.mono hwc) (hG.mono hwc) h4) ?_;rintro _ _ ⟨h5,k1,c22,k2,rfl,rfl,a9,b6,e2,b7⟩;refine Zc Za ?_;refine TO.extract Zb ?_;refine TO.extract Zb ?_;refine Xs Zj Z17 ?_;intro k3;refine Xo Za Ze Lc Zj ?_;refine aN Za ?_;refine Zh ?_;refine sR Y2 rfl ?_;refine Zc Za ?_;refine Zq Zl ?_;refine dN ?_;rcases Zp H with ⟨e3,H⟩ | ⟨e3,H⟩
   ·refine Yw rfl e3 ?_;refine sR Y3 rfl ?_;refine Zc Za ?_;refine Yc Za ?_;refine aN Za ?_;refine Zm (aT [4,5] rfl) ?_;refine T.ret ?_;refine Zy ?_;obtain ⟨rfl,rfl⟩:=ret2 H;exact Xg Za (Res.tmp rfl) (Res.tmp rfl) (Pick.none Zg) ⟨none,0,0,([]),rfl,rfl,rfl,(Nat.le_refl _),(Xk 0 _),(fun _=>rfl)⟩
   ·
    refine Yu rfl e3 ?_;refine T.skip ?_;refine Zz ?_;refine Zm (aT [3,7] rfl) ?_;refine Zh ?_;obtain ⟨⟨h0,k4,k5⟩,h6,H⟩:=Zn H;refine rG Y12 rfl ?_;refine Xj Za Xb Zi rfl ?_;refine Xj Za Nu Xn rfl ?_;refine Z01 Zj4 Za (Take.gone Zo (Gone.refl _)) rfl (fun wc hwc=>Zfq (n0:=d3) (p1:=p1) wc (hwc.self (Zd Zo Zg) rfl) a9 b6 e2 b7 (a5.monoM (by decide) hwc (Take.gone Zo (Gone.refl _)) rfl) h6) ?_;rintro _ _ ⟨h1,h7,k6,k7,k8,h8,k9,l1,l3,rfl,rfl,h9,e5,e6,i4,e7,e8,e9,i5,f0⟩;refine Zc Za ?_;refine TO.extract Zb ?_;refine TO.extract Zb ?_;refine TO.extract Zb ?_;refine Xs Zj Zfy ?_;intro l4;refine Xs Zj Zhr ?_;intro l5;refine Xo Za Zo Zeh Zj ?_;refine Xo Za Zo Zgc Zj ?_;refine aN Za ?_;refine Zm (aT [7,9,8] rfl) ?_;refine Zh ?_;refine sR Y2 rfl ?_;refine Zc Za ?_;refine Zq Zl ?_;refine dN ?_;rcases Zp H with ⟨f2,H⟩ | ⟨f2,H⟩
    ·refine Yw rfl f2 ?_;refine sR Y3 rfl ?_;refine Zc Za ?_;refine Yc Za ?_;refine aN Za ?_;refine T.ret ?_;refine Zy ?_;obtain ⟨rfl,rfl⟩:=ret2 H;exact Xg Za (Res.tmp rfl) (Res.tmp rfl) (Pick.none Zg) ⟨none,0,0,([]),rfl,rfl,rfl,(Nat.le_refl _),(Xk 0 _),(fun _=>rfl)⟩
    ·
     refine Yu rfl f2 ?_;refine T.skip ?_;refine Zz ?_;refine Zh ?_;obtain ⟨⟨i6,l6⟩,i7,H⟩:=Zn H;refine rG Y9 rfl ?_;refine Xj Za Xb Vf rfl ?_;refine Zs Za Zfa ?_;refine Zt Za Vy Yl rfl ?_;refine Zw Ziy Za (fun wc hwc=>Zfv (n0:=d3) (f1:=h0.Flow) wc (hwc.rs (f:=Zx) (s:=3) (xs:=d3.Arcs) (j:=h1) (fun _=>rfl) Xn a9 b6 b7) (rsI hwc Uo e5 e6 e7) (hG.mono hwc) i7) ?_;rintro _ _ ⟨f3,i8,l7,i9,rfl,rfl,d4,f4,f5,f6⟩;refine Zc Za ?_;refine TO.extract Zb ?_;refine TO.extract Zb ?_;refine Yc Za ?_;refine aN Za ?_;refine Zm (aT [7,9,8,11] rfl) ?_;refine Zh ?_;refine sR Y2 rfl ?_;refine Zc Za ?_;refine Zq Zl ?_;refine dN ?_;rcases Zp H with ⟨f7,H⟩ | ⟨f7,H⟩
     ·refine Yw rfl f7 ?_;refine sR Y3 rfl ?_;refine Zc Za ?_;refine Yc Za ?_;refine aN Za ?_;refine T.ret ?_;refine Zy ?_;obtain ⟨rfl,rfl⟩:=ret2 H;exact Xg Za (Res.tmp rfl) (Res.tmp rfl) (Pick.none Zg) ⟨none,0,0,([]),rfl,rfl,rfl,(Nat.le_refl _),(Xk 0 _),(fun _=>rfl)⟩
     ·
      refine Yu rfl f7 ?_;refine T.skip ?_;refine Zz ?_;refine Zh ?_;obtain ⟨⟨h2,l8⟩,j0,H⟩:=Zn H;refine rG Y9 rfl ?_;refine Xj Za Xb mm6 rfl ?_;refine Zs Za Zeg ?_;refine Zt Za Jl Xn rfl ?_;refine Zw Zej Za (fun wc hwc=>Zdp (n0:=d3) (s1:=h0.Side) wc (hwc.rs (f:=Zx) (s:=3) (xs:=d3.Arcs) (j:=h1) (fun _=>rfl) Uo a9 b6 b7) (rsB hwc Vf e8 e9 f0) (hG.mono hwc) j0) ?_;rintro _ _ ⟨j1,j2,c79,j3,rfl,rfl,d5,f8,j4,f9⟩;refine Zc Za ?_;refine TO.extract Zb ?_;refine TO.extract Zb ?_;refine Yc Za ?_;refine aN Za ?_;refine Zm (aT [8,11,12] rfl) ?_;refine Zh ?_;refine sR Y2 rfl ?_;refine Zc Za ?_;refine Zq Zl ?_;refine dN ?_;rcases Zp H with ⟨g0,H⟩ | ⟨g0,H⟩
      ·refine Yw rfl g0 ?_;refine sR Y3 rfl ?_;refine Zc Za ?_;refine Yc Za ?_;refine aN Za ?_;refine T.ret ?_;refine Zy ?_;obtain ⟨rfl,rfl⟩:=ret2 H;exact Xg Za (Res.tmp rfl) (Res.tmp rfl) (Pick.none Zg) ⟨none,0,0,([]),rfl,rfl,rfl,(Nat.le_refl _),(Xk 0 _),(fun _=>rfl)⟩
      ·refine Yu rfl g0 ?_;refine T.skip ?_;refine Zz ?_;obtain ⟨j5,H⟩:=Ya H;refine sR Y5 rfl ?_;refine Zc Za ?_;refine Zc Za ?_;refine Z1y (f:=(intC .u8)) (s:=1) (xs:=i6) (ob:=f3) (j:=i9) (ys:=h2) (fun _=>rfl) (fun _=>rfl) Zgj j5 Zb Zo d4 f4 f5 f6 (fun wc hwc=>(hwc.rs (f:=(intC .u8)) (s:=1) (xs:=h2) (j:=j3) (fun _=>rfl) Zi d5 f8 f9)) ?_;intro g1 c89 j6 g2 g3 g4;refine Yc Za ?_;refine aN Za ?_;refine Zm (aT [4,5] rfl) ?_;refine T.ret ?_;obtain ⟨rfl,rfl⟩:=ret2 H;exact Xg Za (Res.tmp rfl) (Res.tmp rfl) (Zd Ze Zg) ⟨g1,(i8+j2),c89,j6,rfl,rfl,(Ny d4 d5),g2,g3,g4⟩
theorem Zct {e0:Int}(w:World)(hG:GK Tryz.prog w []){r0:List Int}(H:Z37 e0=some r0):Fnc Tryz.prog 29 #[iV e0] w [] (fun v N=>∃ (a2:Option Nat) (a3 a4:Nat) (a7:List Value) (a5:Nat×Nat),v=sV a2 a3 a4∧N=[(a2,.cells (arr (intC .u8) r0 a7).toArray 5 a5)]∧r0.length=a3∧a3≤a4∧a7.length=(a4-a3)*1∧(a2=none→a4=0)):=by
 unfold Z37 at H;refine Fnc.enter (vs:=[iV e0]) Tryz.func29 rfl rfl (Inv.refl w) ?_;refine sR Y1 rfl ?_;refine aN Za ?_;refine Zh ?_;obtain ⟨r1,e2,H⟩:=Zn H;obtain ⟨g3,g4,H⟩:=Jh H;refine rG Y6 rfl ?_;refine Zc Za ?_;refine Zw Lk Za (fun wc hwc=>Ll (i0:=e0) wc (hG.mono hwc) e2) ?_;rintro _ _ ⟨rfl,rfl⟩;refine Jo (p:=([101,114,114,111,114,32]:Str)) (q:=r1) g3 Zb ?_;refine Jo (p:=(([101,114,114,111,114,32]:Str)++r1)) (q:=([10]:Str)) g4 Zb ?_;refine TO.toB (p:=((([101,114,114,111,114,32]:Str)++r1)++([10]:Str))) Za Km Xw TWQSY.v5 ?_;intro b5 c6 j7 a8 a9 a6;refine aN Za ?_;refine T.ret ?_;obtain rfl:=ret1 H;exact Yd Za (Res.tmp rfl) (Zd Ze Zg) ⟨(some b5),((ub ((([101,114,114,111,114,32]:Str)++r1)++([10]:Str))).length),c6,j7,a8,rfl,rfl,rfl,a9,a6,Wl⟩
theorem Z0e {plan0:Str}{b1:List Int}{a3:Option Addr}{a5 a4:Nat}(w:World)(a8:RS w [] (intC .u8) 1 a3 a5 a4 b1)(hG:GK Tryz.prog w []){r0:List Int}(H:Z1v plan0 b1=some r0):Fnc Tryz.prog 8 #[.string (bs plan0),.slice a3 a5 a4] w [] (fun v N=>∃ (a2:Option Nat) (a6 a7:Nat) (f0:List Value) (a9:Nat×Nat),v=sV a2 a6 a7∧N=[(a2,.cells (arr (intC .u8) r0 f0).toArray 5 a9)]∧r0.length=a6∧a6≤a7∧f0.length=(a7-a6)*1∧(a2=none→a7=0)):=by
 unfold Z1v at H;refine Fnc.enter (vs:=[.string (bs plan0),.slice a3 a5 a4]) Tryz.func8 rfl rfl (Inv.refl w) ?_;refine sR Y1 rfl ?_;refine aN Za ?_;refine Zh ?_;obtain ⟨⟨r1,r2⟩,e3,H⟩:=Zn H;refine rG Y8 rfl ?_;refine Zc Za ?_;refine Zw Nc Za (fun wc hwc=>No (s0:=plan0) wc (hG.mono hwc) e3) ?_;rintro _ _ ⟨g3,n5,c6,g4,g5,N9,g6,g7,rfl,rfl,b6,b7,b8,f2,c4⟩;refine Zc Za ?_;refine TO.extract Zb ?_;refine TO.extract Zb ?_;refine Xs Zj Gs ?_;intro g8;refine Xo Za Ze Jr Zj ?_;refine aN Za ?_;refine Zh ?_;refine sR Y2 rfl ?_;refine Zc Za ?_;refine TO.not Za ?_;refine dN ?_;refine Zm (aT [1,5,15] rfl) ?_;rcases Zp H with ⟨c7,H⟩ | ⟨c7,H⟩
 ·refine Yr rfl c7 ?_;refine Zh ?_;obtain ⟨g9,f3,H⟩:=Zn H;refine rG Y2 rfl ?_;refine Zw Zc3 Za (fun wc hwc=>Zct (e0:=70) wc (hG.mono hwc) f3) ?_;rintro _ _ ⟨d0,n24,f4,f5,d1,rfl,rfl,d2,d3,d4,d5⟩;refine aN Za ?_;refine T.ret ?_;refine Zy ?_;obtain rfl:=ret1 H;exact Yd Za (Res.tmp rfl) (Zd Ze Zg) ⟨d0,n24,f4,f5,d1,rfl,rfl,d2,d3,d4,d5⟩
 ·
  refine Xf rfl (Bool.eq_false_iff.2 c7) ?_;refine T.skip ?_;refine Zz ?_;refine Zh ?_;obtain ⟨⟨h0,f6⟩,f7,H⟩:=Zn H;refine rG Y8 rfl ?_;refine Zc Za ?_;refine Xj Za Nu Zi rfl ?_;refine Zw Zhf Za (fun wc hwc=>Zh8 (b0:=b1) (p1:=r1) wc (a8.mono hwc) (b6.rs hwc (fun _=>rfl) Yl b7 b8 c4) (hG.mono hwc) f7) ?_;rintro _ _ ⟨d6,f8,c38,f9,rfl,rfl,d7,d8,d9,e1⟩;refine Zc Za ?_;refine TO.extract Zb ?_;refine TO.extract Zb ?_;refine Yc Za ?_;refine aN Za ?_;refine Zm (aT [7,8] rfl) ?_;refine Zh ?_;refine sR Y2 rfl ?_;refine Zc Za ?_;refine Zq Zl ?_;refine dN ?_;rcases Zp H with ⟨e2,H⟩ | ⟨e2,H⟩
  ·refine Yw rfl e2 ?_;refine Zh ?_;obtain ⟨h1,g0,H⟩:=Zn H;refine rG Y3 rfl ?_;refine Zc Za ?_;refine Zw Zc3 Za (fun wc hwc=>Zct (e0:=f6) wc (hG.mono hwc) g0) ?_;rintro _ _ ⟨e4,g1,c50,g2,e5,rfl,rfl,e6,e7,e8,e9⟩;refine aN Za ?_;refine T.ret ?_;refine Zy ?_;obtain rfl:=ret1 H;exact Yd Za (Res.tmp rfl) (Zd Ze Zg) ⟨e4,g1,c50,g2,e5,rfl,rfl,e6,e7,e8,e9⟩
  ·refine Yu rfl e2 ?_;refine T.skip ?_;refine Zz ?_;refine sR Y2 rfl ?_;refine Zc Za ?_;refine aN Za ?_;refine T.ret ?_;obtain rfl:=ret1 H;exact Yd Za (Res.tmp rfl) (Zd Ze Zg) ⟨d6,f8,c38,f9,(0,0),rfl,rfl,d7,d8,d9,e1⟩
theorem Zi7 {out0:List Int}{a8:Option Addr}{a7 a9:Nat}(w:World)(a6:RS w [] (intC .u8) 1 a8 a7 a9 out0){r0:List Int}{r1:List Int}(H:Z8o out0=some (r0,r1)):Fnc Tryz.prog 57 #[.slice a8 a7 a9] w [] (fun v N=>∃ (f9:Option Nat) (h1 h2:Nat) (k9:List Value) (g0:Option Nat) (h3 h4:Nat) (l1:List Value),v=.tuple #[sV f9 h1 h2,sV g0 h3 h4]∧N=[(eA f9 (intC .u8) r0 k9 5),(eA g0 (intC .u8) r1 l1 5)]∧r0.length=h1∧h1≤h2∧k9.length=(h2-h1)*1∧(f9=none→h2=0)∧r1.length=h3∧h3≤h4∧l1.length=(h4-h3)*1∧(g0=none→h4=0)):=by
 unfold Z8o at H;refine Z2r (vs:=[.slice a8 a7 a9]) Tryz.func57 rfl rfl (Inv.refl w) ?_;refine sR Y2 rfl ?_;refine Yc Za ?_;refine aN Za ?_;refine sR Y1 rfl ?_;refine Xs Zj Zey ?_;intro b1;refine dS ?_;refine Zh ?_;obtain ⟨⟨⟩,e5,H⟩:=Zn H;refine rG Y3 rfl ?_;refine Zc Za ?_;refine Jc [.int .u8 0] [0] Za Xw Kp TWQSY.z5 Ys (by simp only [Xv,setCells,Value.cells,List.toList_toArray,List.getD_cons_zero,List.getD_cons_succ,List.set_cons_zero,List.set_cons_succ];rfl) (by kernel_rfl) ?_;intro b3;refine Zw Z6k Za (fun wc hwc=>Z6w (s0:=out0) (sep1:=[10]) wc (a6.mono hwc) (hwc.rs (f:=(intC .u8)) (s:=1) (xs:=[10]) (j:=([])) (fun _=>rfl) Zi rfl (Nat.le_refl _) Wl) e5) ?_;rintro _ _ ⟨b6,b7,b8,rfl,rfl⟩;refine dN ?_;refine T.block ?_;obtain ⟨l9,m0,m1⟩:=Zn H;refine Z3t (S:=(List Int×List Int)) (X:=(Empty)) (V:=List Int) rfl Z5n Ys (fun w M v vals=>∃ (b0:Option Addr) (n0 c0:Nat),vals=[.slice b0 n0 c0]∧RS w M (intC .u8) 1 b0 n0 c0 v) (by rintro _ _ _ _ ⟨_,_,_,rfl,_⟩;rfl) (fun s v=>Z2j s.1 s.2 v) (fun t Hq=>match t with | .inl (c4,c7)=>∃ (a5 c14:Nat) (a2:Option Nat) (d1:List Value) (n24 a4:Nat) (a3:Option Nat) (d2:List Value),Hq=[(eC b1 #[sV a2 a5 c14,iV 0,.int .i8 0,sV a3 n24 a4,iV 0,.int .i8 0] 185),(eA a2 (intC .u8) c4 d1 5),(eA a3 (intC .u8) c7 d2 5)]∧c4.length=a5∧a5≤c14∧d1.length=(c14 - a5)*1∧(a2=none→c14=0)∧BufS a2 c14∧c7.length=n24∧n24≤a4∧d2.length=(a4 - n24)*1∧(a3=none→a4=0)∧BufS a3 a4 | .inr x=>nomatch x) (fun HE_=>∃ (h5:Option Addr) (h6 h7:Nat),HE_=[(eC b7 #[.slice h5 h6 h7] 27)]) (fun HE_=>∃ (d7:Option Addr) (d8 d9:Nat),HE_=[(eC b7 #[.slice d7 d8 d9] 27)]) (fun x=>nomatch x) ([],[]) l9 [(eC b1 #[.slice none 0 0,iV 0,.int .i8 0,.slice none 0 0,iV 0,.int .i8 0] 185),(eA none (intC .u8) [] [] 5),(eA none (intC .u8) [] [] 5)] [(eC b7 #[.slice a8 a7 a9] 27)] [(eC b6 #[nV b3 1 1] 27),(eC b8 #[iV 0] 3),(eA (some b3) (intC .u8) ([10]) ([]) 5)] ⟨0,0,none,([]),0,0,none,([]),rfl,rfl,(Nat.le_refl _),(Xk 0 _),(fun _=>rfl),BufS.nil,rfl,(Nat.le_refl _),(Xk 0 _),(fun _=>rfl),BufS.nil⟩ (Zd Zo (Zd Ze (Zd Ze (Zd Ze (Zd Ze (Pick.none (Pick.none (Zv _)))))))) ?_ ?_ ?_ ?_
 ·intro lp wc J_ H0_ hJ_ hin_ hY_ lo_ hwc m2;subst m2;exact Zb1 (yy_:=(fun s v=>Z2j s.1 s.2 v)) (c1:=[10]) (c2:=out0) (c3:=0) (tt_:=.inl ([],[])) (J_:=J_) wc hin_ hJ_ hY_ (hwc.rsM (f:=(intC .u8)) (s:=1) (xs:=[10]) (j:=([])) (fun _=>rfl) (List.Perm.refl _) rfl Xn rfl (Nat.le_refl _) Wl) (hwc.hbM (cs:=[nV b3 1 1]) (List.Perm.refl _) rfl Zi) (a6.monoM (by decide) hwc (List.Perm.refl _) rfl) (hwc.hbM (cs:=[iV 0]) (List.Perm.refl _) rfl Yl) m0
 ·
  rintro lp o1 ⟨c4,c7⟩ d3 l3 _ _ _ hy ⟨a5,c14,a2,d1,n24,a4,a3,d2,rfl,e8,e1,e9,e2,f0,f2,e3,f3,e4,f4⟩ ⟨d4,d5,d6,rfl⟩ ⟨f5,f6,f7,rfl,d0⟩ m3 m4;refine rG Y1 rfl ?_;refine Yc Za ?_;refine Zk ?_;refine Z29 [(4,pV b1),(11,.slice f5 f6 f7),(5,.slice f5 f6 f7)] [(eC b7 #[.slice d4 d5 d6] 27),(eC b1 #[sV a2 a5 c14,iV 0,.int .i8 0,sV a3 n24 a4,iV 0,.int .i8 0] 185),(eA a2 (intC .u8) c4 d1 5),(eA a3 (intC .u8) c7 d2 5)] (aF rfl) (Zv _) ?_;intro o4 m5 hwc m6;have a6:=a6.monoM (by decide) hwc (List.Perm.refl _) rfl;have d0:=d0.monoM (by decide) m6 (List.Perm.of_eq (List.append_nil _).symm) rfl;have H:Z2j c4 c7 d3=some l3:=hy;unfold Z2j at H;refine T.block ?_;refine sR Y2 rfl ?_;refine Z4e (o2:=0) Zb Z4w Z4g (by decide) (by decide) rfl ?_;refine aN Za ?_;refine Zh ?_;refine Zh ?_;obtain ⟨g3,m7,H⟩:=Zn H;refine rG Y3 rfl ?_;refine Zc Za ?_;refine Zw Z33 Za (fun wc hwc=>Z3n (line0:=d3) wc (d0.mono hwc) m7) ?_;rintro _ _ ⟨m8,o5,c49,o6,rfl,rfl,f8,g4,m9,g5⟩;refine aN Za ?_;refine Zh ?_;refine Wi (fun (g6:Bool)=>Z41 c4 c7 d3 g6=some l3) (fun (g6:Bool)=>[(4,pV b1),(5,.slice f5 f6 f7),(6,pV b1),(11,.slice f5 f6 f7),(23,.bool g6)]) (fun (g6:Bool)=>[(eC b1 #[sV a2 a5 c14,iV 0,.int .i8 0,sV a3 n24 a4,iV 0,.int .i8 0] 185),(eA a2 (intC .u8) c4 d1 5),(eA a3 (intC .u8) c7 d2 5),(eC b7 #[.slice d4 d5 d6] 27)]) ?_ ?_
  ·
   rcases Zp H with ⟨h8,H⟩ | ⟨h8,H⟩
   ·obtain ⟨l4,H⟩:=Ya H;refine rG Y9 rfl ?_;refine Zc Za ?_;refine Ym (xs:=g3) f8 Zb Xp ?_;refine Zq Zl ?_;refine Zc Za ?_;refine Zu (t:=18) (b':=true) rfl (decide_eq_true h8) ?_;refine Zc Za ?_;refine Lx g5 g4 f8 l4 Zb Xp Ww ?_;refine Z0x (f:=Yn) (v:=.string (bs (g3.getD (0:Int).toNat ([]:Str)))) ([]:Str) (fun _=>rfl) g5 g4 f8 l4 Zb Vc Zi ?_;refine Vq (p:=(g3.getD (0:Int).toNat ([]:Str))) (q:=([107]:Str)) Zb ?_;refine Ye Zb ?_;refine Zk ?_;exact Xe (decide ((g3.getD (0:Int).toNat ([]:Str))=([107]:Str))) H (aF rfl) (Zd Yt (Zd Yt (Zd Yt (Zd Zo Zg))))
   ·refine rG Y9 rfl ?_;refine Zc Za ?_;refine Ym (xs:=g3) f8 Zb Xp ?_;refine Zq Zl ?_;refine Zc Za ?_;refine Zu (t:=18) (b':=false) rfl (decide_eq_false h8) ?_;refine Zf Za ?_;refine Zf Za ?_;refine Zf Za ?_;refine Zf Za ?_;refine Yg Zb ?_;refine Zk ?_;exact Xe false H (aF rfl) (Zd Yt (Zd Yt (Zd Yt (Zd Zo Zg))))
  ·
   rintro g6 H;unfold Z41 at H;rcases Zp H with ⟨h9,H⟩ | ⟨h9,H⟩
   ·refine Yr rfl h9 ?_;refine rG Y2 rfl ?_;refine Z4e (o2:=3) Zb Z4w Z4g (by decide) (by decide) rfl ?_;refine aN Za ?_;obtain ⟨n6,H⟩:=Ya H;refine sR Y3 rfl ?_;refine Zc Za ?_;refine Zc Za ?_;refine TO.bwW (ρ:=Z78) (ss:=d3) (xs:=c7) (j:=d2) (cs:=[sV a2 a5 c14,iV 0,.int .i8 0,sV a3 n24 a4,iV 0,.int .i8 0]) (q:=3) Zb7 n6 Zb9 Zb (fun wc hwc=>(d0.mono hwc)) Ze Zo Za f2 e3 f3 e4 f4 ?_;intro g1 l5 c63 l6 i4 i5 i6 i7 i9;refine Ug (H:=[(eC b1 #[sV a2 a5 c14,iV 0,.int .i8 0,sV g1 l5 c63,iV 0,.int .i8 0] 185),(eA g1 (intC .u8) (c7++d3) l6 5),(eA a2 (intC .u8) c4 d1 5),(eC b7 #[.slice d4 d5 d6] 27)]) rfl ?_;refine dN ?_;obtain ⟨n7,H⟩:=Ya H;refine rG Y2 rfl ?_;refine Zc Za ?_;refine TO.bwB (ρ:=Z5q) (z:=10) (xs:=(c7++d3)) (j:=l6) (cs:=[sV a2 a5 c14,iV 0,.int .i8 0,sV g1 l5 c63,iV 0,.int .i8 0]) (q:=3) Zbm n7 Za3 Zb Ze Ze Zj i4 i5 i6 i7 i9 ?_;intro e6 j0 j1 j2 j3 j4 j5 j6 j7;refine Ug (H:=[(eC b1 #[sV a2 a5 c14,iV 0,.int .i8 0,sV e6 j0 j1,iV 0,.int .i8 0] 185),(eA e6 (intC .u8) ((c7++d3)++([10])) j2 5),(eA a2 (intC .u8) c4 d1 5),(eC b7 #[.slice d4 d5 d6] 27)]) rfl ?_;refine Zk ?_;refine Yv ?_;exact Lv H ⟨[(eC b1 #[sV a2 a5 c14,iV 0,.int .i8 0,sV e6 j0 j1,iV 0,.int .i8 0] 185),(eA a2 (intC .u8) c4 d1 5),(eA e6 (intC .u8) ((c7++d3)++([10])) j2 5)],rfl,⟨a5,c14,a2,d1,j0,j1,e6,j2,rfl,e8,e1,e9,e2,f0,j3,j4,j5,j6,j7⟩⟩ (Zd Vv (Zd Ze (Zd Zo (Zd Ze Zg))))
   ·refine Xf rfl (Bool.eq_false_iff.2 h9) ?_;refine T.skip ?_;refine Zz ?_;obtain ⟨n8,H⟩:=Ya H;refine sR Y3 rfl ?_;refine Zc Za ?_;refine Zc Za ?_;refine TO.bwW (ρ:=Z78) (ss:=d3) (xs:=c4) (j:=d1) (cs:=[sV a2 a5 c14,iV 0,.int .i8 0,sV a3 n24 a4,iV 0,.int .i8 0]) (q:=0) Zb7 n8 Zb9 Zb (fun wc hwc=>(d0.mono hwc)) Ze Ze Za e8 e1 e9 e2 f0 ?_;intro g2 l7 c85 l8 j8 j9 k1 k2 k3;refine Ug (H:=[(eC b1 #[sV g2 l7 c85,iV 0,.int .i8 0,sV a3 n24 a4,iV 0,.int .i8 0] 185),(eA g2 (intC .u8) (c4++d3) l8 5),(eA a3 (intC .u8) c7 d2 5),(eC b7 #[.slice d4 d5 d6] 27)]) rfl ?_;refine dN ?_;obtain ⟨o0,H⟩:=Ya H;refine rG Y2 rfl ?_;refine Zc Za ?_;refine TO.bwB (ρ:=Z5q) (z:=10) (xs:=(c4++d3)) (j:=l8) (cs:=[sV g2 l7 c85,iV 0,.int .i8 0,sV a3 n24 a4,iV 0,.int .i8 0]) (q:=0) Zbm o0 Za3 Zb Ze Ze Zj j8 j9 k1 k2 k3 ?_;intro e7 k4 k5 k6 k7 k8 g7 g8 g9;refine Ug (H:=[(eC b1 #[sV e7 k4 k5,iV 0,.int .i8 0,sV a3 n24 a4,iV 0,.int .i8 0] 185),(eA e7 (intC .u8) ((c4++d3)++([10])) k6 5),(eA a3 (intC .u8) c7 d2 5),(eC b7 #[.slice d4 d5 d6] 27)]) rfl ?_;refine Zk ?_;refine Yv ?_;exact Lv H ⟨[(eC b1 #[sV e7 k4 k5,iV 0,.int .i8 0,sV a3 n24 a4,iV 0,.int .i8 0] 185),(eA e7 (intC .u8) ((c4++d3)++([10])) k6 5),(eA a3 (intC .u8) c7 d2 5)],rfl,⟨k4,k5,e7,k6,n24,a4,a3,d2,rfl,k7,k8,g7,g8,g9,f2,e3,f3,e4,f4⟩⟩ (Zd Vv (Zd Ze (Zd Ze (Zd Ze Zg))))
 ·rintro ⟨c4,c7⟩ ht h0 _ _ ⟨a5,c14,a2,d1,n24,a4,a3,d2,rfl,e8,e1,e9,e2,f0,f2,e3,f3,e4,f4⟩ ⟨d7,d8,d9,rfl⟩;subst ht;have H:(some (c4,c7))=some (r0,r1):=m1;refine Lm (H:=[(eC b7 #[.slice d7 d8 d9] 27),(some h0,mkO),(eC b6 #[nV b3 1 1] 27),(eC b8 #[iV 0] 3),(eA (some b3) (intC .u8) ([10]) ([]) 5),(eC b1 #[sV a2 a5 c14,iV 0,.int .i8 0,sV a3 n24 a4,iV 0,.int .i8 0] 185),(eA a2 (intC .u8) c4 d1 5),(eA a3 (intC .u8) c7 d2 5)]) rfl ?_;refine Yv ?_;refine Zz ?_;refine sR Y6 rfl ?_;refine Z4e (o2:=0) Zb Z4w Z4g (by decide) (by decide) rfl ?_;refine TO.bwY (ρ:=Z1o) (ob:=a2) (n:=a5) (c:=c14) (cs:=[sV a2 a5 c14,iV 0,.int .i8 0,sV a3 n24 a4,iV 0,.int .i8 0]) (q:=0) Z3i Z3w Za Ks Ys e1 e2 f0 ?_;refine Z4e (o2:=3) Zb Z4w Z4g (by decide) (by decide) rfl ?_;refine TO.bwY (ρ:=Z1o) (ob:=a3) (n:=n24) (c:=a4) (cs:=[sV a2 a5 c14,iV 0,.int .i8 0,sV a3 n24 a4,iV 0,.int .i8 0]) (q:=3) Z3i Z3w Za Ks Ys e3 e4 f4 ?_;refine Yc Za ?_;refine aN Za ?_;refine Zm (aT [2,3] rfl) ?_;refine T.ret ?_;obtain ⟨rfl,rfl⟩:=ret2 H;exact Z42 [h0] Zb (Zd Zo (Zv _)) (Res.tmp rfl) (Res.tmp rfl) (Zd Ks (Zd Ks Zg)) ⟨a2,a5,c14,d1,a3,n24,a4,d2,rfl,rfl,e8,e1,e9,e2,f2,e3,f3,e4⟩
 ·intro x;exact nomatch x
theorem Zgf {n0:Net}{out1:List Int}{a6 a5:Option Addr}{a4 a3 a8 a7:Nat}(w:World)(a2:RS w [] Zx 3 a6 a4 a3 n0.Arcs)(a9:RS w [] (intC .u8) 1 a5 a8 a7 out1)(hG:GK Tryz.prog w []){r0:Int}{r1:Int}(H:Z9j n0 out1=some (r0,r1)):Fnc Tryz.prog 32 #[.agg #[iV n0.N,iV n0.S,iV n0.T,.slice a6 a4 a3],.slice a5 a8 a7] w [] (fun v N=>v=.tuple #[iV r0,iV r1]∧N=[]):=by
 unfold Z9j at H;refine Fnc.enter (vs:=[.agg #[iV n0.N,iV n0.S,iV n0.T,.slice a6 a4 a3],.slice a5 a8 a7]) Tryz.func32 rfl rfl (Inv.refl w) ?_;refine sR Y3 rfl ?_;refine Wa Za ?_;intro b1;refine Yc Za ?_;refine aN Za ?_;refine Zh ?_;obtain ⟨⟨r3,r4⟩,e5,H⟩:=Zn H;refine rG Y7 rfl ?_;refine Zc Za ?_;refine Zw Zga Za (fun wc hwc=>Zi7 (out0:=out1) wc (a9.mono hwc) e5) ?_;rintro _ _ ⟨f6,n7,c8,j9,e2,f7,f8,e3,rfl,rfl,d1,d2,e4,d3,d4,d5,e6,d6⟩;refine Zc Za ?_;refine TO.extract Zb ?_;refine TO.extract Zb ?_;refine Yc Za ?_;refine aN Za ?_;refine Zm (aT [2,6,7] rfl) ?_;refine Zh ?_;obtain ⟨⟨d9,f9⟩,e7,H⟩:=Zn H;refine rG Y8 rfl ?_;refine Xj Za Xb Xn rfl ?_;refine Zc Za ?_;refine Zw Zip Za (fun wc hwc=>Zhl (n0:=n0) (b1:=r3) wc (a2.mono hwc) (hwc.rs (f:=(intC .u8)) (s:=1) (xs:=r3) (j:=j9) (fun _=>rfl) Zi d1 d2 d3) (hG.mono hwc) e7) ?_;rintro _ _ ⟨e8,n28,c29,g0,rfl,rfl,b6,b7,e9,b8⟩;refine Zc Za ?_;refine TO.extract Zb ?_;refine TO.extract Zb ?_;refine Yc Za ?_;refine aN Za ?_;refine Zh ?_;refine sR Y2 rfl ?_;refine Zc Za ?_;refine Zq Zl ?_;refine dN ?_;refine Zm (aT [2,7,8,9,25] rfl) ?_;rcases Zp H with ⟨d7,H⟩ | ⟨d7,H⟩
 ·refine Yw rfl d7 ?_;refine sR Y3 rfl ?_;refine Zc Za ?_;refine Yc Za ?_;refine aN Za ?_;refine T.ret ?_;refine Zy ?_;obtain ⟨rfl,rfl⟩:=ret2 H;exact Xg Za (Res.tmp rfl) (Res.tmp rfl) Zg ⟨rfl,rfl⟩
 ·
  refine Yu rfl d7 ?_;refine T.skip ?_;refine Zz ?_;refine Zh ?_;obtain ⟨⟨e1,g1⟩,f0,H⟩:=Zn H;refine rG Y8 rfl ?_;refine Xj Za Xb Uo rfl ?_;refine Zc Za ?_;refine Zw Zi6 Za (fun wc hwc=>Ziu (n0:=n0) (b1:=r4) wc (a2.mono hwc) (hwc.rs (f:=(intC .u8)) (s:=1) (xs:=r4) (j:=e3) (fun _=>rfl) Xn d4 d5 d6) (hG.mono hwc) f0) ?_;rintro _ _ ⟨f2,n41,g2,g3,rfl,rfl,c4,c7,f3,d0⟩;refine Zc Za ?_;refine TO.extract Zb ?_;refine TO.extract Zb ?_;refine Yc Za ?_;refine aN Za ?_;refine Zm (aT [2,8,9,10] rfl) ?_;refine Zh ?_;refine sR Y2 rfl ?_;refine Zc Za ?_;refine Zq Zl ?_;refine dN ?_;rcases Zp H with ⟨d8,H⟩ | ⟨d8,H⟩
  ·refine Yw rfl d8 ?_;refine sR Y3 rfl ?_;refine Zc Za ?_;refine Yc Za ?_;refine aN Za ?_;refine T.ret ?_;refine Zy ?_;obtain ⟨rfl,rfl⟩:=ret2 H;exact Xg Za (Res.tmp rfl) (Res.tmp rfl) Zg ⟨rfl,rfl⟩
  ·refine Yu rfl d8 ?_;refine T.skip ?_;refine Zz ?_;refine Zh ?_;obtain ⟨⟨g4,g5⟩,f4,H⟩:=Zn H;refine rG Y9 rfl ?_;refine Xj Za Xb Vp rfl ?_;refine Zc Za ?_;refine Zc Za ?_;refine Zw Zfx Za (fun wc hwc=>Zf6 (n0:=n0) (f1:=d9) (s2:=e1) wc (a2.mono hwc) (rsI hwc Yl b6 b7 b8) (rsB hwc Zi c4 c7 d0) f4) ?_;rintro _ _ ⟨rfl,rfl⟩;refine Zc Za ?_;refine TO.extract Zb ?_;refine TO.extract Zb ?_;refine Yc Za ?_;refine aN Za ?_;refine Zm (aT [2,8,10,11] rfl) ?_;refine Zh ?_;obtain ⟨g6,f5,H⟩:=Zn H;refine rG Y7 rfl ?_;refine Zc Za ?_;refine Xj Za Xb Vp rfl ?_;refine Zc Za ?_;refine Zc Za ?_;refine Zw Zid Za (fun wc hwc=>Zf8 (n0:=n0) (f1:=d9) (s2:=e1) wc (a2.mono hwc) (rsI hwc Yl b6 b7 b8) (rsB hwc Zi c4 c7 d0) f5) ?_;rintro _ _ ⟨rfl,rfl⟩;refine Yc Za ?_;refine aN Za ?_;refine Zm (aT [4,5] rfl) ?_;refine T.ret ?_;obtain ⟨rfl,rfl⟩:=ret2 H;exact Xg Za (Res.tmp rfl) (Res.tmp rfl) Zg ⟨rfl,rfl⟩
theorem Zbr {b0 out1:List Int}{a7 a2:Option Addr}{a6 a8 a4 a3:Nat}(w:World)(a9:RS w [] (intC .u8) 1 a7 a6 a8 b0)(a5:RS w [] (intC .u8) 1 a2 a4 a3 out1)(hG:GK Tryz.prog w []){r0:Int}{r1:Int}(H:Z30 b0 out1=some (r0,r1)):Fnc Tryz.prog 11 #[.slice a7 a6 a8,.slice a2 a4 a3] w [] (fun v N=>v=.tuple #[iV r0,iV r1]∧N=[]):=by
 unfold Z30 at H;refine Fnc.enter (vs:=[.slice a7 a6 a8,.slice a2 a4 a3]) Tryz.func11 rfl rfl (Inv.refl w) ?_;refine sR Y2 rfl ?_;refine Yc Za ?_;refine aN Za ?_;refine Zh ?_;obtain ⟨⟨r1,r2⟩,e3,H⟩:=Zn H;refine rG Y8 rfl ?_;refine Zc Za ?_;refine Zw Zag Za (fun wc hwc=>Zdm (b0:=b0) wc (a9.mono hwc) (hG.mono hwc) e3) ?_;rintro _ _ ⟨d1,n5,c6,j7,rfl,rfl,b8,c4,c7,b6⟩;refine Zc Za ?_;refine TO.extract Zb ?_;refine TO.extract Zb ?_;refine Xs Zj Z17 ?_;intro d2;refine Xo Za Ze Lc Zj ?_;refine aN Za ?_;refine Zm (aT [1,6,7] rfl) ?_;refine Zh ?_;refine sR Y2 rfl ?_;refine Zc Za ?_;refine Zq Zl ?_;refine dN ?_;rcases Zp H with ⟨b7,H⟩ | ⟨b7,H⟩
 ·refine Yw rfl b7 ?_;refine sR Y3 rfl ?_;refine Zc Za ?_;refine Yc Za ?_;refine aN Za ?_;refine T.ret ?_;refine Zy ?_;obtain ⟨rfl,rfl⟩:=ret2 H;exact Xg Za (Res.tmp rfl) (Res.tmp rfl) Zg ⟨rfl,rfl⟩
 ·refine Yu rfl b7 ?_;refine T.skip ?_;refine Zz ?_;refine Zh ?_;obtain ⟨⟨d3,d4⟩,d0,H⟩:=Zn H;refine rG Y7 rfl ?_;refine Xj Za Xb Zi rfl ?_;refine Zc Za ?_;refine Zw Zgu Za (fun wc hwc=>Zgf (n0:=r1) (out1:=out1) wc (hwc.rs (f:=Zx) (s:=3) (xs:=r1.Arcs) (j:=j7) (fun _=>rfl) Yl b8 c4 b6) (a5.mono hwc) (hG.mono hwc) d0) ?_;rintro _ _ ⟨rfl,rfl⟩;refine TO.extract Zb ?_;refine TO.extract Zb ?_;refine Yc Za ?_;refine aN Za ?_;refine Zm (aT [4,5] rfl) ?_;refine T.ret ?_;obtain ⟨rfl,rfl⟩:=ret2 H;exact Xg Za (Res.tmp rfl) (Res.tmp rfl) Zg ⟨rfl,rfl⟩
theorem Z6r (w:World)(hG:GK Tryz.prog w []){r0:Bool}(H:Z09=some r0):Fnc Tryz.prog 16 #[] w [] (fun v N=>v=.bool r0∧N=[]):=by
 unfold Z09 at H;refine Fnc.enter (vs:=[]) Tryz.func16 rfl rfl (Inv.refl w) ?_;refine sR Y1 rfl ?_;refine aN Za ?_;refine sR Y3 rfl ?_;refine Jc [.int .u8 0,.int .u8 0,.int .u8 0,.int .u8 0,.int .u8 0,.int .u8 0,.int .u8 0,.int .u8 0,.int .u8 0,.int .u8 0,.int .u8 0,.int .u8 0,.int .u8 0,.int .u8 0,.int .u8 0,.int .u8 0,.int .u8 0,.int .u8 0,.int .u8 0,.int .u8 0,.int .u8 0,.int .u8 0,.int .u8 0,.int .u8 0,.int .u8 0,.int .u8 0,.int .u8 0,.int .u8 0,.int .u8 0,.int .u8 0] [0,1,2,3,4,5,6,7,8,9,10,11,12,13,14,15,16,17,18,19,20,21,22,23,24,25,26,27,28,29] Za Xw Kp TWQSY.z5 Ys (by simp only [Xv,setCells,Value.cells,List.toList_toArray,List.getD_cons_zero,List.getD_cons_succ,List.set_cons_zero,List.set_cons_succ];rfl) (by kernel_rfl) ?_;intro b1;refine Z9e Za Xw TWQSY.v5 Ze ?_;intro g2;refine aN Za ?_;refine Zh ?_;obtain ⟨⟨r7,r8⟩,e9,H⟩:=Zn H;refine rG Y9 rfl ?_;refine Zc Za ?_;refine Jc [.int .u8 0,.int .u8 0,.int .u8 0,.int .u8 0,.int .u8 0,.int .u8 0,.int .u8 0,.int .u8 0,.int .u8 0,.int .u8 0,.int .u8 0,.int .u8 0,.int .u8 0,.int .u8 0,.int .u8 0,.int .u8 0] [0,1,2,3,4,5,6,7,8,9,10,11,12,13,14,15] Za Xw Kp TWQSY.z5 Ys (by simp only [Xv,setCells,Value.cells,List.toList_toArray,List.getD_cons_zero,List.getD_cons_succ,List.set_cons_zero,List.set_cons_succ];rfl) (by kernel_rfl) ?_;intro b4;refine Z9e Za Xw TWQSY.v5 Ze ?_;intro g3;refine Zw Zae Za (fun wc hwc=>Zbr (b0:=[112,32,109,97,120,32,50,32,49,10,110,32,49,32,115,10,110,32,50,32,116,10,97,32,49,32,50,32,55,10]) (out1:=[115,32,54,10,102,32,49,32,50,32,54,10,107,32,49,10]) wc (hwc.rs (f:=(intC .u8)) (s:=1) (xs:=[112,32,109,97,120,32,50,32,49,10,110,32,49,32,115,10,110,32,50,32,116,10,97,32,49,32,50,32,55,10]) (j:=([])) (fun _=>rfl) Yl rfl (Nat.le_refl _) Wl) (hwc.rs (f:=(intC .u8)) (s:=1) (xs:=[115,32,54,10,102,32,49,32,50,32,54,10,107,32,49,10]) (j:=([])) (fun _=>rfl) Zi rfl (Nat.le_refl _) Wl) (hG.mono hwc) e9) ?_;rintro _ _ ⟨rfl,rfl⟩;refine Zc Za ?_;refine TO.extract Zb ?_;refine TO.extract Zb ?_;refine Yc Za ?_;refine aN Za ?_;refine Zm (aT [1,3] rfl) ?_;refine Zh ?_;obtain ⟨⟨b6,d1⟩,f3,H⟩:=Zn H;refine rG Y9 rfl ?_;refine Zc Za ?_;refine Jc [.int .u8 0,.int .u8 0,.int .u8 0,.int .u8 0,.int .u8 0,.int .u8 0,.int .u8 0,.int .u8 0,.int .u8 0,.int .u8 0,.int .u8 0,.int .u8 0,.int .u8 0,.int .u8 0,.int .u8 0,.int .u8 0] [0,1,2,3,4,5,6,7,8,9,10,11,12,13,14,15] Za Xw Kp TWQSY.z5 Ys (by simp only [Xv,setCells,Value.cells,List.toList_toArray,List.getD_cons_zero,List.getD_cons_succ,List.set_cons_zero,List.set_cons_succ];rfl) (by kernel_rfl) ?_;intro g4;refine Z9e Za Xw TWQSY.v5 Ze ?_;intro f4;refine Zw Zae Za (fun wc hwc=>Zbr (b0:=[112,32,109,97,120,32,50,32,49,10,110,32,49,32,115,10,110,32,50,32,116,10,97,32,49,32,50,32,55,10]) (out1:=[115,32,55,10,102,32,49,32,50,32,55,10,107,32,49,10]) wc (hwc.rs (f:=(intC .u8)) (s:=1) (xs:=[112,32,109,97,120,32,50,32,49,10,110,32,49,32,115,10,110,32,50,32,116,10,97,32,49,32,50,32,55,10]) (j:=([])) (fun _=>rfl) Xn rfl (Nat.le_refl _) Wl) (hwc.rs (f:=(intC .u8)) (s:=1) (xs:=[115,32,55,10,102,32,49,32,50,32,55,10,107,32,49,10]) (j:=([])) (fun _=>rfl) Zi rfl (Nat.le_refl _) Wl) (hG.mono hwc) f3) ?_;rintro _ _ ⟨rfl,rfl⟩;refine Zc Za ?_;refine TO.extract Zb ?_;refine TO.extract Zb ?_;refine Yc Za ?_;refine aN Za ?_;refine Zh ?_;obtain ⟨a5,d2,H⟩:=Zn H;rcases Zp H with ⟨d0,H⟩ | ⟨d0,H⟩
 ·
  obtain ⟨a9,e6,H⟩:=Zn H;rcases Zp H with ⟨d3,H⟩ | ⟨d3,H⟩
  ·
   obtain ⟨d4,f5,H⟩:=Zn H;refine rG Y29 rfl ?_;refine Zc Za ?_;refine Zw Z0h Za (fun wc hwc=>Z0e (plan0:=([50,32,53]:Str)) (b1:=[112,32,109,97,120,32,50,32,49,10,110,32,49,32,115,10,110,32,50,32,116,10,97,32,49,32,50,32,55,10]) wc (hwc.rs (f:=(intC .u8)) (s:=1) (xs:=[112,32,109,97,120,32,50,32,49,10,110,32,49,32,115,10,110,32,50,32,116,10,97,32,49,32,50,32,55,10]) (j:=([])) (fun _=>rfl) Xn rfl (Nat.le_refl _) Wl) (hG.mono hwc) d2) ?_;rintro _ _ ⟨b7,e7,c20,b8,c4,rfl,rfl,a2,a3,c7,a4⟩;refine Z00 (xs:=a5) Za Xw TWQSY.v5 Km (fun wc hwc=>(hwc.rs (f:=(intC .u8)) (s:=1) (xs:=a5) (j:=b8) (fun _=>rfl) Zi a2 a3 a4)) ?_;refine Vq (p:=(bu a5)) (q:=([115,32,55,10,102,32,49,32,50,32,55,10,107,32,49,10]:Str)) Zb ?_;refine Zc Za ?_;refine Zu (t:=26) (b':=true) rfl (decide_eq_true d0) ?_;refine Zc Za ?_;refine Zw Z0h Za (fun wc hwc=>Z0e (plan0:=([48,32,53]:Str)) (b1:=[112,32,109,97,120,32,50,32,49,10,110,32,49,32,115,10,110,32,50,32,116,10,97,32,49,32,50,32,55,10]) wc (hwc.rs (f:=(intC .u8)) (s:=1) (xs:=[112,32,109,97,120,32,50,32,49,10,110,32,49,32,115,10,110,32,50,32,116,10,97,32,49,32,50,32,55,10]) (j:=([])) (fun _=>rfl) Uo rfl (Nat.le_refl _) Wl) (hG.mono hwc) e6) ?_;rintro _ _ ⟨d5,f6,f7,d6,d7,rfl,rfl,a6,a7,d8,a8⟩;refine Z00 (xs:=a9) Za Xw TWQSY.v5 Km (fun wc hwc=>(hwc.rs (f:=(intC .u8)) (s:=1) (xs:=a9) (j:=d6) (fun _=>rfl) Zi a6 a7 a8)) ?_;refine Vq (p:=(bu a9)) (q:=([101,114,114,111,114,32,52,48,10]:Str)) Zb ?_;refine Ye Zb ?_;refine Zc Za ?_;refine Zu (t:=32) (b':=true) rfl (decide_eq_true d3) ?_;refine Zc Za ?_;refine Zw Z0h Za (fun wc hwc=>Z0e (plan0:=([50]:Str)) (b1:=[112,32,109,97,120,32,50,32,49,10,110,32,49,32,115,10,110,32,50,32,116,10,97,32,49,32,50,32,55,10]) wc (hwc.rs (f:=(intC .u8)) (s:=1) (xs:=[112,32,109,97,120,32,50,32,49,10,110,32,49,32,115,10,110,32,50,32,116,10,97,32,49,32,50,32,55,10]) (j:=([])) (fun _=>rfl) Vp rfl (Nat.le_refl _) Wl) (hG.mono hwc) f5) ?_;rintro _ _ ⟨f8,g5,c46,f9,g0,rfl,rfl,d9,e1,g1,e2⟩;refine Z00 (xs:=d4) Za Xw TWQSY.v5 Km (fun wc hwc=>(hwc.rs (f:=(intC .u8)) (s:=1) (xs:=d4) (j:=f9) (fun _=>rfl) Zi d9 e1 e2)) ?_;refine Vq (p:=(bu d4)) (q:=([101,114,114,111,114,32,55,48,10]:Str)) Zb ?_;refine Ye Zb ?_;refine Zc Za ?_;refine TO.join [17,18,19] [20,21,22,23,24,25,26,27,28] rfl 41 (fun e8=>Z3f b6 d1 e8=some r0) [(4,iV b6),(5,iV d1)] ?_ ?_
   ·
    rcases Zp H with ⟨e3,H⟩ | ⟨e3,H⟩
    ·refine Zu (t:=38) (b':=true) rfl (decide_eq_true e3) ?_;refine Zc Za ?_;refine Zq Zl ?_;refine Ye Zb ?_;refine Zk ?_;exact X.jn (b:=(decide (r8=64))) H (aF rfl)
    ·refine Zu (t:=38) (b':=false) rfl (decide_eq_false e3) ?_;refine Zf Za ?_;refine Zf Za ?_;refine Yg Zb ?_;refine Zk ?_;exact X.jn (b:=false) H (aF rfl)
   ·
    rintro e8 H;unfold Z3f at H;refine Zc Za ?_;refine TO.join [21,22,23] [24,25,26,27,28] rfl 45 (fun f0=>Z34 b6 f0=some r0) [(4,iV b6)] ?_ ?_
    ·
     rcases Zp H with ⟨e4,H⟩ | ⟨e4,H⟩
     ·refine Zu (t:=42) (b':=true) rfl e4 ?_;refine Zc Za ?_;refine Zq Zl ?_;refine Ye Zb ?_;refine Zk ?_;exact X.jn (b:=(decide (d1=0))) H (aF rfl)
     ·refine Zu (t:=42) (b':=false) rfl (Bool.eq_false_iff.2 e4) ?_;refine Zf Za ?_;refine Zf Za ?_;refine Yg Zb ?_;refine Zk ?_;exact X.jn (b:=false) H (aF rfl)
    ·
     rintro f0 H;unfold Z34 at H;refine Zc Za ?_;refine TO.join [25,26,27] [28] rfl 49 (fun f2=>Z56 f2=some r0) [] ?_ ?_
     ·
      rcases Zp H with ⟨e5,H⟩ | ⟨e5,H⟩
      ·refine Zu (t:=46) (b':=true) rfl e5 ?_;refine Zc Za ?_;refine Zq Zl ?_;refine Ye Zb ?_;refine Zk ?_;exact X.jn (b:=(decide (b6=7))) H (aF rfl)
      ·refine Zu (t:=46) (b':=false) rfl (Bool.eq_false_iff.2 e5) ?_;refine Zf Za ?_;refine Zf Za ?_;refine Yg Zb ?_;refine Zk ?_;exact X.jn (b:=false) H (aF rfl)
     ·rintro f2 H;unfold Z56 at H;refine aN Za ?_;refine T.ret ?_;obtain rfl:=ret1 H;exact Yd Za (Res.tmp rfl) Zg ⟨rfl,rfl⟩
  ·refine rG Y29 rfl ?_;refine Zc Za ?_;refine Zw Z0h Za (fun wc hwc=>Z0e (plan0:=([50,32,53]:Str)) (b1:=[112,32,109,97,120,32,50,32,49,10,110,32,49,32,115,10,110,32,50,32,116,10,97,32,49,32,50,32,55,10]) wc (hwc.rs (f:=(intC .u8)) (s:=1) (xs:=[112,32,109,97,120,32,50,32,49,10,110,32,49,32,115,10,110,32,50,32,116,10,97,32,49,32,50,32,55,10]) (j:=([])) (fun _=>rfl) Xn rfl (Nat.le_refl _) Wl) (hG.mono hwc) d2) ?_;rintro _ _ ⟨b7,e7,c20,b8,c4,rfl,rfl,a2,a3,c7,a4⟩;refine Z00 (xs:=a5) Za Xw TWQSY.v5 Km (fun wc hwc=>(hwc.rs (f:=(intC .u8)) (s:=1) (xs:=a5) (j:=b8) (fun _=>rfl) Zi a2 a3 a4)) ?_;refine Vq (p:=(bu a5)) (q:=([115,32,55,10,102,32,49,32,50,32,55,10,107,32,49,10]:Str)) Zb ?_;refine Zc Za ?_;refine Zu (t:=26) (b':=true) rfl (decide_eq_true d0) ?_;refine Zc Za ?_;refine Zw Z0h Za (fun wc hwc=>Z0e (plan0:=([48,32,53]:Str)) (b1:=[112,32,109,97,120,32,50,32,49,10,110,32,49,32,115,10,110,32,50,32,116,10,97,32,49,32,50,32,55,10]) wc (hwc.rs (f:=(intC .u8)) (s:=1) (xs:=[112,32,109,97,120,32,50,32,49,10,110,32,49,32,115,10,110,32,50,32,116,10,97,32,49,32,50,32,55,10]) (j:=([])) (fun _=>rfl) Uo rfl (Nat.le_refl _) Wl) (hG.mono hwc) e6) ?_;rintro _ _ ⟨d5,f6,f7,d6,d7,rfl,rfl,a6,a7,d8,a8⟩;refine Z00 (xs:=a9) Za Xw TWQSY.v5 Km (fun wc hwc=>(hwc.rs (f:=(intC .u8)) (s:=1) (xs:=a9) (j:=d6) (fun _=>rfl) Zi a6 a7 a8)) ?_;refine Vq (p:=(bu a9)) (q:=([101,114,114,111,114,32,52,48,10]:Str)) Zb ?_;refine Ye Zb ?_;refine Zc Za ?_;refine Zu (t:=32) (b':=false) rfl (decide_eq_false d3) ?_;refine Zf Za ?_;refine Zf Za ?_;refine Zf Za ?_;refine Zf Za ?_;refine Yg Zb ?_;refine Zc Za ?_;refine Zf Za ?_;refine Zf Za ?_;refine Yg Zb ?_;refine Zc Za ?_;refine Zf Za ?_;refine Zf Za ?_;refine Yg Zb ?_;refine Zc Za ?_;refine Zf Za ?_;refine Zf Za ?_;refine Yg Zb ?_;refine aN Za ?_;refine Zm (aT [0] rfl) ?_;refine T.ret ?_;obtain rfl:=ret1 H;exact Yd Za (Res.tmp rfl) Zg ⟨rfl,rfl⟩
 ·refine rG Y29 rfl ?_;refine Zc Za ?_;refine Zw Z0h Za (fun wc hwc=>Z0e (plan0:=([50,32,53]:Str)) (b1:=[112,32,109,97,120,32,50,32,49,10,110,32,49,32,115,10,110,32,50,32,116,10,97,32,49,32,50,32,55,10]) wc (hwc.rs (f:=(intC .u8)) (s:=1) (xs:=[112,32,109,97,120,32,50,32,49,10,110,32,49,32,115,10,110,32,50,32,116,10,97,32,49,32,50,32,55,10]) (j:=([])) (fun _=>rfl) Xn rfl (Nat.le_refl _) Wl) (hG.mono hwc) d2) ?_;rintro _ _ ⟨b7,e7,c20,b8,c4,rfl,rfl,a2,a3,c7,a4⟩;refine Z00 (xs:=a5) Za Xw TWQSY.v5 Km (fun wc hwc=>(hwc.rs (f:=(intC .u8)) (s:=1) (xs:=a5) (j:=b8) (fun _=>rfl) Zi a2 a3 a4)) ?_;refine Vq (p:=(bu a5)) (q:=([115,32,55,10,102,32,49,32,50,32,55,10,107,32,49,10]:Str)) Zb ?_;refine Zc Za ?_;refine Zu (t:=26) (b':=false) rfl (decide_eq_false d0) ?_;refine Zf Za ?_;refine Zf Za ?_;refine Zf Za ?_;refine Zf Za ?_;refine Yg Zb ?_;refine Zc Za ?_;refine Zf Za ?_;refine Zf Za ?_;refine Zf Za ?_;refine Zf Za ?_;refine Yg Zb ?_;refine Zc Za ?_;refine Zf Za ?_;refine Zf Za ?_;refine Yg Zb ?_;refine Zc Za ?_;refine Zf Za ?_;refine Zf Za ?_;refine Yg Zb ?_;refine Zc Za ?_;refine Zf Za ?_;refine Zf Za ?_;refine Yg Zb ?_;refine aN Za ?_;refine Zm (aT [0] rfl) ?_;refine T.ret ?_;obtain rfl:=ret1 H;exact Yd Za (Res.tmp rfl) Zg ⟨rfl,rfl⟩
theorem Z8i {p0:Plan}{a5:Option Addr}{a3 a4:Nat}(w:World)(a7:RS w [] iC 1 a5 a3 a4 p0.Picks)(hG:GK Tryz.prog w []){r0:Str}(H:Nl p0=some r0):Fnc Tryz.prog 9 #[.agg #[iV p0.Workers,iV p0.Limit,.slice a5 a3 a4]] w [] (fun v N=>v=.string (bs r0)∧N=[]):=by
 unfold Nl at H;refine Fnc.enter (vs:=[.agg #[iV p0.Workers,iV p0.Limit,.slice a5 a3 a4]]) Tryz.func9 rfl rfl (Inv.refl w) ?_;refine sR Y2 rfl ?_;refine Wa Za ?_;intro b1;refine aN Za ?_;refine Zh ?_;obtain ⟨r3,e4,H⟩:=Zn H;obtain ⟨g5,H⟩:=Ya H;obtain ⟨r6,e7,H⟩:=Zn H;obtain ⟨g8,H⟩:=Ya H;refine Wz 7 [0,1,2,3,4,5,6] rfl Xx (by kernel_rfl) (by kernel_rfl) rfl (by kernel_rfl) ?_;refine Yo Za Ko ?_;refine Yx Za Yf Zi rfl ?_;refine Lb Lk Za (fun wc hwc=>Ll (i0:=p0.Workers) wc (hG.mono hwc) e4) (by rintro _ _ ⟨rfl,rfl⟩;rfl) ?_;refine Z77 (p:=r3) (q:=([32]:Str)) g5 Zb ?_;refine Yo Za Nn ?_;refine Yx Za Yf Zi rfl ?_;refine Lb Lk Za (fun wc hwc=>Ll (i0:=p0.Limit) wc (hG.mono hwc) e7) (by rintro _ _ ⟨rfl,rfl⟩;rfl) ?_;refine TQ.tail [7,8] Ys ?_;refine Jo (p:=(r3++([32]:Str))) (q:=r6) g8 Zb ?_;refine aN Za ?_;refine Zm (aT [1,3] rfl) ?_;refine Zh ?_;refine sR Y4 rfl ?_;refine Zs Za Z05 ?_;refine Zt Za Gz Zi rfl ?_;refine Ym (xs:=p0.Picks) a7.len Zb Xt ?_;refine Zc Za ?_;refine dN ?_;refine Wi (fun (a6:Str)=>Z20 a6=some r0) (fun (a6:Str)=>[(3,.string (bs a6))]) (fun (a6:Str)=>[]) ?_ ?_
 ·
  refine T.block ?_;obtain ⟨c7,d0,d1⟩:=Zn H;refine Ld (fun (a9:Nat) (a2:Str) (a8:Int)=>Xa (fun s=>Z2f p0 s.1 s.2) a9 (a2,a8)=some c7) (fun (a9:Nat) (a2:Str) (a8:Int)=>[(3,.string (bs a2)),(15,.slice a5 a3 a4),(16,iV (p0.Picks.length:Int)),(17,iV a8)]) (fun (a9:Nat) (a2:Str) (a8:Int)=>[]) (fun (a9:Nat) (a2:Str) (a8:Int)=>a9) Xd ((r3++([32]:Str))++r6) 0 d0 (aF rfl) Zg ?_;rintro a9 a2 a8 H;obtain ⟨d2,d3,rfl,H,b8⟩:=Vo H;have H:Z2f p0 a2 a8=some d3:=H;unfold Z2f at H;refine sR Y1 rfl ?_;refine Zq Zl ?_;refine dS ?_;rcases Zp H with ⟨b6,H⟩ | ⟨b6,H⟩
  ·refine Yw rfl b6 ?_;refine T.skip ?_;refine Zz ?_;refine Zh ?_;refine T.block ?_;obtain ⟨c4,H⟩:=Ya H;refine sR Y3 rfl ?_;refine Xr a7 c4 Zb Xt Wc ?_;refine Kw a7 c4 Za Yf ?_;refine aN Za ?_;obtain ⟨b7,d4,H⟩:=Zn H;obtain ⟨d5,d6,H⟩:=Jh H;refine rG Y6 rfl ?_;refine Zc Za ?_;refine Zc Za ?_;refine Zw Lk Za (fun wc hwc=>Ll (i0:=(p0.Picks.getD a8.toNat 0)) wc (hG.mono hwc) d4) ?_;rintro _ _ ⟨rfl,rfl⟩;refine Jo (p:=([32]:Str)) (q:=b7) d5 Zb ?_;refine Jo (p:=a2) (q:=(([32]:Str)++b7)) d6 Zb ?_;refine Yc Za ?_;refine Zk ?_;refine Yv ?_;refine Zz ?_;refine Zm (aT [3,15,16,17] rfl) ?_;obtain ⟨d7,H⟩:=Ya H;refine rG Y2 rfl ?_;refine Xy d7 Zb ?_;refine Zc Za ?_;refine Zk ?_;have H:=Wr H b8;exact Gj d2 (a2++(([32]:Str)++b7)) (a8+1) H (Nat.lt_succ_self _) (aF rfl) Zg
  ·refine Yu rfl b6 ?_;refine T.exit ?_;refine Xc ?_;have H:=Wd H b8▸d1;refine Xc ?_;refine Ve ?_;exact Xe a2 H (aF rfl) Zg
 ·rintro a6 H;unfold Z20 at H;refine sR Y2 rfl ?_;refine Zc Za ?_;refine aN Za ?_;refine T.ret ?_;obtain rfl:=ret1 H;exact Yd Za (Res.tmp rfl) Zg ⟨rfl,rfl⟩
end Go.Proofs.YtddknfpolkkbjaaGreatDoor.Ax
namespace Go.Proofs.YtddknfpolkkbjaaGreatDoor.Ax
open Go Go.Acq Go.RowKit Go.Proofs
set_option maxHeartbeats 8000000
set_option maxRecDepth 20000
theorem Zht:Vb Tryz.prog 9=some 16:=by kernel_rfl
theorem Z6u:Yb Tryz.prog 16=true:=by kernel_rfl
theorem Z9l:Yb Tryz.prog 21=true:=by kernel_rfl
theorem Zbi:Yb Tryz.prog 22=true:=by kernel_rfl
theorem Z7l:Yb Tryz.prog 9=true:=by kernel_rfl
theorem Z4b:Yk Tryz.prog 54=some 56:=by kernel_rfl
theorem Zji:Yh Tryz.prog 56=some 1:=by kernel_rfl
theorem Zfk:(Tryz.prog.underlying 56).isSome=true:=by kernel_rfl
theorem Zie:Xi Tryz.prog 56=true:=by kernel_rfl
theorem Zfm:Tryz.prog.underlying 4=some .bool:=by kernel_rfl
theorem Zef:ElemT Tryz.prog 55 9 1 16 (.string ByteArray.empty):=⟨Xp,Ww,Zht,Z2u,rfl⟩
theorem Zb6 (w:World){x0:List Str}{s1:Str}{a2:Option Addr}{a4 a3:Nat}(a5:RS w [] Yn 1 a2 a4 a3 x0){r0:Str}(H:Ly x0 s1=some r0):Fnc Tryz.prog 21 #[.slice a2 a4 a3,.string (bs s1)] w [] (fun v N=>v=.string (bs r0)∧N=[]):=by
 unfold Ly at H;obtain ⟨g,H1⟩:=Ya H;clear H;injection H1 with H;subst H;exact Fnc.join Zhc Zee s1 w a5 g.1 g.2
theorem w_acequialaw29_PlayerPlans {l0:List Int}{text1:Str}{a9:Option Addr}{b6 b7:Nat}(w:World)(a5:RS w [] (intC .u32) 1 a9 b6 b7 l0)(hG:GK Tryz.prog w []){r0:Bool}(H:Z40 l0 text1=some r0):Fnc Tryz.prog 5 #[.slice a9 b6 b7,.string (bs text1)] w [] (fun v N=>v=.bool r0∧N=[]):=by
 unfold Z40 at H;refine Fnc.enter (vs:=[.slice a9 b6 b7,.string (bs text1)]) Tryz.func5 rfl rfl (Inv.refl w) ?_;refine sR Y1 rfl ?_;refine aN Za ?_;refine Zh ?_;refine Zh ?_;refine Wi (fun (x2:Bool)=>Z06 l0 text1 x2=some r0) (fun (x2:Bool)=>[(0,.slice a9 b6 b7),(1,.string (bs text1)),(25,.bool x2)]) (fun (x2:Bool)=>[]) ?_ ?_
 ·
  rcases Zp H with ⟨g1,H⟩ | ⟨g1,H⟩
  ·refine rG Y8 rfl ?_;refine Zc Za ?_;refine Ym (xs:=l0) a5.len Zb Z4b ?_;refine Zq Zl ?_;refine Zc Za ?_;refine Zu (t:=21) (b':=true) rfl (decide_eq_true g1) ?_;refine Zf Za ?_;refine Zf Za ?_;refine Zf Za ?_;refine Ye Zb ?_;refine Zk ?_;exact Xe true H (aF rfl) Zg
  ·refine rG Y8 rfl ?_;refine Zc Za ?_;refine Ym (xs:=l0) a5.len Zb Z4b ?_;refine Zq Zl ?_;refine Zc Za ?_;refine Zu (t:=21) (b':=false) rfl (decide_eq_false g1) ?_;refine Zc Za ?_;refine Z58 (p:=text1) Zb Km ?_;refine Zq Zl ?_;refine Yg Zb ?_;refine Zk ?_;exact Xe (decide (300<(text1.length:Int))) H (aF rfl) Zg
 ·
  rintro x2 H;unfold Z06 at H;rcases Zp H with ⟨g3,H⟩ | ⟨g3,H⟩
  ·refine Yr rfl g3 ?_;refine Zh ?_;obtain ⟨r4,e5,H⟩:=Zn H;refine rG Y2 rfl ?_;refine Zw Z6u Za (fun wc hwc=>Z6r  wc (hG.mono hwc) e5) ?_;rintro _ _ ⟨rfl,rfl⟩;refine aN Za ?_;refine T.ret ?_;refine Zy ?_;obtain rfl:=ret1 H;exact Yd Za (Res.tmp rfl) Zg ⟨rfl,rfl⟩
  ·
   refine Xf rfl (Bool.eq_false_iff.2 g3) ?_;refine T.skip ?_;refine Zz ?_;refine sR Y1 rfl ?_;refine aN Za ?_;refine Zh ?_;refine sR Y3 rfl ?_;refine Zc Za ?_;refine Ym (xs:=l0) a5.len Zb Z4b ?_;refine Zc Za ?_;refine dN ?_;refine Z59 (fun (a2:List Str) (d8 c35:Nat) (a4:Option Nat) (d9:List Value)=>Z52 text1 a2=some r0∧a2.length=d8∧d8≤c35∧d9.length=(c35-d8)*1∧(a4=none→c35=0)) (fun (a2:List Str) (d8 c35:Nat) (a4:Option Nat) (d9:List Value)=>[(1,.string (bs text1)),(5,sV a4 d8 c35)]) (fun (a2:List Str) (d8 c35:Nat) (a4:Option Nat) (d9:List Value)=>[(eA a4 Yn a2 d9 9)]) ?_ ?_
   ·
    refine T.block ?_;obtain ⟨r2,r3,r5⟩:=Zn H;refine Z4d (fun (f5:Nat) (a3:List Str) (n7 c8:Nat) (b8:Option Nat) (d3:List Value) (c4:Int)=>Xa (fun s=>Z1c l0 s.1 s.2) f5 (a3,c4)=some r2∧a3.length=n7∧n7≤c8∧d3.length=(c8 - n7)*1∧(b8=none→c8=0)) (fun (f5:Nat) (a3:List Str) (n7 c8:Nat) (b8:Option Nat) (d3:List Value) (c4:Int)=>[(1,.string (bs text1)),(5,sV b8 n7 c8),(27,.slice a9 b6 b7),(28,iV (l0.length:Int)),(29,iV c4)]) (fun (f5:Nat) (a3:List Str) (n7 c8:Nat) (b8:Option Nat) (d3:List Value) (c4:Int)=>[(eA b8 Yn a3 d3 9)]) (fun (f5:Nat) (a3:List Str) (n7 c8:Nat) (b8:Option Nat) (d3:List Value) (c4:Int)=>f5) Xd ([]) 0 0 none ([]) 0 ⟨r3,rfl,(Nat.le_refl _),(Xk 0 _),(fun _=>rfl)⟩ (aF rfl) (Pick.none Zg) ?_;rintro f5 a3 n7 c8 b8 d3 c4 ⟨H,e1,f6,f7,f8⟩;obtain ⟨r6,r7,rfl,H,k8⟩:=Vo H;have H:Z1c l0 a3 c4=some r7:=H;unfold Z1c at H;refine sR Y1 rfl ?_;refine Zq Zl ?_;refine dS ?_;rcases Zp H with ⟨h7,H⟩ | ⟨h7,H⟩
    ·refine Yw rfl h7 ?_;refine T.skip ?_;refine Zz ?_;refine Zh ?_;refine T.block ?_;obtain ⟨k9,H⟩:=Ya H;refine sR Y3 rfl ?_;refine Xr a5 k9 Zb Z4b Zji ?_;refine Kw a5 k9 Za Zie ?_;refine aN Za ?_;obtain ⟨l1,H⟩:=Ya H;obtain ⟨h8,r8,H⟩:=Zn H;obtain ⟨r9,H⟩:=Ya H;refine rG Y8 rfl ?_;refine Zc Za ?_;refine Zc Za ?_;refine TO.rem Zb (by decide) ?_;refine Z8z Za Zfk Zcj (Z2e l1.1 l1.2) ?_;refine Zw Lk Za (fun wc hwc=>Ll (i0:=((l0.getD c4.toNat 0).tmod 1000000000)) wc (hG.mono hwc) r8) ?_;rintro _ _ ⟨rfl,rfl⟩;refine Jc [.string ByteArray.empty] [0] Za Xp Ww Z2u Ys (by simp only [Xv,setCells,Value.cells,List.toList_toArray,List.getD_cons_zero,List.getD_cons_succ,List.set_cons_zero,List.set_cons_succ];rfl) (by kernel_rfl) ?_;intro C2;refine Z1y (f:=Yn) (s:=1) (xs:=a3) (ob:=b8) (j:=d3) (ys:=[h8]) (fun _=>rfl) (fun _=>rfl) Zef r9 Zb Zo e1 f6 f7 f8 (fun wc hwc=>(hwc.rs (f:=Yn) (s:=1) (xs:=[h8]) (j:=([])) (fun _=>rfl) Zi rfl (Nat.le_refl _) Wl)) ?_;intro h9 s6 s7 i4 i5 i6;refine Yc Za ?_;refine Zk ?_;refine Yv ?_;refine Zz ?_;refine Zm (aT [1,5,27,28,29] rfl) ?_;obtain ⟨s8,H⟩:=Ya H;refine rG Y2 rfl ?_;refine Xy s8 Zb ?_;refine Zc Za ?_;refine Zk ?_;have H:=Wr H k8;exact Z25 r6 (a3++([h8])) (n7+1) s6 h9 s7 (c4+1) ⟨H,(Ny e1 rfl),i4,i5,i6⟩ (Nat.lt_succ_self _) (aF rfl) (Zd Ze Zg)
    ·refine Yu rfl h7 ?_;refine T.exit ?_;refine Xc ?_;have H:=Wd H k8▸r5;refine Xc ?_;refine Ve ?_;exact Z5k a3 n7 c8 b8 d3 ⟨H,e1,f6,f7,f8⟩ (aF rfl) (Zd Ze Zg)
   ·
    rintro a2 d8 c35 a4 d9 ⟨H,a6,f9,t0,g0⟩;unfold Z52 at H;refine Zh ?_;obtain ⟨t1,t2,H⟩:=Zn H;obtain ⟨⟨i7,C3⟩,t3,H⟩:=Zn H;refine rG Y9 rfl ?_;refine Zc Za ?_;refine Zw Z9l Za (fun wc hwc=>Zb6 (x0:=a2) (s1:=([32,32]:Str)) wc (hwc.rs (f:=Yn) (s:=1) (xs:=a2) (j:=d9) (fun _=>rfl) Zi a6 f9 g0) t2) ?_;rintro _ _ ⟨rfl,rfl⟩;refine Zw Nc Za (fun wc hwc=>No (s0:=t1) wc (hG.mono hwc) t3) ?_;rintro _ _ ⟨t4,C4,c50,t5,t6,C5,C6,C7,rfl,rfl,e2,e3,i8,t7,i9⟩;refine Zc Za ?_;refine TO.extract Zb ?_;refine TO.extract Zb ?_;refine Xs Zj Gs ?_;intro C8;refine Xo Za Ze Jr Zj ?_;refine aN Za ?_;refine Zh ?_;refine sR Y5 rfl ?_;refine Zc Za ?_;refine Zc Za ?_;refine Ym (xs:=a2) a6 Zb Xp ?_;refine Zq Zl ?_;refine TO.neb Zb Zfm ?_;refine dN ?_;refine Zm (aT [1,5,8,9,51] rfl) ?_;rcases Zp H with ⟨j0,H⟩ | ⟨j0,H⟩
    ·refine Yr rfl j0 ?_;refine sR Y1 rfl ?_;refine aN Za ?_;refine T.ret ?_;refine Zy ?_;obtain rfl:=ret1 H;exact Yd Za (Res.tmp rfl) Zg ⟨rfl,rfl⟩
    ·
     refine Xf rfl (Bool.eq_false_iff.2 j0) ?_;refine T.skip ?_;refine Zz ?_;refine Zh ?_;refine Zh ?_;rcases Zp H with ⟨h6,H⟩ | ⟨h6,H⟩
     ·
      obtain ⟨l3,H⟩:=Ya H;rcases Zp H with ⟨j1,H⟩ | ⟨j1,H⟩
      ·refine rG Y17 rfl ?_;refine Zc Za ?_;refine Zc Za ?_;refine Zu (t:=53) (b':=true) rfl h6 ?_;refine Zs Za Z05 ?_;refine Zt Za Gz Zi rfl ?_;refine Ym (xs:=i7.Picks) (e2.len e3) Zb Xt ?_;refine Zc Za ?_;refine Ym (xs:=a2) a6 Zb Xp ?_;refine Nd l3 Zb ?_;refine Zq Zl ?_;refine Zc Za ?_;refine Zu (t:=61) (b':=true) rfl (decide_eq_true j1) ?_;refine Zf Za ?_;refine Zf Za ?_;refine Zf Za ?_;refine Zf Za ?_;refine Zf Za ?_;refine Ye Zb ?_;refine Ye Zb ?_;refine dN ?_;refine Zm (aT [1,68] rfl) ?_;refine Yr rfl rfl ?_;refine sR Y1 rfl ?_;refine aN Za ?_;refine T.ret ?_;refine Zy ?_;obtain rfl:=ret1 H;exact Yd Za (Res.tmp rfl) Zg ⟨rfl,rfl⟩
      ·
       obtain ⟨t8,u0,H⟩:=Zn H;obtain ⟨u2,u3,H⟩:=Zn H;refine rG Y17 rfl ?_;refine Zc Za ?_;refine Zc Za ?_;refine Zu (t:=53) (b':=true) rfl h6 ?_;refine Zs Za Z05 ?_;refine Zt Za Gz Zi rfl ?_;refine Ym (xs:=i7.Picks) (e2.len e3) Zb Xt ?_;refine Zc Za ?_;refine Ym (xs:=a2) a6 Zb Xp ?_;refine Nd l3 Zb ?_;refine Zq Zl ?_;refine Zc Za ?_;refine Zu (t:=61) (b':=false) rfl (decide_eq_false j1) ?_;refine Xj Za Nu Zi rfl ?_;refine Zw Z7l Za (fun wc hwc=>Z8i (p0:=i7) wc (e2.rs hwc (fun _=>rfl) Yl e3 i8 i9) (hG.mono hwc) u0) ?_;rintro _ _ ⟨rfl,rfl⟩;refine Zc Za ?_;refine Zw Z9l Za (fun wc hwc=>Zb6 (x0:=a2) (s1:=([32]:Str)) wc (hwc.rs (f:=Yn) (s:=1) (xs:=a2) (j:=d9) (fun _=>rfl) Xn a6 f9 g0) u3) ?_;rintro _ _ ⟨rfl,rfl⟩;refine Ri (p:=t8) (q:=u2) Zb ?_;refine Yg Zb ?_;refine Ye Zb ?_;refine dN ?_;refine Zm (aT [1,68] rfl) ?_;rcases Zp H with ⟨j2,H⟩ | ⟨j2,H⟩
       ·refine Yw rfl j2 ?_;refine sR Y1 rfl ?_;refine aN Za ?_;refine T.ret ?_;refine Zy ?_;obtain rfl:=ret1 H;exact Yd Za (Res.tmp rfl) Zg ⟨rfl,rfl⟩
       ·
        refine Yu rfl j2 ?_;refine T.skip ?_;refine Zz ?_;refine Zh ?_;obtain ⟨⟨l4,C9⟩,u5,H⟩:=Zn H;refine rG Y8 rfl ?_;refine Zc Za ?_;refine Zw Nc Za (fun wc hwc=>No (s0:=text1) wc (hG.mono hwc) u5) ?_;rintro _ _ ⟨u6,D0,c78,u7,u8,D1,D2,D3,rfl,rfl,g2,g4,g5,u9,g6⟩;refine Zc Za ?_;refine TO.extract Zb ?_;refine TO.extract Zb ?_;refine Xs Zj Gs ?_;intro D4;refine Xo Za Ze Jr Zj ?_;refine aN Za ?_;refine Zh ?_;refine sR Y1 rfl ?_;refine Zc Za ?_;refine dN ?_;refine Zm (aT [10,74] rfl) ?_;refine Wi (fun (e4:Unit)=>Z0m=some r0) (fun (e4:Unit)=>[]) (fun (e4:Unit)=>[]) ?_ ?_
        ·
         rcases Zp H with ⟨j3,H⟩ | ⟨j3,H⟩
         ·
          refine Yr rfl j3 ?_;refine Zh ?_;obtain ⟨v0,v2,H⟩:=Zn H;obtain ⟨⟨v3,D5⟩,v4,H⟩:=Zn H;refine rG Y9 rfl ?_;refine Xj Za Nu Zi rfl ?_;refine Zw Z7l Za (fun wc hwc=>Z8i (p0:=l4) wc (g2.rs hwc (fun _=>rfl) Yl g4 g5 g6) (hG.mono hwc) v2) ?_;rintro _ _ ⟨rfl,rfl⟩;refine Zw Nc Za (fun wc hwc=>No (s0:=v0) wc (hG.mono hwc) v4) ?_;rintro _ _ ⟨v6,D6,c100,l5,l6,v7,v8,v9,rfl,rfl,g7,g8,g9,l7,h0⟩;refine Zc Za ?_;refine TO.extract Zb ?_;refine TO.extract Zb ?_;refine Xs Zj Gs ?_;intro w2;refine Xo Za Ze Jr Zj ?_;refine aN Za ?_;refine Zh ?_;rcases Zp H with ⟨a7,H⟩ | ⟨a7,H⟩
          ·refine rG Y24 rfl ?_;refine Zc Za ?_;refine TO.not Za ?_;refine Zc Za ?_;refine Zu (t:=83) (b':=true) rfl a7 ?_;refine Zf Za ?_;refine Zf Za ?_;refine Zf Za ?_;refine Zf Za ?_;refine Zf Za ?_;refine Ye Zb ?_;refine Zc Za ?_;refine Zf Za ?_;refine Zf Za ?_;refine Zf Za ?_;refine Zf Za ?_;refine Zf Za ?_;refine Ye Zb ?_;refine Zc Za ?_;refine Zf Za ?_;refine Zf Za ?_;refine Zf Za ?_;refine Zf Za ?_;refine Zf Za ?_;refine Zf Za ?_;refine Ye Zb ?_;refine dN ?_;refine Zm (aT [104] rfl) ?_;refine Yr rfl rfl ?_;refine sR Y1 rfl ?_;refine aN Za ?_;refine T.ret ?_;refine Zy ?_;obtain rfl:=ret1 H;exact Yd Za (Res.tmp rfl) Zg ⟨rfl,rfl⟩
          ·
           rcases Zp H with ⟨c7,H⟩ | ⟨c7,H⟩
           ·refine rG Y24 rfl ?_;refine Zc Za ?_;refine TO.not Za ?_;refine Zc Za ?_;refine Zu (t:=83) (b':=false) rfl (Bool.eq_false_iff.2 a7) ?_;refine Zs Za Ko ?_;refine Zt Za Yf Zi rfl ?_;refine Zs Za Ko ?_;refine Zt Za Yf Xn rfl ?_;refine Zq Zl ?_;refine Yg Zb ?_;refine Zc Za ?_;refine Zu (t:=90) (b':=true) rfl (decide_eq_true c7) ?_;refine Zf Za ?_;refine Zf Za ?_;refine Zf Za ?_;refine Zf Za ?_;refine Zf Za ?_;refine Ye Zb ?_;refine Zc Za ?_;refine Zf Za ?_;refine Zf Za ?_;refine Zf Za ?_;refine Zf Za ?_;refine Zf Za ?_;refine Zf Za ?_;refine Ye Zb ?_;refine dN ?_;refine Zm (aT [104] rfl) ?_;refine Yr rfl rfl ?_;refine sR Y1 rfl ?_;refine aN Za ?_;refine T.ret ?_;refine Zy ?_;obtain rfl:=ret1 H;exact Yd Za (Res.tmp rfl) Zg ⟨rfl,rfl⟩
           ·
            rcases Zp H with ⟨e6,H⟩ | ⟨e6,H⟩
            ·refine rG Y24 rfl ?_;refine Zc Za ?_;refine TO.not Za ?_;refine Zc Za ?_;refine Zu (t:=83) (b':=false) rfl (Bool.eq_false_iff.2 a7) ?_;refine Zs Za Ko ?_;refine Zt Za Yf Zi rfl ?_;refine Zs Za Ko ?_;refine Zt Za Yf Xn rfl ?_;refine Zq Zl ?_;refine Yg Zb ?_;refine Zc Za ?_;refine Zu (t:=90) (b':=false) rfl (decide_eq_false c7) ?_;refine Zs Za Nn ?_;refine Zt Za Yf Zi rfl ?_;refine Zs Za Nn ?_;refine Zt Za Yf Xn rfl ?_;refine Zq Zl ?_;refine Yg Zb ?_;refine Zc Za ?_;refine Zu (t:=97) (b':=true) rfl (decide_eq_true e6) ?_;refine Zf Za ?_;refine Zf Za ?_;refine Zf Za ?_;refine Zf Za ?_;refine Zf Za ?_;refine Zf Za ?_;refine Ye Zb ?_;refine dN ?_;refine Zm (aT [104] rfl) ?_;refine Yr rfl rfl ?_;refine sR Y1 rfl ?_;refine aN Za ?_;refine T.ret ?_;refine Zy ?_;obtain rfl:=ret1 H;exact Yd Za (Res.tmp rfl) Zg ⟨rfl,rfl⟩
            ·
             obtain ⟨w3,j4,H⟩:=Zn H;refine rG Y24 rfl ?_;refine Zc Za ?_;refine TO.not Za ?_;refine Zc Za ?_;refine Zu (t:=83) (b':=false) rfl (Bool.eq_false_iff.2 a7) ?_;refine Zs Za Ko ?_;refine Zt Za Yf Zi rfl ?_;refine Zs Za Ko ?_;refine Zt Za Yf Xn rfl ?_;refine Zq Zl ?_;refine Yg Zb ?_;refine Zc Za ?_;refine Zu (t:=90) (b':=false) rfl (decide_eq_false c7) ?_;refine Zs Za Nn ?_;refine Zt Za Yf Zi rfl ?_;refine Zs Za Nn ?_;refine Zt Za Yf Xn rfl ?_;refine Zq Zl ?_;refine Yg Zb ?_;refine Zc Za ?_;refine Zu (t:=97) (b':=false) rfl (decide_eq_false e6) ?_;refine Zs Za Z05 ?_;refine Zt Za Gz Zi rfl ?_;refine Zs Za Z05 ?_;refine Zt Za Gz Xn rfl ?_;refine Zw Zbi Za (fun wc hwc=>Za1 (a0:=v3.Picks) (b1:=l4.Picks) wc (g7.rs hwc (fun _=>rfl) Yl g8 g9 h0) (g2.rs hwc (fun _=>rfl) Uo g4 g5 g6) j4) ?_;rintro _ _ ⟨rfl,rfl⟩;refine TO.not Za ?_;refine Yg Zb ?_;refine dN ?_;refine Zm (aT [104] rfl) ?_;rcases Zp H with ⟨e7,H⟩ | ⟨e7,H⟩
             ·refine Yr rfl e7 ?_;refine sR Y1 rfl ?_;refine aN Za ?_;refine T.ret ?_;refine Zy ?_;obtain rfl:=ret1 H;exact Yd Za (Res.tmp rfl) Zg ⟨rfl,rfl⟩
             ·refine Xf rfl (Bool.eq_false_iff.2 e7) ?_;refine T.skip ?_;exact Xe () H Js Zg
         ·refine Xf rfl (Bool.eq_false_iff.2 j3) ?_;refine T.skip ?_;exact Xe () H Js Zg
        ·
         rintro e4 H;unfold Z0m at H;refine Zh ?_;obtain ⟨⟨w4,w5⟩,j5,H⟩:=Zn H;refine rG Y7 rfl ?_;refine Zw Nc Za (fun wc hwc=>No (s0:=([49,32,49,48,48,48,48,48,48,48,48,48]:Str)) wc (hG.mono hwc) j5) ?_;rintro _ _ ⟨l8,w6,w7,l9,m0,w8,w9,x1,rfl,rfl,m1,m2,m3,m4,m5⟩;refine Zc Za ?_;refine TO.extract Zb ?_;refine TO.extract Zb ?_;refine Xs Zj Gs ?_;intro x3;refine Xo Za Ze Jr Zj ?_;refine aN Za ?_;refine Zh ?_;obtain ⟨⟨x4,x5⟩,j6,H⟩:=Zn H;refine rG Y7 rfl ?_;refine Zw Nc Za (fun wc hwc=>No (s0:=([49,32,45,49]:Str)) wc (hG.mono hwc) j6) ?_;rintro _ _ ⟨m6,x6,c145,m7,m8,x7,x8,x9,rfl,rfl,m9,n6,n8,o0,o1⟩;refine Zc Za ?_;refine TO.extract Zb ?_;refine TO.extract Zb ?_;refine Xs Zj Gs ?_;intro y0;refine Xo Za Ze Jr Zj ?_;refine aN Za ?_;refine Zm (aT [15,17] rfl) ?_;refine Zh ?_;rcases Zp H with ⟨d0,H⟩ | ⟨d0,H⟩
         ·
          rcases Zp H with ⟨e8,H⟩ | ⟨e8,H⟩
          ·obtain ⟨y2,j7,H⟩:=Zn H;refine rG Y10 rfl ?_;refine Zc Za ?_;refine TO.not Za ?_;refine Zc Za ?_;refine Zu (t:=115) (b':=true) rfl d0 ?_;refine Zc Za ?_;refine TO.not Za ?_;refine Ye Zb ?_;refine Zc Za ?_;refine Zu (t:=119) (b':=true) rfl e8 ?_;refine Zw Z6u Za (fun wc hwc=>Z6r  wc (hG.mono hwc) j7) ?_;rintro _ _ ⟨rfl,rfl⟩;refine Ye Zb ?_;refine aN Za ?_;refine Zm (aT [4] rfl) ?_;refine T.ret ?_;obtain rfl:=ret1 H;exact Yd Za (Res.tmp rfl) Zg ⟨rfl,rfl⟩
          ·refine rG Y10 rfl ?_;refine Zc Za ?_;refine TO.not Za ?_;refine Zc Za ?_;refine Zu (t:=115) (b':=true) rfl d0 ?_;refine Zc Za ?_;refine TO.not Za ?_;refine Ye Zb ?_;refine Zc Za ?_;refine Zu (t:=119) (b':=false) rfl (Bool.eq_false_iff.2 e8) ?_;refine Zf Za ?_;refine Yg Zb ?_;refine aN Za ?_;refine Zm (aT [4] rfl) ?_;refine T.ret ?_;obtain rfl:=ret1 H;exact Yd Za (Res.tmp rfl) Zg ⟨rfl,rfl⟩
         ·refine rG Y10 rfl ?_;refine Zc Za ?_;refine TO.not Za ?_;refine Zc Za ?_;refine Zu (t:=115) (b':=false) rfl (Bool.eq_false_iff.2 d0) ?_;refine Zf Za ?_;refine Zf Za ?_;refine Yg Zb ?_;refine Zc Za ?_;refine Zf Za ?_;refine Yg Zb ?_;refine aN Za ?_;refine Zm (aT [4] rfl) ?_;refine T.ret ?_;obtain rfl:=ret1 H;exact Yd Za (Res.tmp rfl) Zg ⟨rfl,rfl⟩
     ·
      refine rG Y17 rfl ?_;refine Zc Za ?_;refine Zc Za ?_;refine Zu (t:=53) (b':=false) rfl (Bool.eq_false_iff.2 h6) ?_;refine Zf Za ?_;refine Zf Za ?_;refine Zf Za ?_;refine Zf Za ?_;refine Zf Za ?_;refine Zf Za ?_;refine Zf Za ?_;refine Zf Za ?_;refine Vw Za ?_;refine Vw Za ?_;refine Vw Za ?_;refine Vw Za ?_;refine Vw Za ?_;refine Zf Za ?_;refine Yg Zb ?_;refine dN ?_;refine Zm (aT [1,68] rfl) ?_;refine Xf rfl rfl ?_;refine T.skip ?_;refine Zz ?_;refine Zh ?_;obtain ⟨⟨h1,y3⟩,j8,H⟩:=Zn H;refine rG Y8 rfl ?_;refine Zc Za ?_;refine Zw Nc Za (fun wc hwc=>No (s0:=text1) wc (hG.mono hwc) j8) ?_;rintro _ _ ⟨o4,y4,y5,o5,o6,y6,y7,y8,rfl,rfl,d4,d5,d6,o7,d7⟩;refine Zc Za ?_;refine TO.extract Zb ?_;refine TO.extract Zb ?_;refine Xs Zj Gs ?_;intro y9;refine Xo Za Ze Jr Zj ?_;refine aN Za ?_;refine Zh ?_;refine sR Y1 rfl ?_;refine Zc Za ?_;refine dN ?_;refine Zm (aT [10,74] rfl) ?_;refine Wi (fun (e9:Unit)=>Z0t=some r0) (fun (e9:Unit)=>[]) (fun (e9:Unit)=>[]) ?_ ?_
      ·
       rcases Zp H with ⟨f0,H⟩ | ⟨f0,H⟩
       ·
        refine Yr rfl f0 ?_;refine Zh ?_;obtain ⟨j9,k1,H⟩:=Zn H;obtain ⟨⟨k2,z0⟩,k3,H⟩:=Zn H;refine rG Y9 rfl ?_;refine Xj Za Nu Zi rfl ?_;refine Zw Z7l Za (fun wc hwc=>Z8i (p0:=h1) wc (d4.rs hwc (fun _=>rfl) Yl d5 d6 d7) (hG.mono hwc) k1) ?_;rintro _ _ ⟨rfl,rfl⟩;refine Zw Nc Za (fun wc hwc=>No (s0:=j9) wc (hG.mono hwc) k3) ?_;rintro _ _ ⟨o8,z6,z7,o9,p2,z8,A1,A2,rfl,rfl,h2,h3,h4,p3,h5⟩;refine Zc Za ?_;refine TO.extract Zb ?_;refine TO.extract Zb ?_;refine Xs Zj Gs ?_;intro A3;refine Xo Za Ze Jr Zj ?_;refine aN Za ?_;refine Zh ?_;rcases Zp H with ⟨a8,H⟩ | ⟨a8,H⟩
        ·refine rG Y24 rfl ?_;refine Zc Za ?_;refine TO.not Za ?_;refine Zc Za ?_;refine Zu (t:=83) (b':=true) rfl a8 ?_;refine Zf Za ?_;refine Zf Za ?_;refine Zf Za ?_;refine Zf Za ?_;refine Zf Za ?_;refine Ye Zb ?_;refine Zc Za ?_;refine Zf Za ?_;refine Zf Za ?_;refine Zf Za ?_;refine Zf Za ?_;refine Zf Za ?_;refine Ye Zb ?_;refine Zc Za ?_;refine Zf Za ?_;refine Zf Za ?_;refine Zf Za ?_;refine Zf Za ?_;refine Zf Za ?_;refine Zf Za ?_;refine Ye Zb ?_;refine dN ?_;refine Zm (aT [104] rfl) ?_;refine Yr rfl rfl ?_;refine sR Y1 rfl ?_;refine aN Za ?_;refine T.ret ?_;refine Zy ?_;obtain rfl:=ret1 H;exact Yd Za (Res.tmp rfl) Zg ⟨rfl,rfl⟩
        ·
         rcases Zp H with ⟨d1,H⟩ | ⟨d1,H⟩
         ·refine rG Y24 rfl ?_;refine Zc Za ?_;refine TO.not Za ?_;refine Zc Za ?_;refine Zu (t:=83) (b':=false) rfl (Bool.eq_false_iff.2 a8) ?_;refine Zs Za Ko ?_;refine Zt Za Yf Zi rfl ?_;refine Zs Za Ko ?_;refine Zt Za Yf Xn rfl ?_;refine Zq Zl ?_;refine Yg Zb ?_;refine Zc Za ?_;refine Zu (t:=90) (b':=true) rfl (decide_eq_true d1) ?_;refine Zf Za ?_;refine Zf Za ?_;refine Zf Za ?_;refine Zf Za ?_;refine Zf Za ?_;refine Ye Zb ?_;refine Zc Za ?_;refine Zf Za ?_;refine Zf Za ?_;refine Zf Za ?_;refine Zf Za ?_;refine Zf Za ?_;refine Zf Za ?_;refine Ye Zb ?_;refine dN ?_;refine Zm (aT [104] rfl) ?_;refine Yr rfl rfl ?_;refine sR Y1 rfl ?_;refine aN Za ?_;refine T.ret ?_;refine Zy ?_;obtain rfl:=ret1 H;exact Yd Za (Res.tmp rfl) Zg ⟨rfl,rfl⟩
         ·
          rcases Zp H with ⟨f2,H⟩ | ⟨f2,H⟩
          ·refine rG Y24 rfl ?_;refine Zc Za ?_;refine TO.not Za ?_;refine Zc Za ?_;refine Zu (t:=83) (b':=false) rfl (Bool.eq_false_iff.2 a8) ?_;refine Zs Za Ko ?_;refine Zt Za Yf Zi rfl ?_;refine Zs Za Ko ?_;refine Zt Za Yf Xn rfl ?_;refine Zq Zl ?_;refine Yg Zb ?_;refine Zc Za ?_;refine Zu (t:=90) (b':=false) rfl (decide_eq_false d1) ?_;refine Zs Za Nn ?_;refine Zt Za Yf Zi rfl ?_;refine Zs Za Nn ?_;refine Zt Za Yf Xn rfl ?_;refine Zq Zl ?_;refine Yg Zb ?_;refine Zc Za ?_;refine Zu (t:=97) (b':=true) rfl (decide_eq_true f2) ?_;refine Zf Za ?_;refine Zf Za ?_;refine Zf Za ?_;refine Zf Za ?_;refine Zf Za ?_;refine Zf Za ?_;refine Ye Zb ?_;refine dN ?_;refine Zm (aT [104] rfl) ?_;refine Yr rfl rfl ?_;refine sR Y1 rfl ?_;refine aN Za ?_;refine T.ret ?_;refine Zy ?_;obtain rfl:=ret1 H;exact Yd Za (Res.tmp rfl) Zg ⟨rfl,rfl⟩
          ·
           obtain ⟨A4,k4,H⟩:=Zn H;refine rG Y24 rfl ?_;refine Zc Za ?_;refine TO.not Za ?_;refine Zc Za ?_;refine Zu (t:=83) (b':=false) rfl (Bool.eq_false_iff.2 a8) ?_;refine Zs Za Ko ?_;refine Zt Za Yf Zi rfl ?_;refine Zs Za Ko ?_;refine Zt Za Yf Xn rfl ?_;refine Zq Zl ?_;refine Yg Zb ?_;refine Zc Za ?_;refine Zu (t:=90) (b':=false) rfl (decide_eq_false d1) ?_;refine Zs Za Nn ?_;refine Zt Za Yf Zi rfl ?_;refine Zs Za Nn ?_;refine Zt Za Yf Xn rfl ?_;refine Zq Zl ?_;refine Yg Zb ?_;refine Zc Za ?_;refine Zu (t:=97) (b':=false) rfl (decide_eq_false f2) ?_;refine Zs Za Z05 ?_;refine Zt Za Gz Zi rfl ?_;refine Zs Za Z05 ?_;refine Zt Za Gz Xn rfl ?_;refine Zw Zbi Za (fun wc hwc=>Za1 (a0:=k2.Picks) (b1:=h1.Picks) wc (h2.rs hwc (fun _=>rfl) Yl h3 h4 h5) (d4.rs hwc (fun _=>rfl) Uo d5 d6 d7) k4) ?_;rintro _ _ ⟨rfl,rfl⟩;refine TO.not Za ?_;refine Yg Zb ?_;refine dN ?_;refine Zm (aT [104] rfl) ?_;rcases Zp H with ⟨f3,H⟩ | ⟨f3,H⟩
           ·refine Yr rfl f3 ?_;refine sR Y1 rfl ?_;refine aN Za ?_;refine T.ret ?_;refine Zy ?_;obtain rfl:=ret1 H;exact Yd Za (Res.tmp rfl) Zg ⟨rfl,rfl⟩
           ·refine Xf rfl (Bool.eq_false_iff.2 f3) ?_;refine T.skip ?_;exact Xe () H Js Zg
       ·refine Xf rfl (Bool.eq_false_iff.2 f0) ?_;refine T.skip ?_;exact Xe () H Js Zg
      ·
       rintro e9 H;unfold Z0t at H;refine Zh ?_;obtain ⟨⟨A5,A6⟩,k5,H⟩:=Zn H;refine rG Y7 rfl ?_;refine Zw Nc Za (fun wc hwc=>No (s0:=([49,32,49,48,48,48,48,48,48,48,48,48]:Str)) wc (hG.mono hwc) k5) ?_;rintro _ _ ⟨p4,A7,A8,p5,p6,A9,B0,B1,rfl,rfl,p7,p8,p9,q0,q1⟩;refine Zc Za ?_;refine TO.extract Zb ?_;refine TO.extract Zb ?_;refine Xs Zj Gs ?_;intro B2;refine Xo Za Ze Jr Zj ?_;refine aN Za ?_;refine Zh ?_;obtain ⟨⟨B3,B4⟩,k6,H⟩:=Zn H;refine rG Y7 rfl ?_;refine Zw Nc Za (fun wc hwc=>No (s0:=([49,32,45,49]:Str)) wc (hG.mono hwc) k6) ?_;rintro _ _ ⟨q2,B5,B6,q3,q4,B7,B8,B9,rfl,rfl,q5,q6,q7,q8,q9⟩;refine Zc Za ?_;refine TO.extract Zb ?_;refine TO.extract Zb ?_;refine Xs Zj Gs ?_;intro C0;refine Xo Za Ze Jr Zj ?_;refine aN Za ?_;refine Zm (aT [15,17] rfl) ?_;refine Zh ?_;rcases Zp H with ⟨d2,H⟩ | ⟨d2,H⟩
       ·
        rcases Zp H with ⟨f4,H⟩ | ⟨f4,H⟩
        ·obtain ⟨C1,k7,H⟩:=Zn H;refine rG Y10 rfl ?_;refine Zc Za ?_;refine TO.not Za ?_;refine Zc Za ?_;refine Zu (t:=115) (b':=true) rfl d2 ?_;refine Zc Za ?_;refine TO.not Za ?_;refine Ye Zb ?_;refine Zc Za ?_;refine Zu (t:=119) (b':=true) rfl f4 ?_;refine Zw Z6u Za (fun wc hwc=>Z6r  wc (hG.mono hwc) k7) ?_;rintro _ _ ⟨rfl,rfl⟩;refine Ye Zb ?_;refine aN Za ?_;refine Zm (aT [4] rfl) ?_;refine T.ret ?_;obtain rfl:=ret1 H;exact Yd Za (Res.tmp rfl) Zg ⟨rfl,rfl⟩
        ·refine rG Y10 rfl ?_;refine Zc Za ?_;refine TO.not Za ?_;refine Zc Za ?_;refine Zu (t:=115) (b':=true) rfl d2 ?_;refine Zc Za ?_;refine TO.not Za ?_;refine Ye Zb ?_;refine Zc Za ?_;refine Zu (t:=119) (b':=false) rfl (Bool.eq_false_iff.2 f4) ?_;refine Zf Za ?_;refine Yg Zb ?_;refine aN Za ?_;refine Zm (aT [4] rfl) ?_;refine T.ret ?_;obtain rfl:=ret1 H;exact Yd Za (Res.tmp rfl) Zg ⟨rfl,rfl⟩
       ·refine rG Y10 rfl ?_;refine Zc Za ?_;refine TO.not Za ?_;refine Zc Za ?_;refine Zu (t:=115) (b':=false) rfl (Bool.eq_false_iff.2 d2) ?_;refine Zf Za ?_;refine Zf Za ?_;refine Yg Zb ?_;refine Zc Za ?_;refine Zf Za ?_;refine Yg Zb ?_;refine aN Za ?_;refine Zm (aT [4] rfl) ?_;refine T.ret ?_;obtain rfl:=ret1 H;exact Yd Za (Res.tmp rfl) Zg ⟨rfl,rfl⟩
end Go.Proofs.YtddknfpolkkbjaaGreatDoor.Ax
namespace Go.Acq
open Go
def hit (a:Arc)(v:Nat):Nat:=if a.fr=a.to then 0 else if a.fr=v∨a.to=v then 1 else 0
def cnt (al:List Arc)(v:Nat):Nat→Nat
  | 0=>0
  | k+1=>cnt al v k+hit (al.getD k default) v
def begins (al:List Arc):Nat→Nat
  | 0=>0
  | v+1=>begins al v+cnt al v al.length
def vtx (a:Arc)(s:Bool):Int:=if s then a.to else a.fr
def pos (al:List Arc)(i:Nat)(s:Bool):Nat:=begins al (vtx (al.getD i default) s).toNat+cnt al (vtx (al.getD i default) s).toNat i
end Go.Acq
namespace Go.Acq
open Go
def SomeAt (m:Nat)(ol:List Arc):Prop:=∀ a,a∈ol→endsB m a=true∧0≤a.cap∧a.cap<1125899906842624
end Go.Acq
namespace Go.Acq
open Go
def turn (a:Arc):Arc:=⟨a.to,a.fr,a.cap⟩
end Go.Acq
namespace Go.Acq
open Go
theorem ok_eq {α:Type}{m:Option α}{v:α}(h:Ok m (fun a=>a=v)):m=some v:=by obtain ⟨a,h1,h2⟩:=h;rw [h1,h2]
abbrev lenok (n:Nat):Prop:=n≤9223372036854775807
theorem s_Ints {a b:List Int}(h:lenok a.length):Rn a b=some (decide (a=b)):=by
 refine ok_eq ?_
 unfold Rn
 refine Ok.ite.2 ⟨fun hl=>Ok.some.2 (decide_eq_false ?_).symm,fun hl=>?_⟩
 ·rintro rfl;exact hl rfl
 ·
  refine Ok.bind.2 (Ok.loop (fun x=>0≤x∧x≤a.length∧∀ i,i<x.toNat→a.getD i 0=b.getD i 0) (fun x=>(a.length-x).toNat) ⟨by omega,by omega,fun i hi=>by omega⟩ (by unfold Xd;omega) ?_)
  rintro x ⟨h0,h1,h2⟩
  unfold Z2k
  refine Ok.ite.2 ⟨fun hx=>?_,fun hx=>?_⟩
  ·
   refine Ok.gd.2 ⟨(by omega),Ok.gd.2 ⟨(by omega),Ok.ite.2 ⟨fun hne=>?_,fun hne=>?_⟩⟩⟩
   ·
    refine Ok.some.2 (Ok.some.2 (decide_eq_false ?_).symm)
    rintro rfl;exact hne rfl
   ·
    refine Ok.gd.2 ⟨(by omega),Ok.some.2 ⟨⟨by omega,by omega,fun i hi=>?_⟩,by omega⟩⟩
    rcases Nat.lt_or_ge i x.toNat with h3 | h3
    ·exact h2 i h3
    ·rw [show i=x.toNat by omega];exact Classical.not_not.1 hne
  ·
   refine Ok.some.2 (Ok.some.2 (decide_eq_true ?_).symm)
   exact Zgk 0 (by omega) (fun i hi=>h2 i (by omega))
end Go.Acq
namespace Go.Acq
open Go
structure Made (n:Net)(v a:Int):Prop where
  check:checkE n.N n.S n.T n.Arcs=0
  rows:SomeAt n.N.toNat n.Arcs
  verts:n.N≤v
  arcs:(n.Arcs.length:Int)≤a
  ends:2≤n.N∧0≤n.S∧n.S<n.N∧0≤n.T∧n.T<n.N∧n.S≠n.T
end Go.Acq
namespace Go.Acq
open Go
def ex (al:List Arc)(f:List Int)(v:Int):Nat→Int
  | 0=>0
  | k+1=>ex al f v k-(if (al.getD k default).fr=v then f.getD k 0 else 0)+(if (al.getD k default).to=v then f.getD k 0 else 0)
def part (al:List Arc)(f:List Int)(j:Int):Nat→Int
  | 0=>0
  | k+1=>part al f j k-(if (al.getD k default).fr<j then f.getD k 0 else 0)+(if (al.getD k default).to<j then f.getD k 0 else 0)
end Go.Acq
namespace Go.Acq
open Go Go.Lib
theorem bs_getD (x:Str)(i:Nat):(bs x).get! i=x.getD i 0:=by
 by_cases h:i<x.length
 ·rw [Zd8 x i h,List.getD_eq_getElem?_getD,List.getElem?_eq_getElem h];rfl
 ·
  rw [List.getD_eq_getElem?_getD,List.getElem?_eq_none (by omega)]
  simp [ByteArray.get!,bs,h];rfl
theorem Zaj (x:Str)(i:Nat)(h:i<x.length)(ha:128≤(x.getD i 0).toNat):∃ r k,Utf8.decode (bs x) i=(r,k)∧128≤r∧1≤k∧∀ j,j<k→i+j<x.length∧128≤(x.getD (i+j) 0).toNat:=by
 have h0:∀ j,j<1→i+j<x.length∧128≤(x.getD (i+j) 0).toNat:=fun j hj=>by
  obtain rfl:j=0:=by omega
  exact ⟨h,ha⟩
 have hc:∀ j,(decide (i+j<(bs x).size)&&((x.getD (i+j) 0).toNat / 64==2))=true→i+j<x.length∧128≤(x.getD (i+j) 0).toNat:=fun j hj=>by
  simp only [Bool.and_eq_true,decide_eq_true_eq,beq_iff_eq,bs_size] at hj
  omega
 unfold Utf8.decode
 simp only [bs_getD,Nat.add_zero]
 rw [if_neg (by omega)]
 split
 ·
  rename_i h1
  rw [Bool.and_eq_true] at h1
  split
  ·
   refine ⟨_,_,rfl,by assumption,by omega,fun j hj=>?_⟩
   rcases (by omega:j=0∨j=1) with rfl | rfl
   ·exact h0 0 (by omega)
   ·exact hc 1 h1.2
  ·exact ⟨_,_,rfl,by decide,by omega,h0⟩
 ·
  split
  ·
   rename_i h1
   rw [Bool.and_eq_true,Bool.and_eq_true] at h1
   split
   ·
    rename_i h2
    rw [Bool.and_eq_true,decide_eq_true_eq] at h2
    refine ⟨_,_,rfl,by omega,by omega,fun j hj=>?_⟩
    rcases (by omega:j=0∨j=1∨j=2) with rfl | rfl | rfl
    ·exact h0 0 (by omega)
    ·exact hc 1 h1.1.2
    ·exact hc 2 h1.2
   ·exact ⟨_,_,rfl,by decide,by omega,h0⟩
  ·
   split
   ·
    rename_i h1
    rw [Bool.and_eq_true,Bool.and_eq_true,Bool.and_eq_true] at h1
    split
    ·
     rename_i h2
     rw [Bool.and_eq_true,decide_eq_true_eq] at h2
     refine ⟨_,_,rfl,by omega,by omega,fun j hj=>?_⟩
     rcases (by omega:j=0∨j=1∨j=2∨j=3) with rfl | rfl | rfl | rfl
     ·exact h0 0 (by omega)
     ·exact hc 1 h1.1.1.2
     ·exact hc 2 h1.1.2
     ·exact hc 3 h1.2
    ·exact ⟨_,_,rfl,by decide,by omega,h0⟩
   ·exact ⟨_,_,rfl,by decide,by omega,h0⟩
theorem Zbd {l:Str}{i:Nat}{c:UInt8}(h:l[i]?=some c):l.getD i 0=c:=by rw [List.getD_eq_getElem?_getD,h];rfl
theorem Zeo {p:Nat→Bool}(hp:∀ r,128≤r→p r=false)(l:Str)(pos:Nat)(h:pos<l.length) :
    (∃ c,l[pos]?=some c∧p c.toNat=true∧Utf8.decode (bs l) pos=(c.toNat,1))∨(∃ r k,Utf8.decode (bs l) pos=(r,k)∧p r=false∧1≤k∧pos+k≤l.length∧∀ b∈(l.drop pos).take k,p b.toNat=false):=by
  obtain ⟨c,hc⟩:=Z3j h
  by_cases ha:c.toNat<128
  · have hd := Z2x l pos c hc ha
    cases hq:p c.toNat with
    | true=>exact .inl ⟨c,hc,hq,hd⟩
    | false =>
      refine .inr ⟨_,_,hd,hq,by omega,by omega,fun b hb=>?_⟩
      rw [Z1s hc] at hb
      simp only [List.take_succ_cons,List.take_zero,List.mem_singleton] at hb
      rw [hb];exact hq
  · obtain ⟨r, k, hd, hr, hk, hj⟩ := Zaj l pos h (by rw [Zbd hc]; omega)
    have hle:pos+k≤l.length:=by have:=(hj (k-1) (by omega)).1;omega
    refine .inr ⟨r,k,hd,hp r hr,hk,hle,fun b hb=>?_⟩
    obtain ⟨j,hjl,rfl⟩:=List.mem_iff_getElem.1 hb
    rw [List.length_take,List.length_drop] at hjl
    have:=(hj j (by omega)).2
    rw [List.getElem_take,List.getElem_drop]
    rw [List.getD_eq_getElem?_getD,List.getElem?_eq_getElem (by omega)] at this
    exact hp _ this
theorem Z1j {p:Nat→Bool}{l:Str}:∀ (seg cur:Str),(∀ b∈seg,p b.toNat=false)→Wk p (seg++l) cur=Wk p l (cur++seg)
 | [],cur,_=>by rw [List.nil_append,List.append_nil]
 | b::seg,cur,h=>by
  rw [List.cons_append,Z8p (by rw [h b (.head _)];decide),Z1j seg _ (fun x hx=>h x (.tail _ hx)),List.append_assoc];rfl
theorem Zit {p:Nat→Bool}(hp:∀ r,128≤r→p r=false)(l:Str):∀ (f pos:Nat) (st:Option Nat) (acc:List (Nat×Nat)),l.length≤pos+f→pos≤l.length→opn st pos →
    (closeSpans (bs l) (spansFromP p (bs l) f pos st acc)).map (fun x=>(l.take x.2).drop x.1)=acc.map (fun x=>(l.take x.2).drop x.1)++Wk p (l.drop pos) (Vg l st pos):=by
  have hne:∀ a pos,a<pos→pos≤l.length→Vg l (some a) pos≠[]:=fun a pos h1 h2 e=>by
    have:=congrArg List.length e
    unfold Vg at this
    simp only at this
    rw [List.length_drop,List.length_take] at this
    simp only [List.length_nil] at this
    omega
  have fin:∀ (f pos:Nat) (st:Option Nat) (acc:List (Nat×Nat)),pos=l.length→opn st pos →
      (closeSpans (bs l) (spansFromP p (bs l) f pos st acc)).map (fun x=>(l.take x.2).drop x.1)=acc.map (fun x=>(l.take x.2).drop x.1)++Wk p (l.drop pos) (Vg l st pos):=by
    intro f pos st acc hp ho
    subst hp
    rw [spansFromP_end _ _ _ _ _ _ (by rw [bs_size];omega),List.drop_eq_nil_of_le (Nat.le_refl _)]
    cases st with
    | none=>simp [closeSpans,Vg,Wk]
    | some a =>
      rw [Z8t (hne a _ (ho a rfl) (Nat.le_refl _))]
      simp only [closeSpans,Vg,bs_size,List.map_append,List.map_cons,List.map_nil]
  intro f
  induction f with
  | zero=>intro pos st acc hf hp ho;exact fin 0 pos st acc (by omega) ho
  | succ f ih =>
    intro pos st acc hf hpl ho
    by_cases hlt:pos<l.length
    · have hsz : pos < (bs l).size := by rw [bs_size]; exact hlt
      rcases Zeo hp l pos hlt with ⟨c,hc,hq,hd⟩ | ⟨r,k,hd,hq,hk,hle,hseg⟩
      · rw [Z1s hc]
        cases st with
        | none =>
          have e:spansFromP p (bs l) (f+1) pos none acc=spansFromP p (bs l) f (pos+1) none acc:=by simp only [spansFromP,if_pos hsz,hd,if_pos hq]
          rw [e,ih (pos+1) none acc (by omega) (by omega) (fun a e=>by cases e)]
          rw [show Vg l none pos=[] from rfl,Zdf hq];rfl
        | some a =>
          have e:spansFromP p (bs l) (f+1) pos (some a) acc=spansFromP p (bs l) f (pos+1) none (acc++[(a,pos)]):=by simp only [spansFromP,if_pos hsz,hd,if_pos hq]
          rw [e,ih (pos+1) none (acc++[(a,pos)]) (by omega) (by omega) (fun a e=>by cases e),Z8v hq (hne a pos (ho a rfl) (by omega))]
          simp only [Vg,List.map_append,List.map_cons,List.map_nil,List.append_assoc,List.cons_append,List.nil_append]
      · have hq' : ¬ p r = true := by rw [hq]; decide
        have hs:l.drop pos=(l.drop pos).take k++l.drop (pos+k):=by rw [←List.drop_drop,List.take_append_drop]
        cases st with
        | none =>
          have e:spansFromP p (bs l) (f+1) pos none acc=spansFromP p (bs l) f (pos+k) (some pos) acc:=by simp only [spansFromP,if_pos hsz,hd,if_neg hq']
          rw [e,ih (pos+k) (some pos) acc (by omega) hle (fun a e=>by cases e;omega),hs,Z1j _ _ hseg]
          simp only [Vg,List.nil_append]
          rw [show (l.take (pos+k)).drop pos=(l.drop pos).take k by rw [List.drop_take];congr 1;omega]
        | some a =>
          have e:spansFromP p (bs l) (f+1) pos (some a) acc=spansFromP p (bs l) f (pos+k) (some a) acc:=by simp only [spansFromP,if_pos hsz,hd,if_neg hq']
          rw [e,ih (pos+k) (some a) acc (by omega) hle (fun b e=>by cases e;have:=ho a rfl;omega),hs,Z1j _ _ hseg]
          have h1:=ho a rfl
          have:Vg l (some a) (pos+k)=Vg l (some a) pos++(l.drop pos).take k:=by
            unfold Vg
            simp only
            rw [show l.take (pos+k)=l.take pos++(l.drop pos).take k from List.take_add,List.drop_append_of_le_length (by rw [List.length_take];omega)]
          rw [this]
    ·exact fin (f+1) pos st acc (by omega) ho
theorem Zi0 {p:Nat→Bool}(hp:∀ r,128≤r→p r=false)(l:Str):Z2m p l=Wk p l []:=by
 have h0:=Zc2 p l
 have h1:=Zit hp l l.length 0 none [] (by omega) (by omega) (fun a e=>by cases e)
 simp only [List.map_nil,List.nil_append,List.drop_zero] at h1
 have h2:Vg l none 0=[]:=rfl
 rw [h2] at h1
 have h3:goFieldsP p (bs l)=(Wk p l []).map bs:=by
  rw [←h1]
  unfold goFieldsP spansOfP
  rw [bs_size,List.map_map]
  apply List.map_congr_left
  intro x _
  exact Zav l x.1 x.2
 rw [h3] at h0
 have hinj:Function.Injective bs:=fun a b h=>by have:=congrArg (fun z=>z.data.toList) h;simpa [bs] using this
 exact ((List.map_inj_right (fun a b h=>hinj h)).1 h0).symm
theorem anyT_any {p:Nat→Bool}(hp:∀ r,128≤r→p r=true)(l:Str):anyT p l=l.any (fun b=>p b.toNat):=by
 rw [←Zbg]
 have key:∀ (f pos:Nat),l.length≤pos+f→decide (0≤idxFuncFrom p true (bs l) f pos)=(l.drop pos).any (fun b=>p b.toNat):=by
  intro f
  induction f with
  | zero=>intro pos hf;rw [List.drop_eq_nil_of_le (by omega)];rfl
  | succ f ih =>
   intro pos hf
   by_cases hlt:pos<l.length
   ·
    obtain ⟨c,hc⟩:=Z3j hlt
    rw [idxFuncFrom,if_pos (by rw [bs_size];exact hlt),Z1s hc,List.any_cons]
    by_cases ha:c.toNat<128
    ·
     rw [Z2x l pos c hc ha]
     by_cases hq:p c.toNat=true
     ·rw [if_pos hq,hq,Bool.true_or];exact decide_eq_true (by omega)
     ·
      rw [if_neg hq,Bool.eq_false_iff.2 hq,Bool.false_or]
      exact ih (pos+1) (by omega)
    ·
     obtain ⟨r,k,hd,hr,hk,hj⟩:=Zaj l pos hlt (by rw [Zbd hc];omega)
     rw [hd,if_pos (hp r hr),hp _ (by omega),Bool.true_or]
     exact decide_eq_true (by omega)
   ·rw [idxFuncFrom_end _ _ _ _ _ (by rw [bs_size];exact hlt),List.drop_eq_nil_of_le (by omega)];rfl
 unfold idxFunc
 rw [bs_size,key l.length 0 (by omega),List.drop_zero]
def Jx (b:UInt8):Bool:=decide (48≤b.toNat∧b.toNat≤57)
def Vu (acc:Nat)(l:Str):Nat:=l.foldl (fun a b=>a*10+(b.toNat-48)) acc
theorem Zcr (acc:Nat):Vu acc []=acc:=rfl
theorem Za0 (acc:Nat)(b:UInt8)(l:Str):Vu acc (b::l)=Vu (acc*10+(b.toNat-48)) l:=by
 unfold Vu;rw [List.foldl_cons]
theorem Zet (l:Str):∀ (acc:Nat),l.all Jx=true→(acc+1)*10^l.length≤18446744073709551616→parseUintM 18446744073709551615 acc l=.ok (Vu acc l):=by
 induction l with
 | nil=>intro acc _ _;rfl
 | cons b l ih =>
  intro acc h hb
  rw [List.all_cons,Bool.and_eq_true] at h
  have h1:48≤b.toNat∧b.toNat≤57:=of_decide_eq_true h.1
  rw [List.length_cons,Nat.pow_succ] at hb
  have hp:1≤10^l.length:=Nat.one_le_pow _ _ (by omega)
  have h2:(acc*10+(b.toNat-48)+1)*10^l.length≤18446744073709551616:=by
   refine Nat.le_trans ?_ hb
   rw [Nat.mul_comm (10^l.length) 10,←Nat.mul_assoc]
   exact Nat.mul_le_mul_right _ (by omega)
  have h3:acc*10+(b.toNat-48)+1≤18446744073709551616:=Nat.le_trans (by have:=Nat.mul_le_mul_left (acc*10+(b.toNat-48)+1) hp;omega) h2
  rw [parseUintM,if_pos h1,if_neg (by omega),if_neg (by omega)]
  exact ih _ h.2 h2
def Gk (s:Str):Int×Bool:=if s.all Jx=true∧s≠[]∧s.length≤19∧Vu 0 s<9223372036854775808 then ((Vu 0 s:Int),true) else (0,false)
theorem Zja {s:Str}(h:s.all Jx=true)(h0:s≠[])(h1:s.length≤19):Z1e s=if Vu 0 s<9223372036854775808 then ((Vu 0 s:Int),true) else (9223372036854775807,false):=by
 obtain ⟨c,r,rfl⟩:=List.exists_cons_of_ne_nil h0
 have hc:48≤c.toNat∧c.toNat≤57:=by rw [List.all_cons,Bool.and_eq_true] at h;exact of_decide_eq_true h.1
 have hp:parseUintB 64 (c::r)=.ok (Vu 0 (c::r)):=by
  unfold parseUintB
  rw [if_neg h0]
  refine Zet _ 0 h ?_
  have:(10:Nat)^(c::r).length≤10^19:=Nat.pow_le_pow_right (by omega) h1
  omega
 unfold Z1e
 rw [parseIntB_plain 64 c r (by omega) (by omega),hp]
 simp only [signlessC]
 by_cases hv:Vu 0 (c::r)<9223372036854775808
 ·rw [if_pos hv,if_neg (by omega)]
 ·
  rw [if_neg hv,if_pos (by omega)]
  simp only
  rw [intSat_other 64 c r (by omega)];rfl
theorem Zdh:∀ (f u:Nat),(Vd f u).all Jx=true
 | 0,u=>rfl
 | f+1,u=>by
  have key:∀ v,v<10→Jx (UInt8.ofNat (48+v))=true:=fun v hv=>by
   refine decide_eq_true ?_
   rw [UInt8.toNat_ofNat']
   omega
  rw [Vd]
  split
  ·rw [List.all_cons,key u (by omega)];rfl
  ·rw [List.all_append,Zdh f,List.all_cons,key _ (by omega)];rfl
theorem valD_app (l:Str)(acc:Nat)(b:UInt8):Vu acc (l++[b])=Vu acc l*10+(b.toNat-48):=by
 unfold Vu;rw [List.foldl_append];rfl
theorem Zdg:∀ (f u:Nat),u<10^f→Vu 0 (Vd f u)=u
 | 0,u,h=>by simp at h;subst h;rfl
 | f+1,u,h=>by
  have key:∀ v,v<10→(UInt8.ofNat (48+v)).toNat-48=v:=fun v hv=>by rw [UInt8.toNat_ofNat'];omega
  rw [Vd]
  split
  ·rw [Za0,Zcr,key u (by omega)];omega
  ·rw [valD_app,Zdg f (u / 10) (by rw [Nat.pow_succ] at h;omega),key _ (by omega)];omega
theorem Z89:∀ (f u:Nat),u<10^f→1≤f→1≤(Vd f u).length∧(Vd f u).length≤f
 | 0,u,_,h=>by omega
 | f+1,u,h,_=>by
  rw [Vd]
  split
  ·simp
  ·
   rename_i hu
   rw [List.length_append,List.length_singleton]
   have h2:u / 10<10^f:=by rw [Nat.pow_succ] at h;omega
   cases f with
   | zero=>simp at h;omega
   | succ f=>have:=Z89 (f+1) (u / 10) h2 (by omega);omega
theorem Z93:∀ (f u:Nat),u<10^(f+1)→Vd (f+2) u=Vd (f+1) u
 | 0,u,h=>by
  have h2:u<10:=by simpa using h
  rw [Vd,if_pos h2,Vd,if_pos h2]
 | f+1,u,h=>by
  by_cases hu:u<10
  ·rw [Vd,if_pos hu,Vd,if_pos hu]
  ·
   rw [Vd,if_neg hu,Z93 f (u / 10) (by rw [Nat.pow_succ] at h;omega)]
   conv=>rhs;rw [Vd,if_neg hu]
theorem Z5f {n:Int}(h0:0≤n)(h1:n≤9223372036854775807):Xm n=Vd 19 n.toNat∧(Xm n).all Jx=true∧Xm n≠[]∧(Xm n).length≤19∧Vu 0 (Xm n)=n.toNat:=by
 have e19:(10:Nat)^19=10000000000000000000:=by decide
 have e:Xm n=Vd 19 n.toNat:=by
  unfold Xm
  rw [if_neg (by omega)]
  exact Z93 18 n.toNat (by rw [show 18+1=19 from rfl,e19];omega)
 have hl:=Z89 19 n.toNat (by rw [e19];omega) (by omega)
 refine ⟨e,by rw [e];exact Zdh _ _,fun h=>?_,by rw [e];exact hl.2,by rw [e];exact Zdg 19 _ (by rw [e19];omega)⟩
 rw [e] at h
 rw [h] at hl
 simp at hl
theorem Zep {n:Int}(h0:0≤n)(h1:n≤9223372036854775807):Gk (Xm n)=(n,true):=by
 obtain ⟨-,h2,h3,h4,h5⟩:=Z5f h0 h1
 unfold Gk
 rw [if_pos ⟨h2,h3,h4,by omega⟩,h5,Int.toNat_of_nonneg h0]
end Go.Acq
namespace Go.Acq
open Go
theorem Z8b (x:Nat):Kh x=decide (x=9∨x=13∨x=32):=by
 unfold Kh Z0y
 by_cases h1:x=9
 ·subst h1;rfl
 ·
  by_cases h2:x=13
  ·subst h2;rfl
  ·
   rw [if_neg (by omega),if_neg (by omega)]
   by_cases h3:x=32
   ·subst h3;rfl
   ·rw [decide_eq_false (by omega:¬((x:Int)=32)),decide_eq_false (by omega:¬(x=9∨x=13∨x=32))];rfl
theorem blank_hi:∀ r,128≤r→Kh r=false:=fun r h=>by rw [Z8b];exact decide_eq_false (by omega)
def Uh (l:Str):List Str:=Wk Kh l []
theorem s_Words (l:Str)(h:l.length≤4294967296):Lp (ub l)=some (Uh l):=by
 unfold Lp Z43
 rw [bu_ub,Rg h,Zi0 blank_hi];rfl
def okW (w:Str):Prop:=w≠[]∧∀ b∈w,Kh b.toNat=false
theorem fld_end {w:Str}(h:okW w):Wk Kh w []=[w]:=by
 have:=Z1j (p:=Kh) (l:=[]) w [] h.2
 rw [List.append_nil,List.nil_append] at this
 rw [this,Z8t h.1]
theorem fld_more {w rest:Str}(h:okW w){b:UInt8}(hb:Kh b.toNat=true):Wk Kh (w++b::rest) []=w::Wk Kh rest []:=by
 rw [Z1j w [] h.2,List.nil_append,Z8v hb h.1]
end Go.Acq
namespace Go.Acq
open Go
theorem Zc5 (x:Nat):Rd x=decide (x<48∨57<x):=by
 unfold Rd Z08
 by_cases h1:x<48
 ·rw [if_pos (by omega),decide_eq_true (by omega:x<48∨57<x)];rfl
 ·
  rw [if_neg (by omega)]
  by_cases h2:57<x
  ·rw [decide_eq_true (by omega:(57:Int)<x),decide_eq_true (by omega:x<48∨57<x)];rfl
  ·rw [decide_eq_false (by omega:¬(57:Int)<x),decide_eq_false (by omega:¬(x<48∨57<x))];rfl
theorem any_dig (l:Str):l.any (fun b=>Rd b.toNat)=!(l.all Jx):=by
 induction l with
 | nil=>rfl
 | cons b l ih =>
  rw [List.any_cons,List.all_cons,ih,Zc5,Bool.not_and]
  congr 1
  unfold Jx
  by_cases h:48≤b.toNat∧b.toNat≤57
  ·rw [decide_eq_true h,decide_eq_false (by omega:¬(b.toNat<48∨57<b.toNat))];rfl
  ·rw [decide_eq_false h,decide_eq_true (by omega:b.toNat<48∨57<b.toNat)];rfl
theorem s_Number (s:Str):Rp s=some (Gk s):=by
 unfold Rp
 by_cases h1:19<s.length
 ·
  rw [if_pos (by omega)]
  unfold Z16 Gk
  rw [if_pos rfl,if_neg (by omega)]
 ·
  rw [if_neg (by omega)]
  unfold Z51 Z16
  rw [anyT_any (fun r h=>by rw [Zc5];exact decide_eq_true (by omega)),any_dig,Option.bind_some]
  by_cases h2:s.all Jx=true
  ·
   rw [h2,if_neg (by simp)]
   unfold Z5g
   rw [Rg ⟨by omega,rfl,rfl⟩,Option.bind_some]
   by_cases h3:s=[]
   ·subst h3;rfl
   ·
    rw [Zja h2 h3 (by omega)]
    unfold Gk
    by_cases h4:Vu 0 s<9223372036854775808
    ·rw [if_pos h4,if_pos ⟨h2,h3,by omega,h4⟩];rfl
    ·rw [if_neg h4,if_neg (fun h=>h4 h.2.2.2)];rfl
  ·
   rw [Bool.eq_false_iff.2 h2,if_pos (by simp)]
   unfold Gk
   rw [if_neg (fun h=>h2 h.1)]
end Go.Acq
namespace Go.Acq
open Go
def Kq (w:Str):Int:=(Gk w).1
def Kd (w:Str):Bool:=(Gk w).2&&decide (w.length≤9)
def Lr:Plan:=⟨0,0,[]⟩
def Nz (v:List Int):Plan:=⟨v.getD 0 0,v.getD 1 0,v.drop 2⟩
def Jz (ws:List Str):Plan×Bool:=if (2≤ws.length∧ws.length≤10002)∧∀ w∈ws,Kd w=true then (Nz (ws.map Kq),true) else (Lr,false)
theorem nineB_iff {w:Str}:Kd w=true↔(Gk w).2=true∧w.length≤9:=by simp [Kd]
theorem Zgs {ws:List Str}(hl:ws.length≤10002):Ok (Xa (fun s=>Z13 ws s.1 s.2) Xd (List.replicate ws.length (0:Int),0)) (fun o=>match o with
    | .inl r=>r=(Lr,false)∧¬∀ w∈ws,Kd w=true
    | .inr xs=>xs=ws.map Kq∧∀ w∈ws,Kd w=true):=by
  refine Ok.loop (fun s=>(0≤s.2∧s.2≤ws.length∧s.1.length=ws.length)∧∀ k,k<s.2.toNat→s.1.getD k 0=Kq (ws.getD k [])∧Kd (ws.getD k [])=true) (fun s=>(ws.length-s.2).toNat) ⟨⟨by simp,by simp,by simp⟩,fun k hk=>by simp at hk⟩ (by unfold Xd;simp only;omega) ?_
  rintro ⟨xs,i⟩ ⟨⟨h0,h1,h2⟩,h3⟩
  simp only at h0 h1 h2 h3 ⊢
  unfold Z13
  refine Ok.ite.2 ⟨fun hi=>?_,fun hi=>?_⟩
  · refine Ok.gd.2 ⟨⟨by omega, by omega⟩, ?_⟩
    have hmem:ws.getD i.toNat []∈ws:=by
      rw [List.getD_eq_getElem?_getD,List.getElem?_eq_getElem (by omega)];exact List.getElem_mem _
    rw [s_Number,Option.bind_some]
    generalize hW:ws.getD i.toNat ([]:Str)=w at hmem ⊢
    obtain ⟨tv,tb,hT⟩:∃ tv tb,Gk w=(tv,tb):=⟨_,_,rfl⟩
    have hnine:Kd w=(tb&&decide (w.length≤9)):=by unfold Kd;rw [hT]
    have hval:Kq w=tv:=by unfold Kq;rw [hT]
    rw [hT]
    have hbad:∀ b:Bool,b=!(Kd w)→Ok (Z0a xs i tv b) (fun r=>match r with
        | .inl s'=>((0≤s'.2∧s'.2≤(ws.length:Int)∧s'.1.length=ws.length)∧∀ k,k<s'.2.toNat→s'.1.getD k 0=Kq (ws.getD k [])∧Kd (ws.getD k [])=true)∧((ws.length:Int)-s'.2).toNat<((ws.length:Int)-i).toNat
        | .inr o=>match o with
          | .inl r=>r=(Lr,false)∧¬∀ w∈ws,Kd w=true
          | .inr xs=>xs=ws.map Kq∧∀ w∈ws,Kd w=true):=by
      intro b hb
      unfold Z0a
      refine Ok.ite.2 ⟨fun hx=>Ok.some.2 ⟨rfl,fun h=>?_⟩,fun hx=>?_⟩
      ·rw [hb,h _ hmem] at hx;cases hx
      · have hg : Kd w = true := by
          rw [hb] at hx;cases h:Kd w
          ·rw [h] at hx;exact absurd rfl hx
          ·rfl
        refine Ok.gd.2 ⟨⟨by omega,by omega⟩,Ok.gd.2 ⟨by constructor <;> omega,Ok.some.2 ⟨⟨⟨by simp only;omega,by simp only;omega,by simp [h2]⟩,fun k hk=>?_⟩,by simp only;omega⟩⟩⟩
        simp only at hk ⊢
        rcases Nat.lt_or_ge k i.toNat with h | h
        · have := h3 k h
          refine ⟨?_,this.2⟩
          rw [←this.1,List.getD_eq_getElem?_getD,List.getD_eq_getElem?_getD,List.getElem?_set_ne (by omega)]
        · obtain rfl : k = i.toNat := by omega
          rw [hW]
          refine ⟨?_,hg⟩
          rw [List.getD_eq_getElem?_getD,List.getElem?_set_self (by omega),hval];rfl
    refine Ok.ite.2 ⟨fun hn=>?_,fun hn=>?_⟩
    · have hf : tb = false := by cases tb; rfl; cases hn
      refine Ok.mono (hbad true (by rw [hnine,hf];rfl)) fun r hr=>?_
      rcases r with _ | _ | _ <;> exact hr
    · have hf : tb = true := by cases tb; exact absurd rfl hn; rfl
      refine Ok.mono (hbad _ ?_) (fun r hr=>by rcases r with _ | _ | _ <;> exact hr)
      rw [hnine,hf,Bool.true_and,←decide_not]
      exact decide_eq_decide.2 ⟨fun h=>by omega,fun h=>by omega⟩
  · refine Ok.some.2 ⟨?_, fun w hw => ?_⟩
    · apply List.ext_getElem?
      intro k
      rw [List.getElem?_map]
      rcases Nat.lt_or_ge k ws.length with h | h
      · have := (h3 k (by omega)).1
        rw [List.getD_eq_getElem?_getD,List.getD_eq_getElem?_getD,List.getElem?_eq_getElem (by omega),List.getElem?_eq_getElem h] at this
        rw [List.getElem?_eq_getElem (by omega),List.getElem?_eq_getElem h]
        simpa using this
      ·rw [List.getElem?_eq_none (by omega),List.getElem?_eq_none h];rfl
    · obtain ⟨k, hk, rfl⟩ := List.mem_iff_getElem.1 hw
      have:=(h3 k (by omega)).2
      rw [List.getD_eq_getElem?_getD,List.getElem?_eq_getElem hk] at this
      exact this
theorem Z7j {s:Str}(h:s.length≤4294967296):Ud s=some (Jz (Uh s)):=by
 refine ok_eq ?_
 unfold Ud
 rw [s_Words s h,Option.bind_some]
 have hj:∀ b:Bool,b=decide (¬(2≤(Uh s).length∧(Uh s).length≤10002))→Ok (Z1a (Uh s) b) (fun r=>r=Jz (Uh s)):=by
  intro b hb
  unfold Z1a
  refine Ok.ite.2 ⟨fun hx=>Ok.some.2 ?_,fun hx=>?_⟩
  ·
   rw [hb] at hx
   have:=of_decide_eq_true hx
   unfold Jz;rw [if_neg (fun h=>this h.1)];rfl
  ·
   have hlen:2≤(Uh s).length∧(Uh s).length≤10002:=by rw [hb] at hx;simpa using hx
   refine Ok.gd.2 ⟨by constructor <;> omega,?_⟩
   rw [Int.toNat_natCast]
   refine Ok.bind.2 (Ok.mono (Zgs hlen.2) fun o ho=>?_)
   cases o with
   | inl r =>
    obtain ⟨rfl,hn⟩:=ho
    exact Ok.some.2 (by unfold Jz;rw [if_neg (fun h=>hn h.2)])
   | inr xs =>
    obtain ⟨rfl,hn⟩:=ho
    show Ok (Z1t _) _
    unfold Z1t
    have hl:((Uh s).map Kq).length=(Uh s).length:=List.length_map ..
    refine Ok.gd.2 ⟨⟨by omega,by omega⟩,Ok.gd.2 ⟨⟨by omega,by omega⟩,Ok.gd.2 ⟨⟨by omega,by omega⟩,Ok.some.2 ?_⟩⟩⟩
    unfold Jz;rw [if_pos ⟨hlen,hn⟩];rfl
 refine Ok.ite.2 ⟨fun hx=>hj true ?_,fun hx=>hj _ ?_⟩
 ·exact (decide_eq_true (by omega)).symm
 ·congr 1;apply propext;constructor <;> intro h <;> omega
theorem Zbc (x y:Str)(r:List Str)(sep:Str):Lib.join (x::y::r) sep=x++(sep++Lib.join (y::r) sep):=by
 unfold Lib.join
 simp [List.intercalate,List.intersperse]
theorem Zb4 (x sep:Str):Lib.join [x] sep=x:=by simp [Lib.join,List.intercalate]
theorem Zbq (sep:Str):Lib.join [] sep=[]:=by simp [Lib.join,List.intercalate]
theorem Zb5:Kh (32:UInt8).toNat=true:=by rw [Z8b];decide
theorem Zc7:∀ (k:Nat) (rest:Str),Wk Kh (List.replicate k (32:UInt8)++rest) []=Wk Kh rest []
 | 0,_=>rfl
 | k+1,rest=>by rw [List.replicate_succ,List.cons_append,Wk,if_pos Zb5,if_pos rfl];exact Zc7 k rest
theorem Z65 (k:Nat):∀ ws:List Str,(∀ w∈ws,okW w)→Uh (Lib.join ws (List.replicate (k+1) (32:UInt8)))=ws
 | [],_=>by rw [Zbq];unfold Uh;exact Zfz
 | [x],h=>by rw [Zb4];exact fld_end (h x (.head _))
 | x::y::r,h=>by
  have:=Z65 k (y::r) (fun w hw=>h w (.tail _ hw))
  rw [Zbc,List.replicate_succ,List.cons_append]
  unfold Uh at this ⊢
  rw [fld_more (h x (.head _)) Zb5,Zc7]
  rw [List.replicate_succ] at this
  rw [←List.replicate_succ] at this
  exact congrArg (x::·) this
theorem okW_dig {w:Str}(h:w.all Jx=true)(h0:w≠[]):okW w:=⟨h0,fun b hb=>by
 have:=List.all_eq_true.1 h b hb
 unfold Jx at this
 have:=of_decide_eq_true this
 rw [Z8b]
 exact decide_eq_false (by omega)⟩
theorem okW_itoa {n:Int}(h0:0≤n)(h1:n≤999999999):okW (Xm n):=okW_dig (Z5f h0 (by omega)).2.1 (Z5f h0 (by omega)).2.2.1
theorem decD9 {u:Nat}(h:u<10^9):∀ k,Vd (9+k) u=Vd 9 u
 | 0=>rfl
 | k+1=>by
  have h1:=Z93 (8+k) u (Nat.lt_of_lt_of_le h (Nat.pow_le_pow_right (by omega) (by omega)))
  rw [show 9+(k+1)=8+k+2 from by omega,h1,show 8+k+1=9+k from by omega]
  exact decD9 h k
theorem Z03 {n:Int}(h0:0≤n)(h1:n≤999999999):(Xm n).length≤9:=by
 have hu:n.toNat<10^9:=by omega
 rw [(Z5f h0 (by omega)).1,show Vd 19 n.toNat=Vd 9 n.toNat from decD9 hu 10]
 exact (Z89 9 _ hu (by omega)).2
theorem Zdb:∀ (l:Str) (acc:Nat),l.all Jx=true→Vu acc l+1≤(acc+1)*10^l.length
 | [],acc,_=>by rw [Zcr];simp
 | b::l,acc,h=>by
  rw [List.all_cons,Bool.and_eq_true] at h
  have hb:=of_decide_eq_true (show decide (48≤b.toNat∧b.toNat≤57)=true from h.1)
  rw [Za0,List.length_cons,Nat.pow_succ]
  refine Nat.le_trans (Zdb l _ h.2) ?_
  rw [Nat.mul_comm (10^l.length) 10,←Nat.mul_assoc]
  exact Nat.mul_le_mul_right _ (by omega)
theorem nine_val {w:Str}(h:Kd w=true):0≤Kq w∧Kq w≤999999999:=by
 obtain ⟨h1,h2⟩:=nineB_iff.1 h
 unfold Kq
 unfold Gk at h1 ⊢
 split
 ·
  rename_i hc
  have:=Zdb w 0 hc.1
  have hp:10^w.length≤10^9:=Nat.pow_le_pow_right (by omega) h2
  simp only;omega
 ·rename_i hc;rw [if_neg hc] at h1;cases h1
theorem Zaq {n:Int}(h0:0≤n)(h1:n≤999999999):Kd (Xm n)=true∧Kq (Xm n)=n:=by
 have:=Zep h0 (show n≤9223372036854775807 by omega)
 exact ⟨nineB_iff.2 ⟨by rw [this],Z03 h0 h1⟩,by unfold Kq;rw [this]⟩
def Gc (v:List Int):Prop:=∀ x∈v,0≤x∧x≤999999999
theorem Zap {v:List Int}(hv:Gc v)(hl:v.length≤10002):Jz (v.map Xm)=if 2≤v.length then (Nz v,true) else (Lr,false):=by
 have h1:∀ w∈v.map Xm,Kd w=true:=fun w hw=>by obtain ⟨x,hx,rfl⟩:=List.mem_map.1 hw;exact (Zaq (hv x hx).1 (hv x hx).2).1
 have h2:(v.map Xm).map Kq=v:=by
  rw [List.map_map]
  conv=>rhs;rw [←List.map_id v]
  exact List.map_congr_left fun x hx=>(Zaq (hv x hx).1 (hv x hx).2).2
 unfold Jz
 rw [List.length_map,h2]
 by_cases h:2≤v.length
 ·rw [if_pos ⟨⟨h,hl⟩,h1⟩,if_pos h]
 ·rw [if_neg (fun hh=>h hh.1.1),if_neg h]
theorem Z6z (sep:Str):∀ (x:Str) (l:List Str),Lib.join (x::l) sep=x++l.flatMap (sep++·)
 | x,[]=>by rw [Zb4];simp
 | x,y::r=>by rw [Zbc,Z6z sep y r];simp
theorem Zd1:∀ l:List Int,Gc l→(l.flatMap fun x=>[32]++Xm x).length≤10*l.length
 | [],_=>by simp
 | x::l,h=>by
  have:=Zd1 l (fun y hy=>h y (.tail _ hy))
  have h9:=Z03 (h x (.head _)).1 (h x (.head _)).2
  simp only [List.flatMap_cons,List.length_append,List.length_cons,List.length_nil]
  omega
theorem s_said {p:Plan}(h:Gc (p.Workers::p.Limit::p.Picks))(hl:p.Picks.length≤10000):Nl p=some (Lib.join ((p.Workers::p.Limit::p.Picks).map Xm) [32]):=by
 have hW:=h p.Workers (.head _)
 have hL:=h p.Limit (.tail _ (.head _))
 have hP:Gc p.Picks:=fun x hx=>h x (.tail _ (.tail _ hx))
 have w9:=Z03 hW.1 hW.2
 have l9:=Z03 hL.1 hL.2
 have hi:∀ n:Int,0≤n∧n≤999999999→Jf n=some (Xm n):=fun n hn=>by unfold Jf;rw [Rg (by omega)]
 refine ok_eq ?_
 unfold Nl
 rw [hi _ hW,Option.bind_some]
 refine Ok.gd.2 ⟨by simp;omega,?_⟩
 rw [hi _ hL,Option.bind_some]
 refine Ok.gd.2 ⟨by simp;omega,?_⟩
 refine Ok.bind.2 (Ok.loop (fun s=>(0≤s.2∧s.2≤p.Picks.length)∧s.1=(Xm p.Workers++[32])++Xm p.Limit++(p.Picks.take s.2.toNat).flatMap (fun x=>[32]++Xm x)) (fun s=>(p.Picks.length-s.2).toNat) ⟨⟨by simp,by simp⟩,by simp⟩ (by unfold Xd;simp only;omega) ?_)
 rintro ⟨out,i⟩ ⟨⟨h0,h1⟩,h2⟩
 simp only at h0 h1 h2 ⊢
 unfold Z2f
 refine Ok.ite.2 ⟨fun hx=>?_,fun hx=>?_⟩
 ·
  refine Ok.gd.2 ⟨⟨by omega,by omega⟩,?_⟩
  have hmem:p.Picks.getD i.toNat 0∈p.Picks:=by rw [List.getD_eq_getElem?_getD,List.getElem?_eq_getElem (by omega)];exact List.getElem_mem _
  have hgi:p.Picks[i.toNat]?=some (p.Picks.getD i.toNat 0):=by rw [List.getD_eq_getElem?_getD,List.getElem?_eq_getElem (by omega)];rfl
  generalize p.Picks.getD i.toNat 0=V at hmem hgi ⊢
  have hv:=hP _ hmem
  have hf:=Zd1 (p.Picks.take i.toNat) (fun x hx=>hP x (List.mem_of_mem_take hx))
  rw [List.length_take] at hf
  have v9:=Z03 hv.1 hv.2
  have ho:out.length≤19+10*p.Picks.length:=by rw [h2];simp only [List.length_append,List.length_cons,List.length_nil];omega
  rw [hi _ hv,Option.bind_some]
  refine Ok.gd.2 ⟨by simp;omega,Ok.gd.2 ⟨by simp;omega,Ok.gd.2 ⟨by constructor <;> omega,Ok.some.2 ⟨⟨⟨by simp only;omega,by simp only;omega⟩,?_⟩,by simp only;omega⟩⟩⟩⟩
  simp only
  rw [h2,show (i+1).toNat=i.toNat+1 from by omega,List.take_add_one,hgi,List.flatMap_append]
  simp
 ·
  refine Ok.some.2 ?_
  show Ok (Z20 out) _
  unfold Z20
  refine Ok.some.2 ?_
  rw [h2,List.take_of_length_le (by omega),List.map_cons,List.map_cons,Z6z]
  simp [List.flatMap_map]
end Go.Acq
namespace Go.Acq
open Go
structure U32In (l:List Int):Prop where
  row:∀ x,x∈l→u32ok x
  len:l.length≤9223372036854775807
set_option maxRecDepth 100000 in
theorem Z68:Z09=some true:=by decide +kernel
set_option maxRecDepth 100000 in
theorem p_far:Ud ([49,32,49,48,48,48,48,48,48,48,48,48]:Str)=some (Lr,false):=by decide +kernel
set_option maxRecDepth 100000 in
theorem Zca:Ud ([49,32,45,49]:Str)=some (Lr,false):=by decide +kernel
theorem Zcm (sep:Str):∀ l:List Int,Gc l→((l.map Xm).flatMap (sep++·)).length≤(9+sep.length)*l.length
 | [],_=>by simp
 | x::l,h=>by
  have:=Zcm sep l (fun y hy=>h y (.tail _ hy))
  have h9:=Z03 (h x (.head _)).1 (h x (.head _)).2
  simp only [List.map_cons,List.flatMap_cons,List.length_append,List.length_cons,Nat.mul_succ]
  omega
theorem Z53 (sep:Str):∀ v:List Int,Gc v→(Lib.join (v.map Xm) sep).length≤9+(9+sep.length)*v.length
 | [],_=>by rw [List.map_nil,Zbq];simp
 | x::l,h=>by
  have:=Zcm sep l (fun y hy=>h y (.tail _ hy))
  have h9:=Z03 (h x (.head _)).1 (h x (.head _)).2
  rw [List.map_cons,Z6z]
  simp only [List.length_append,List.length_cons,Nat.mul_succ]
  omega
theorem okWs {v:List Int}(hv:Gc v):∀ w∈v.map Xm,okW w:=fun w hw=>by
 obtain ⟨x,hx,rfl⟩:=List.mem_map.1 hw
 exact okW_itoa (hv x hx).1 (hv x hx).2
theorem plan_one {v:List Int}(hv:Gc v)(hl:v.length≤10002):Ud (Lib.join (v.map Xm) [32])=some (if 2≤v.length then (Nz v,true) else (Lr,false)):=by
 have h:=Z53 [32] v hv
 simp only [List.length_cons,List.length_nil] at h
 rw [Z7j (by omega),show Uh (Lib.join (v.map Xm) [32])=v.map Xm from Z65 0 _ (okWs hv),Zap hv hl]
theorem plan_two {v:List Int}(hv:Gc v)(hl:v.length≤10002):Ud (Lib.join (v.map Xm) [32,32])=some (if 2≤v.length then (Nz v,true) else (Lr,false)):=by
 have h:=Z53 [32,32] v hv
 simp only [List.length_cons,List.length_nil] at h
 rw [Z7j (by omega),show Uh (Lib.join (v.map Xm) [32,32])=v.map Xm from Z65 1 _ (okWs hv),Zap hv hl]
theorem Zg6 {v:List Int}(h:2≤v.length):(Nz v).Workers::(Nz v).Limit::(Nz v).Picks=v:=by
 match v,h with
 | x::y::r,_=>rfl
theorem Zaf {v:List Int}(hv:Gc v)(h2:2≤v.length)(hl:v.length≤10002):Nl (Nz v)=some (Lib.join (v.map Xm) [32]):=by
 have hp:=Zg6 h2
 rw [s_said (by rw [hp];exact hv) (by show (v.drop 2).length≤_;rw [List.length_drop];omega),hp]
theorem again {t:Str}{q:Plan}(h:Jz (Uh t)=(q,true)):∃ s,Nl q=some s∧Ud s=some (q,true):=by
 unfold Jz at h
 split at h
 ·
  rename_i hc
  injection h with h1 h2
  subst h1
  have hv:Gc ((Uh t).map Kq):=fun x hx=>by obtain ⟨w,hw,rfl⟩:=List.mem_map.1 hx;exact nine_val (hc.2 w hw)
  have hl:((Uh t).map Kq).length=(Uh t).length:=List.length_map ..
  refine ⟨_,Zaf hv (by omega) (by omega),?_⟩
  rw [plan_one hv (by omega),if_pos (by omega)]
 ·injection h with h1 h2;cases h2
theorem j4_true:Z0m=some true:=by
 unfold Z0m
 rw [p_far,Zca,Z68];rfl
theorem j5_true:Z0t=some true:=by
 unfold Z0t
 rw [p_far,Zca,Z68];rfl
theorem Zh5 {t:Str}{q:Plan}(h:Jz (Uh t)=(q,true)):lenok q.Picks.length:=by
 unfold Jz at h
 split at h
 ·
  rename_i hc
  injection h with h1 h2
  subst h1
  show ((_:List Int).drop 2).length≤_
  rw [List.length_drop,List.length_map];omega
 ·injection h with h1 h2;cases h2
theorem Zar {t:Str}(ht:t.length≤300){k:Option Bool}(hk:k=some true):Option.bind (Ud t) (fun (r73,r74) =>
    if r74=true then
    (Option.bind (Nl r73) fun r93 =>
    Option.bind (Ud r93) fun (r95,r96) =>
    if (!r96)=true then
    (some false)
    else
    if r95.Workers≠r73.Workers then
    (some false)
    else
    if r95.Limit≠r73.Limit then
    (some false)
    else
    Option.bind (Rn r95.Picks r73.Picks) fun r117 =>
    if (!r117)=true then
    (some false)
    else
    k)
    else
    k)=some true:=by
  subst hk
  rw [Z7j (by omega),Option.bind_some]
  obtain ⟨q,b,hq⟩:∃ q b,Jz (Uh t)=(q,b):=⟨_,_,rfl⟩
  rw [hq]
  cases b with
  | false=>rfl
  | true =>
    obtain ⟨s,h1,h2⟩:=again hq
    simp only [if_true]
    rw [h1,Option.bind_some,h2,Option.bind_some]
    simp only [Bool.not_true,Bool.false_eq_true,if_false,ne_eq,not_true_eq_false,if_false]
    rw [s_Ints (Zh5 hq),Option.bind_some]
    simp
theorem p_loop {l:List Int}(hl:U32In l)(h50:l.length≤50):Ok (Xa (fun s=>Z1c l s.1 s.2) Xd (([]:List Str),0)) (fun ws=>ws=(l.map fun x=>x.tmod 1000000000).map Xm):=by
 refine Ok.loop (fun s=>(0≤s.2∧s.2≤l.length)∧s.1=((l.take s.2.toNat).map fun x=>x.tmod 1000000000).map Xm) (fun s=>(l.length-s.2).toNat) ⟨⟨by simp,by simp⟩,by simp⟩ (by unfold Xd;simp only;omega) ?_
 rintro ⟨ws,i⟩ ⟨⟨h0,h1⟩,h2⟩
 simp only at h0 h1 h2 ⊢
 unfold Z1c
 refine Ok.ite.2 ⟨fun hx=>?_,fun hx=>?_⟩
 ·
  have hgi:l[i.toNat]?=some (l.getD i.toNat 0):=by rw [List.getD_eq_getElem?_getD,List.getElem?_eq_getElem (by omega)];rfl
  have hmem:=hl.row _ (List.mem_of_getElem? hgi)
  generalize l.getD i.toNat 0=V at hgi hmem ⊢
  obtain ⟨u1,u2⟩:=hmem
  have m1:0≤V.tmod 1000000000:=Int.tmod_nonneg _ u1
  have m2:=Int.tmod_lt_of_pos V (show (0:Int)<1000000000 by omega)
  have hi:Jf (V.tmod 1000000000)=some (Xm (V.tmod 1000000000)):=by unfold Jf;rw [Rg (by constructor <;> omega)]
  refine Ok.gd.2 ⟨⟨by omega,by omega⟩,Ok.gd.2 ⟨by constructor <;> omega,?_⟩⟩
  rw [hi,Option.bind_some]
  have hw:ws.length≤50:=by rw [h2];simp only [List.length_map,List.length_take];omega
  refine Ok.gd.2 ⟨by simp only [List.length_append,List.length_cons,List.length_nil];constructor <;> omega,Ok.gd.2 ⟨by constructor <;> omega,Ok.some.2 ⟨⟨⟨by simp only;omega,by simp only;omega⟩,?_⟩,by simp only;omega⟩⟩⟩
  simp only
  rw [h2,show (i+1).toNat=i.toNat+1 from by omega,List.take_add_one,hgi]
  simp
 ·
  refine Ok.some.2 ?_
  rw [h2,List.take_of_length_le (by omega)]
theorem p_PlayerPlans {l:List Int}{t:Str}(hl:U32In l)(ht:t.length≤9223372036854775807):Z40 l t=some true:=by
 refine ok_eq ?_
 unfold Z40
 have hA:Ok (Z06 l t true) (fun a=>a=true):=by
  unfold Z06
  rw [if_pos rfl,Z68];exact Ok.some.2 rfl
 refine Ok.ite.2 ⟨fun _=>hA,fun h50=>?_⟩
 by_cases h300:300<(t.length:Int)
 ·rw [decide_eq_true h300];exact hA
 rw [decide_eq_false h300]
 unfold Z06
 rw [if_neg (by decide)]
 refine Ok.bind.2 (Ok.mono (p_loop hl (by omega)) fun ws hws=>?_)
 subst hws
 have hv:Gc (l.map fun x=>x.tmod 1000000000):=fun x hx=>by
  obtain ⟨y,hy,rfl⟩:=List.mem_map.1 hx
  have:=hl.row y hy
  have m1:0≤y.tmod 1000000000:=Int.tmod_nonneg _ this.1
  have m2:=Int.tmod_lt_of_pos y (show (0:Int)<1000000000 by omega)
  exact ⟨m1,by omega⟩
 have hvl:(l.map fun x=>x.tmod 1000000000).length≤50:=by rw [List.length_map];omega
 generalize (l.map fun x=>x.tmod 1000000000)=v at hv hvl ⊢
 unfold Z52
 have j1:=Z53 [32] v hv
 have j2:=Z53 [32,32] v hv
 simp only [List.length_cons,List.length_nil] at j1 j2
 have e1:Ly (v.map Xm) ([32]:Str)=some (Lib.join (v.map Xm) [32]):=by unfold Ly;rw [Rg ⟨by rw [List.length_map];omega,by omega⟩]
 have e2:Ly (v.map Xm) ([32,32]:Str)=some (Lib.join (v.map Xm) [32,32]):=by unfold Ly;rw [Rg ⟨by rw [List.length_map];omega,by omega⟩]
 rw [e2,Option.bind_some,plan_two hv (by omega),Option.bind_some]
 by_cases h2:2≤v.length
 ·
  rw [if_pos h2]
  have h2':(2:Int)≤((v.map Xm).length:Int):=by rw [List.length_map];omega
  simp only [decide_eq_true h2',beq_self_eq_true,Bool.not_true,Bool.false_eq_true,if_false,if_true]
  refine Ok.gd.2 ⟨by rw [List.length_map];constructor <;> omega,?_⟩
  have hpl:((Nz v).Picks.length:Int)=((v.map Xm).length:Int)-2:=by
   show ((v.drop 2).length:Int)=_
   rw [List.length_drop,List.length_map];omega
  rw [if_neg (fun h=>h hpl),Zaf hv h2 (by omega),Option.bind_some,e1,Option.bind_some,if_neg (fun h=>h rfl)]
  exact Ok.of (Zar (by omega) j4_true) rfl
 ·
  rw [if_neg h2]
  have h2':¬(2:Int)≤((v.map Xm).length:Int):=by rw [List.length_map];omega
  simp only [decide_eq_false h2',beq_self_eq_true,Bool.not_true,Bool.false_eq_true,if_false]
  exact Ok.of (Zar (by omega) j5_true) rfl
end Go.Acq
