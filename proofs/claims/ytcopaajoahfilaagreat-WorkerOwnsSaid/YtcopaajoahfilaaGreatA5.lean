/- Texts of this claim, one behind the other. -/
import Derived.Test.YtcopaajoahfilaaGreatA2
import Derived.Test.YtcopaajoahfilaaGreatA4
import Derived.Test.YtcopaajoahfilaaGreatA1
set_option linter.unusedVariables false
set_option linter.unusedSimpArgs false
namespace Go.Proofs.YtcopaajoahfilaaGreat.Ax
open Go Go.Acq Go.RowKit Go.Proofs
set_option maxHeartbeats 8000000
set_option maxRecDepth 20000
theorem Z26:Va Tryz.prog 36 26=true:=by kernel_rfl
theorem Zo0:Kt Tryz.prog 100=some 8:=by kernel_rfl
theorem Zpu:Kt Tryz.prog 40=some 8:=by kernel_rfl
theorem Zk5:Yc Tryz.prog 11=true:=by kernel_rfl
theorem Zf6:Yc Tryz.prog 12=true:=by kernel_rfl
theorem Zqa:Yc Tryz.prog 25=true:=by kernel_rfl
theorem Zod:Yc Tryz.prog 26=true:=by kernel_rfl
theorem Zn4:Yc Tryz.prog 27=true:=by kernel_rfl
theorem Zpo:Yc Tryz.prog 30=true:=by kernel_rfl
theorem Zij:Yc Tryz.prog 61=true:=by kernel_rfl
theorem Ro:Yc Tryz.prog 62=true:=by kernel_rfl
theorem Zpw:Yp Tryz.prog 32 0=some 0:=by kernel_rfl
theorem Zn8:Yp Tryz.prog 32 1=some 1:=by kernel_rfl
theorem Zah:Yp Tryz.prog 32 13=some 13:=by kernel_rfl
theorem Gt:Yp Tryz.prog 36 3=some 24:=by kernel_rfl
theorem Z4v:Yp Tryz.prog 36 4=some 25:=by kernel_rfl
theorem Zc0:intT Tryz.prog 3=some .i64:=by kernel_rfl
theorem Jv:Wm Tryz.prog 34=some 40:=by kernel_rfl
theorem Zay:Xc Tryz.prog 32=some 14:=by kernel_rfl
theorem Zk0:Xc Tryz.prog 34=some 1:=by kernel_rfl
theorem Z2c:Xc Tryz.prog 36=some 26:=by kernel_rfl
theorem Ns:Xc Tryz.prog 40=some 1:=by kernel_rfl
theorem Zc6:(Tryz.prog.underlying 5).isSome=true:=by kernel_rfl
theorem Nb:Wj Tryz.prog 34=true:=by kernel_rfl
theorem Zl9:Ws Tryz.prog 100=some (.agg #[iV 0]):=by kernel_rfl
theorem Zcy:Ws Tryz.prog 32=some (.agg #[iV 0,iV 0,iV 0,iV 0,iV 0,iV 0,iV 0,iV 0,iV 0,iV 0,iV 0,iV 0,iV 0,iV 0]):=by kernel_rfl
theorem Z1t:Ws Tryz.prog 36=some (.agg #[iV 0,iV 0,iV 0,.slice none 0 0,.slice none 0 0,.slice none 0 0,.slice none 0 0,.slice none 0 0,.slice none 0 0,iV 0,iV 0,iV 0,iV 0,iV 0,iV 0,iV 0,iV 0,iV 0,iV 0,iV 0,iV 0,iV 0,iV 0,.pointer none,.slice none 0 0,.slice none 0 0]):=by kernel_rfl
theorem Ze9:Ws Tryz.prog 40=some (.pointer none):=by kernel_rfl
theorem Zbs:ElemT Tryz.prog 26 3 1 8 (iV 0):=⟨Xv,Ym,Z1a,Nn,rfl⟩
theorem Zkj:ElemT Tryz.prog 27 2 1 8 (iV 0):=⟨Nu,Uj,Zf9,Zcc,rfl⟩
theorem Zj0:ElemT Tryz.prog 34 40 1 8 (.pointer none):=⟨Jv,Ns,Zpu,Ze9,rfl⟩
theorem Zk3 {verts0:Int}(w:World){r0:Int}(H:Z39 verts0=some r0):Fnc Tryz.prog 61 #[iV verts0] w [] (fun v N=>v=iV r0∧N=[]):=by
 unfold Z39 at H;refine Zy (vs:=[iV verts0]) Tryz.func61 rfl rfl (Inv.refl w) ?_;refine sR Y1 rfl ?_;refine aN Za ?_;refine sR Y1 rfl ?_;refine aN Za ?_;refine Zn ?_;refine Vz (fun (n4:Int)=>Zac n4=some r0) (fun (n4:Int)=>[(3,iV n4)]) (fun (n4:Int)=>[]) ?_ ?_
 ·
  refine T.block ?_;obtain ⟨a4,a5,a6⟩:=Zk H;refine Z4u (fun (a2:Nat) (n1:Int)=>Xz (fun s=>Z52 verts0 s) a2 n1=some a4) (fun (a2:Nat) (n1:Int)=>[(0,iV verts0),(3,iV n1)]) (fun (a2:Nat) (n1:Int)=>[]) (fun (a2:Nat) (n1:Int)=>a2) Xo 1 a5 (aF rfl) Zg ?_;rintro a2 n1 H;obtain ⟨a7,a8,rfl,H,a3⟩:=Uw H;have H:Z52 verts0 n1=some a8:=H;unfold Z52 at H;refine Zn ?_;refine sR Y3 rfl ?_;refine Ze Za ?_;refine Ze Za ?_;refine Ye Zx ?_;refine dN ?_;rcases Zv H with ⟨g2,H⟩ | ⟨g2,H⟩
  ·refine Wg rfl g2 ?_;refine T.skip ?_;refine Yk ?_;refine T.block ?_;obtain ⟨g3,H⟩:=Yh H;refine rG Y3 rfl ?_;refine Ze Za ?_;refine TO.shl1 g3 Zf ?_;refine Ww Za ?_;refine Zm ?_;refine Vd ?_;have H:=Vy H a3;exact Z30 a7 (n1*2) H (Nat.lt_succ_self _) (aF rfl) Zg
  ·refine Wd rfl g2 ?_;refine T.exit ?_;refine Wh ?_;have H:=Wt H a3▸a6;refine Wh ?_;refine Ud ?_;exact Vb n1 H (aF rfl) Zg
 ·rintro n4 H;unfold Zac at H;refine sR Y2 rfl ?_;refine Ze Za ?_;refine aN Za ?_;refine T.ret ?_;obtain rfl:=ret1 H;exact Zw Za (Res.tmp rfl) Zg ⟨rfl,rfl⟩
theorem Lt {n0:Int}{c1:Layout}{a2:Nat}{H_:Heap}(w:World)(a3:H_=[(eC a2 #[iV c1.Verts,iV c1.Arcs,iV c1.Workers,iV c1.Room,iV c1.Res,iV c1.Ex,iV c1.H,iV c1.Flag,iV c1.Pending,iV c1.Ask,iV c1.Count,iV c1.Sense,iV c1.Deques,iV c1.Size] 32)])(hin:Inv w ((H_:Heap).filterMap Prod.fst) w H_){r0:Int}{o0:Layout}(H:Gg n0 c1=some (r0,o0)):Fnc Tryz.prog 62 #[iV n0,pV a2] w ((H_:Heap).filterMap Prod.fst) (fun v N=>v=iV r0∧N=[(eC a2 #[iV c1.Verts,iV c1.Arcs,iV c1.Workers,iV c1.Room,iV c1.Res,iV c1.Ex,iV c1.H,iV c1.Flag,iV c1.Pending,iV c1.Ask,iV c1.Count,iV c1.Sense,iV c1.Deques,iV o0.Size] 32)]):=by
 subst a3;unfold Gg at H;refine Zy (vs:=[iV n0,pV a2]) Tryz.func62 rfl rfl hin ?_;refine sR Y1 rfl ?_;refine aN Za ?_;obtain ⟨g2,H⟩:=Yh H;refine sR Y6 rfl ?_;refine Zl Za Zah ?_;refine Zr Za Zs Zi rfl ?_;refine Ze Za ?_;refine Xl g2 Zf ?_;refine Zl Za Zah ?_;refine Yl (cs':=[iV c1.Verts,iV c1.Arcs,iV c1.Workers,iV c1.Room,iV c1.Res,iV c1.Ex,iV c1.H,iV c1.Flag,iV c1.Pending,iV c1.Ask,iV c1.Count,iV c1.Sense,iV c1.Deques,iV (c1.Size+n0)]) Za Zc Ym Zu ?_;refine dN ?_;obtain ⟨g3,H⟩:=Yh H;refine sR Y5 rfl ?_;refine Zl Za Zah ?_;refine Zr Za Zs Zi rfl ?_;refine Ze Za ?_;refine Z0j g3 Zf ?_;refine aN Za ?_;refine Zq (aT [3] rfl) ?_;refine T.ret ?_;obtain ⟨rfl,rfl⟩:=ret2 H;exact Zw Za (Res.tmp rfl) (Zd Zc Zg) ⟨rfl,rfl⟩
theorem Zq1 {verts0 arcs1 workers2:Int}(w:World){r0:Layout}{r1:Int}(H:Z5e verts0 arcs1 workers2=some (r0,r1)):Fnc Tryz.prog 26 #[iV verts0,iV arcs1,iV workers2] w [] (fun v N=>v=.tuple #[.agg #[iV r0.Verts,iV r0.Arcs,iV r0.Workers,iV r0.Room,iV r0.Res,iV r0.Ex,iV r0.H,iV r0.Flag,iV r0.Pending,iV r0.Ask,iV r0.Count,iV r0.Sense,iV r0.Deques,iV r0.Size],iV r1]∧N=[]):=by
 unfold Z5e at H;refine Zy (vs:=[iV verts0,iV arcs1,iV workers2]) Tryz.func26 rfl rfl (Inv.refl w) ?_;refine sR Y2 rfl ?_;refine Wk Zu Zcy ?_;intro b1;refine aN Za ?_;refine Zn ?_;refine sR Y22 rfl ?_;refine Ze Za ?_;refine Ye Zx ?_;refine Ze Za ?_;refine TO.join [3,4,5] [6,7,8,9,10,11,12,13,14,15,16,17,18,19,20,21] rfl 15 (fun b4=>Z4p verts0 arcs1 workers2 b4=some (r0,r1)) [(0,iV verts0),(1,iV arcs1),(2,iV workers2),(6,pV b1)] ?_ ?_
 ·
  rcases Zv H with ⟨g3,H⟩ | ⟨g3,H⟩
  ·refine Yn (t:=12) (b':=true) rfl (decide_eq_true g3) ?_;refine Zp Za ?_;refine Zp Za ?_;refine Xr Zf ?_;refine Zm ?_;exact Vi (b:=true) H (aF rfl)
  ·refine Yn (t:=12) (b':=false) rfl (decide_eq_false g3) ?_;refine Ze Za ?_;refine Ye Zx ?_;refine Xp Zf ?_;refine Zm ?_;exact Vi (b:=(decide (4096<verts0))) H (aF rfl)
 ·
  rintro b4 H;unfold Z4p at H;refine Ze Za ?_;refine TO.join [7,8,9] [10,11,12,13,14,15,16,17,18,19,20,21] rfl 19 (fun b6=>Z3x verts0 arcs1 workers2 b6=some (r0,r1)) [(0,iV verts0),(1,iV arcs1),(2,iV workers2),(6,pV b1)] ?_ ?_
  ·
   rcases Zv H with ⟨g5,H⟩ | ⟨g5,H⟩
   ·refine Yn (t:=16) (b':=true) rfl g5 ?_;refine Zp Za ?_;refine Zp Za ?_;refine Xr Zf ?_;refine Zm ?_;exact Vi (b:=true) H (aF rfl)
   ·refine Yn (t:=16) (b':=false) rfl (Bool.eq_false_iff.2 g5) ?_;refine Ze Za ?_;refine Ye Zx ?_;refine Xp Zf ?_;refine Zm ?_;exact Vi (b:=(decide (arcs1<0))) H (aF rfl)
  ·
   rintro b6 H;unfold Z3x at H;refine Ze Za ?_;refine TO.join [11,12,13] [14,15,16,17,18,19,20,21] rfl 23 (fun b8=>Z60 verts0 arcs1 workers2 b8=some (r0,r1)) [(0,iV verts0),(1,iV arcs1),(2,iV workers2),(6,pV b1)] ?_ ?_
   ·
    rcases Zv H with ⟨g7,H⟩ | ⟨g7,H⟩
    ·refine Yn (t:=20) (b':=true) rfl g7 ?_;refine Zp Za ?_;refine Zp Za ?_;refine Xr Zf ?_;refine Zm ?_;exact Vi (b:=true) H (aF rfl)
    ·refine Yn (t:=20) (b':=false) rfl (Bool.eq_false_iff.2 g7) ?_;refine Ze Za ?_;refine Ye Zx ?_;refine Xp Zf ?_;refine Zm ?_;exact Vi (b:=(decide (32768<arcs1))) H (aF rfl)
   ·
    rintro b8 H;unfold Z60 at H;refine Ze Za ?_;refine TO.join [15,16,17] [18,19,20,21] rfl 27 (fun d3=>Z4c verts0 arcs1 workers2 d3=some (r0,r1)) [(0,iV verts0),(1,iV arcs1),(2,iV workers2),(6,pV b1)] ?_ ?_
    ·
     rcases Zv H with ⟨g9,H⟩ | ⟨g9,H⟩
     ·refine Yn (t:=24) (b':=true) rfl g9 ?_;refine Zp Za ?_;refine Zp Za ?_;refine Xr Zf ?_;refine Zm ?_;exact Vi (b:=true) H (aF rfl)
     ·refine Yn (t:=24) (b':=false) rfl (Bool.eq_false_iff.2 g9) ?_;refine Ze Za ?_;refine Ye Zx ?_;refine Xp Zf ?_;refine Zm ?_;exact Vi (b:=(decide (workers2<1))) H (aF rfl)
    ·
     rintro d3 H;unfold Z4c at H;refine Ze Za ?_;refine TO.join [19,20,21] [] rfl 31 (fun d4=>Z4x verts0 arcs1 workers2 d4=some (r0,r1)) [(0,iV verts0),(1,iV arcs1),(2,iV workers2),(6,pV b1)] ?_ ?_
     ·
      rcases Zv H with ⟨b9,H⟩ | ⟨b9,H⟩
      ·refine Yn (t:=28) (b':=true) rfl b9 ?_;refine Zp Za ?_;refine Zp Za ?_;refine Xr Zf ?_;refine Zm ?_;exact Vi (b:=true) H (aF rfl)
      ·refine Yn (t:=28) (b':=false) rfl (Bool.eq_false_iff.2 b9) ?_;refine Ze Za ?_;refine Ye Zx ?_;refine Xp Zf ?_;refine Zm ?_;exact Vi (b:=(decide (64<workers2))) H (aF rfl)
     ·
      rintro d4 H;unfold Z4x at H;refine dN ?_;rcases Zv H with ⟨c3,H⟩ | ⟨c3,H⟩
      ·refine Xk rfl c3 ?_;refine sR Y3 rfl ?_;refine Yx (t:=32) [iV 0,iV 0,iV 0,iV 0,iV 0,iV 0,iV 0,iV 0,iV 0,iV 0,iV 0,iV 0,iV 0,iV 0] [0,1,2,3,4,5,6,7,8,9,10,11,12,13] Za (by simp only [Yq,setCells,Value.cells,List.toList_toArray,List.getD_cons_zero,List.getD_cons_succ,List.set_cons_zero,List.set_cons_succ];rfl) (by kernel_rfl) ?_;refine Wb Za Zc Zay Zu ?_;refine aN Za ?_;refine T.ret ?_;refine Yg ?_;obtain ⟨rfl,rfl⟩:=ret2 H;exact Kq Za (Um rfl Wq Zi rfl) (Res.tmp rfl) Zg ⟨rfl,rfl⟩
      ·refine Xs rfl (Bool.eq_false_iff.2 c3) ?_;refine T.skip ?_;refine Yk ?_;refine Zn ?_;obtain ⟨a2,d6,H⟩:=Zk H;refine rG Y8 rfl ?_;refine Ze Za ?_;refine Ze Za ?_;refine Ze Za ?_;refine Ze Za ?_;refine Yd Zij Za (fun wc hwc=>Zk3 (verts0:=verts0) wc  d6) ?_;rintro _ _ ⟨rfl,rfl⟩;refine Yx (t:=32) [iV 0,iV 0,iV 0,iV 0,iV 0,iV 0,iV 0,iV 0,iV 0,iV 0,iV 0,iV 0,iV 0,iV 0] [0,1,2,3,4,5,6,7,8,9,10,11,12,13] Za (by simp only [Yq,setCells,Value.cells,List.toList_toArray,List.getD_cons_zero,List.getD_cons_succ,List.set_cons_zero,List.set_cons_succ];rfl) (by kernel_rfl) ?_;refine Wk Zu Zcy ?_;intro f7;refine Wb Za Zc Zay Zu ?_;refine dN ?_;refine sR Y2 rfl ?_;refine TO.makeFunc Zf ?_;refine aN Za ?_;refine Zq (aT [0,1,2,6,8,9] rfl) ?_;refine Zn ?_;obtain ⟨⟨a3,d5⟩,d7,H⟩:=Zk H;refine rG Y5 rfl ?_;refine Ze Za ?_;refine Ze Za ?_;refine Xu Ro Zf (Zh Zc (Gone.refl _)) rfl (fun wc hwc=>Lt (n0:=arcs1) (c1:=(Layout.mk verts0 arcs1 workers2 a2 0 0 0 0 0 0 0 0 0 0)) wc rfl (hwc.self (Zd Zc Zg) rfl)  d7) ?_;rintro _ _ ⟨rfl,rfl⟩;refine Zl Za Z1j ?_;refine Yl (cs':=[iV verts0,iV arcs1,iV workers2,iV a2,iV a3,iV 0,iV 0,iV 0,iV 0,iV 0,iV 0,iV 0,iV 0,iV d5.Size]) Za Zc Ym Zu ?_;refine dS ?_;obtain ⟨⟨a4,d8⟩,d9,H⟩:=Zk H;obtain ⟨⟨a5,e0⟩,e2,H⟩:=Zk H;obtain ⟨⟨a6,b5⟩,e3,H⟩:=Zk H;refine rG Y15 rfl ?_;refine Ze Za ?_;refine Ze Za ?_;refine Xu Ro Zf (Zh Zc (Gone.refl _)) rfl (fun wc hwc=>Lt (n0:=verts0) (c1:=(Layout.mk verts0 arcs1 workers2 a2 a3 0 0 0 0 0 0 0 0 d5.Size)) wc rfl (hwc.self (Zd Zc Zg) rfl)  d9) ?_;rintro _ _ ⟨rfl,rfl⟩;refine Ze Za ?_;refine Ze Za ?_;refine Xu Ro Zf (Zh Zc (Gone.refl _)) rfl (fun wc hwc=>Lt (n0:=verts0) (c1:=(Layout.mk verts0 arcs1 workers2 a2 a3 0 0 0 0 0 0 0 0 d8.Size)) wc rfl (hwc.self (Zd Zc Zg) rfl)  e2) ?_;rintro _ _ ⟨rfl,rfl⟩;refine Ze Za ?_;refine Ze Za ?_;refine Xu Ro Zf (Zh Zc (Gone.refl _)) rfl (fun wc hwc=>Lt (n0:=verts0) (c1:=(Layout.mk verts0 arcs1 workers2 a2 a3 0 0 0 0 0 0 0 0 e0.Size)) wc rfl (hwc.self (Zd Zc Zg) rfl)  e3) ?_;rintro _ _ ⟨rfl,rfl⟩;refine Zl Za Nt ?_;refine Yl (cs':=[iV verts0,iV arcs1,iV workers2,iV a2,iV a3,iV a4,iV 0,iV 0,iV 0,iV 0,iV 0,iV 0,iV 0,iV b5.Size]) Za Zc Ym Zu ?_;refine Zl Za Z5p ?_;refine Yl (cs':=[iV verts0,iV arcs1,iV workers2,iV a2,iV a3,iV a4,iV a5,iV 0,iV 0,iV 0,iV 0,iV 0,iV 0,iV b5.Size]) Za Zc Ym Zu ?_;refine Zl Za Z1i ?_;refine Yl (cs':=[iV verts0,iV arcs1,iV workers2,iV a2,iV a3,iV a4,iV a5,iV a6,iV 0,iV 0,iV 0,iV 0,iV 0,iV b5.Size]) Za Zc Ym Zu ?_;refine dN ?_;refine Zq (aT [2,6,8,9] rfl) ?_;refine Zn ?_;obtain ⟨⟨a7,e4⟩,e5,H⟩:=Zk H;obtain ⟨⟨a8,e6⟩,e7,H⟩:=Zk H;obtain ⟨⟨b7,e8⟩,e9,H⟩:=Zk H;obtain ⟨⟨d1,a9⟩,f1,H⟩:=Zk H;refine rG Y16 rfl ?_;refine Ze Za ?_;refine Xu Ro Zf (Zh Zc (Gone.refl _)) rfl (fun wc hwc=>Lt (n0:=1) (c1:=(Layout.mk verts0 arcs1 workers2 a2 a3 a4 a5 a6 0 0 0 0 0 b5.Size)) wc rfl (hwc.self (Zd Zc Zg) rfl)  e5) ?_;rintro _ _ ⟨rfl,rfl⟩;refine Ze Za ?_;refine Xu Ro Zf (Zh Zc (Gone.refl _)) rfl (fun wc hwc=>Lt (n0:=1) (c1:=(Layout.mk verts0 arcs1 workers2 a2 a3 a4 a5 a6 0 0 0 0 0 e4.Size)) wc rfl (hwc.self (Zd Zc Zg) rfl)  e7) ?_;rintro _ _ ⟨rfl,rfl⟩;refine Ze Za ?_;refine Xu Ro Zf (Zh Zc (Gone.refl _)) rfl (fun wc hwc=>Lt (n0:=1) (c1:=(Layout.mk verts0 arcs1 workers2 a2 a3 a4 a5 a6 0 0 0 0 0 e6.Size)) wc rfl (hwc.self (Zd Zc Zg) rfl)  e9) ?_;rintro _ _ ⟨rfl,rfl⟩;refine Ze Za ?_;refine Xu Ro Zf (Zh Zc (Gone.refl _)) rfl (fun wc hwc=>Lt (n0:=1) (c1:=(Layout.mk verts0 arcs1 workers2 a2 a3 a4 a5 a6 0 0 0 0 0 e8.Size)) wc rfl (hwc.self (Zd Zc Zg) rfl)  f1) ?_;rintro _ _ ⟨rfl,rfl⟩;refine Zl Za Z4d ?_;refine Yl (cs':=[iV verts0,iV arcs1,iV workers2,iV a2,iV a3,iV a4,iV a5,iV a6,iV a7,iV 0,iV 0,iV 0,iV 0,iV a9.Size]) Za Zc Ym Zu ?_;refine Zl Za Zda ?_;refine Yl (cs':=[iV verts0,iV arcs1,iV workers2,iV a2,iV a3,iV a4,iV a5,iV a6,iV a7,iV a8,iV 0,iV 0,iV 0,iV a9.Size]) Za Zc Ym Zu ?_;refine Zl Za Z96 ?_;refine Yl (cs':=[iV verts0,iV arcs1,iV workers2,iV a2,iV a3,iV a4,iV a5,iV a6,iV a7,iV a8,iV b7,iV 0,iV 0,iV a9.Size]) Za Zc Ym Zu ?_;refine Zl Za Z8j ?_;refine Yl (cs':=[iV verts0,iV arcs1,iV workers2,iV a2,iV a3,iV a4,iV a5,iV a6,iV a7,iV a8,iV b7,iV d1,iV 0,iV a9.Size]) Za Zc Ym Zu ?_;refine dN ?_;refine Zq (aT [2,6,8,9] rfl) ?_;refine Zn ?_;obtain ⟨f2,f3,H⟩:=Jh H;obtain ⟨⟨f4,f5⟩,f6,H⟩:=Zk H;refine rG Y9 rfl ?_;refine Ze Za ?_;refine Ze Za ?_;refine Zl Za Z6d ?_;refine Zr Za Zs Zi rfl ?_;refine Xl f2 Zf ?_;refine Zgg f3 Zf ?_;refine Xu Ro Zf (Zh Zc (Gone.refl _)) rfl (fun wc hwc=>Lt (n0:=(workers2*(a2+2))) (c1:=(Layout.mk verts0 arcs1 workers2 a2 a3 a4 a5 a6 a7 a8 b7 d1 0 a9.Size)) wc rfl (hwc.self (Zd Zc Zg) rfl)  f6) ?_;rintro _ _ ⟨rfl,rfl⟩;refine Zl Za Zg4 ?_;refine Yl (cs':=[iV verts0,iV arcs1,iV workers2,iV a2,iV a3,iV a4,iV a5,iV a6,iV a7,iV a8,iV b7,iV d1,iV f4,iV f5.Size]) Za Zc Ym Zu ?_;refine dN ?_;refine Zq (aT [6,8] rfl) ?_;refine sR Y3 rfl ?_;refine Wf Za Wq Zi rfl ?_;refine Wb Za Zt Zay Zu ?_;refine aN Za ?_;refine T.ret ?_;obtain ⟨rfl,rfl⟩:=ret2 H;exact Kq Za (Um rfl Wq Zi rfl) (Res.tmp rfl) Zg ⟨rfl,rfl⟩
theorem Zqm {n0:Int}(w:World){r0:CellsBank}{r1:Int}(H:Z5q n0=some (r0,r1)):Fnc Tryz.prog 27 #[iV n0] w [] (fun v N=>∃ (a5:Nat) (a2:Option Nat) (a3 a4:Nat) (a6:List Value),v=.tuple #[pV a5,iV r1]∧N=[(eC a5 #[sV a2 a3 a4] 95),(eI a2 r0.l a6 100)]∧r0.l.length=a3∧a3≤a4∧a6.length=(a4-a3)*1∧(a2=none→a4=0)):=by
 unfold Z5q at H;refine Zy (vs:=[iV n0]) Tryz.func27 rfl rfl (Inv.refl w) ?_;refine sR Y2 rfl ?_;refine Ww Za ?_;refine aN Za ?_;refine Zn ?_;refine Zn ?_;refine Vz (fun (x2:Bool)=>Z69 n0 x2=some (r0,r1)) (fun (x2:Bool)=>[(0,iV n0),(9,.bool x2)]) (fun (x2:Bool)=>[]) ?_ ?_
 ·
  rcases Zv H with ⟨g1,H⟩ | ⟨g1,H⟩
  ·refine rG Y6 rfl ?_;refine Ze Za ?_;refine Ye Zx ?_;refine Ze Za ?_;refine Yn (t:=6) (b':=true) rfl (decide_eq_true g1) ?_;refine Zp Za ?_;refine Zp Za ?_;refine Xr Zf ?_;refine Zm ?_;exact Vb true H (aF rfl) Zg
  ·refine rG Y6 rfl ?_;refine Ze Za ?_;refine Ye Zx ?_;refine Ze Za ?_;refine Yn (t:=6) (b':=false) rfl (decide_eq_false g1) ?_;refine Ze Za ?_;refine Ye Zx ?_;refine Xp Zf ?_;refine Zm ?_;exact Vb (decide (524288<n0)) H (aF rfl) Zg
 ·
  rintro x2 H;unfold Z69 at H;rcases Zv H with ⟨g3,H⟩ | ⟨g3,H⟩
  ·cases H
  ·refine Xs rfl (Bool.eq_false_iff.2 g3) ?_;refine T.skip ?_;refine Yk ?_;obtain ⟨g4,H⟩:=Yh H;refine sR Y6 rfl ?_;refine Ze Za ?_;refine TO.mkS (f:=iC) (zc:=0) g4 rr8 Zbb Zfy Zl9 Zo0 rfl ?_;intro b5;refine Yx (t:=95) [.slice none 0 0] [0] Za (by simp only [Yq,setCells,Value.cells,List.toList_toArray,List.getD_cons_zero,List.getD_cons_succ,List.set_cons_zero,List.set_cons_succ];rfl) (by kernel_rfl) ?_;refine Wy Za ?_;intro b7;refine Ww Za ?_;refine aN Za ?_;refine T.ret ?_;obtain ⟨rfl,rfl⟩:=ret2 H;exact Kq Za (Res.tmp rfl) (Res.tmp rfl) (Zd Zc (Zd Zc Zg)) ⟨b7,(some b5),n0.toNat,n0.toNat,([]),rfl,rfl,List.length_replicate,(Nat.le_refl _),(Vm _ _),Vx⟩
theorem Zlo {c0:Csr}{l1:Layout}{id2 limit3:Int}{a8 a2 a5 a9 d1 d5:Option Addr}{a7 b5 a4 a3 d3 c3 d4 b7 b9 d6 d7 a6:Nat}(w:World)(d8:RS w [] iC 1 a2 a4 a3 c0.Head){r0:WorkerWorker}{r1:Int}(H:Z4y c0 l1 id2 limit3=some (r0,r1)):Fnc Tryz.prog 30 #[.agg #[iV c0.N,iV c0.S,iV c0.T,.slice a8 a7 b5,.slice a2 a4 a3,.slice a5 d3 c3,.slice a9 d4 b7,.slice d1 b9 d6,.slice d5 d7 a6],.agg #[iV l1.Verts,iV l1.Arcs,iV l1.Workers,iV l1.Room,iV l1.Res,iV l1.Ex,iV l1.H,iV l1.Flag,iV l1.Pending,iV l1.Ask,iV l1.Count,iV l1.Sense,iV l1.Deques,iV l1.Size],iV id2,iV limit3] w [] (fun v N=>∃ (e0:Nat),v=.tuple #[pV e0,iV r1]∧N=[(some e0,.cells (Zj (a8,a7,b5) (a2,a4,a3) (a5,d3,c3) (a9,d4,b7) (d1,b9,d6) (d5,d7,a6) ({ r0 with c:=({ c0 with N:=r0.c.N,S:=r0.c.S,T:=r0.c.T }:Csr) }:WorkerWorker)).toArray 65 (0,0))]):=by
 unfold Z4y at H;refine Zy (vs:=[.agg #[iV c0.N,iV c0.S,iV c0.T,.slice a8 a7 b5,.slice a2 a4 a3,.slice a5 d3 c3,.slice a9 d4 b7,.slice d1 b9 d6,.slice d5 d7 a6],.agg #[iV l1.Verts,iV l1.Arcs,iV l1.Workers,iV l1.Room,iV l1.Res,iV l1.Ex,iV l1.H,iV l1.Flag,iV l1.Pending,iV l1.Ask,iV l1.Count,iV l1.Sense,iV l1.Deques,iV l1.Size],iV id2,iV limit3]) Tryz.func30 rfl rfl (Inv.refl w) ?_;refine sR Y4 rfl ?_;refine Wy Za ?_;intro b1;refine Wy Za ?_;intro b3;refine Ww Za ?_;refine aN Za ?_;refine Zn ?_;refine sR Y27 rfl ?_;refine Zl Za Zpw ?_;refine Zr Za Zs Zi rfl ?_;refine Zl Za Z1k ?_;refine Zr Za Zs Yu rfl ?_;refine Ye Zx ?_;refine Ze Za ?_;refine TO.join [6,7,8,9,10,11,12] [13,14,15,16,17,18,19,20,21,22,23,24,25,26] rfl 23 (fun b6=>Z6j c0 l1 id2 limit3 b6=some (r0,r1)) [(2,iV id2),(3,iV limit3),(4,pV b1),(5,pV b3)] ?_ ?_
 ·
  rcases Zv H with ⟨g5,H⟩ | ⟨g5,H⟩
  ·refine Yn (t:=16) (b':=true) rfl (decide_eq_true g5) ?_;refine Zp Za ?_;refine Zp Za ?_;refine Zp Za ?_;refine Zp Za ?_;refine Zp Za ?_;refine Zp Za ?_;refine Xr Zf ?_;refine Zm ?_;exact Vi (b:=true) H (aF rfl)
  ·refine Yn (t:=16) (b':=false) rfl (decide_eq_false g5) ?_;refine Zl Za Zn8 ?_;refine Zr Za Zs Zi rfl ?_;refine Zl Za Z15 ?_;refine Zr Za Uh Yu rfl ?_;refine Vq (xs:=c0.Head) d8.len Zf Xv ?_;refine Ye Zx ?_;refine Xp Zf ?_;refine Zm ?_;exact Vi (b:=(decide (l1.Arcs≠(c0.Head.length:Int)))) H (aF rfl)
 ·
  rintro b6 H;unfold Z6j at H;refine Ze Za ?_;refine TO.join [14,15,16] [17,18,19,20,21,22,23,24,25,26] rfl 27 (fun b8=>Z6h c0 l1 id2 limit3 b8=some (r0,r1)) [(2,iV id2),(3,iV limit3),(4,pV b1),(5,pV b3)] ?_ ?_
  ·
   rcases Zv H with ⟨g7,H⟩ | ⟨g7,H⟩
   ·refine Yn (t:=24) (b':=true) rfl g7 ?_;refine Zp Za ?_;refine Zp Za ?_;refine Xr Zf ?_;refine Zm ?_;exact Vi (b:=true) H (aF rfl)
   ·refine Yn (t:=24) (b':=false) rfl (Bool.eq_false_iff.2 g7) ?_;refine Ze Za ?_;refine Ye Zx ?_;refine Xp Zf ?_;refine Zm ?_;exact Vi (b:=(decide (id2<0))) H (aF rfl)
  ·
   rintro b8 H;unfold Z6h at H;refine Ze Za ?_;refine TO.join [18,19,20,21,22] [23,24,25,26] rfl 33 (fun e2=>Z5k c0 l1 id2 limit3 e2=some (r0,r1)) [(2,iV id2),(3,iV limit3),(4,pV b1),(5,pV b3)] ?_ ?_
   ·
    rcases Zv H with ⟨g9,H⟩ | ⟨g9,H⟩
    ·refine Yn (t:=28) (b':=true) rfl g9 ?_;refine Zp Za ?_;refine Zp Za ?_;refine Zp Za ?_;refine Zp Za ?_;refine Xr Zf ?_;refine Zm ?_;exact Vi (b:=true) H (aF rfl)
    ·refine Yn (t:=28) (b':=false) rfl (Bool.eq_false_iff.2 g9) ?_;refine Ze Za ?_;refine Zl Za Z6l ?_;refine Zr Za Zs Zi rfl ?_;refine Ye Zx ?_;refine Xp Zf ?_;refine Zm ?_;exact Vi (b:=(decide (l1.Workers≤id2))) H (aF rfl)
   ·
    rintro e2 H;unfold Z5k at H;refine Ze Za ?_;refine TO.join [24,25,26] [] rfl 37 (fun e3=>Z5b c0 l1 id2 limit3 e3=some (r0,r1)) [(2,iV id2),(3,iV limit3),(4,pV b1),(5,pV b3)] ?_ ?_
    ·
     rcases Zv H with ⟨d9,H⟩ | ⟨d9,H⟩
     ·refine Yn (t:=34) (b':=true) rfl d9 ?_;refine Zp Za ?_;refine Zp Za ?_;refine Xr Zf ?_;refine Zm ?_;exact Vi (b:=true) H (aF rfl)
     ·refine Yn (t:=34) (b':=false) rfl (Bool.eq_false_iff.2 d9) ?_;refine Ze Za ?_;refine Ye Zx ?_;refine Xp Zf ?_;refine Zm ?_;exact Vi (b:=(decide (limit3<1))) H (aF rfl)
    ·
     rintro e3 H;unfold Z5b at H;refine dN ?_;rcases Zv H with ⟨e4,H⟩ | ⟨e4,H⟩
     ·cases H
     ·refine Xs rfl (Bool.eq_false_iff.2 e4) ?_;refine T.skip ?_;refine Yk ?_;refine sR Y7 rfl ?_;refine Wf Za Z33 Yu rfl ?_;refine Wf Za Wq Zi rfl ?_;refine Ze Za ?_;refine Ze Za ?_;refine Yx (t:=65) [iV 0,iV 0,iV 0,.slice none 0 0,.slice none 0 0,.slice none 0 0,.slice none 0 0,.slice none 0 0,.slice none 0 0,iV 0,iV 0,iV 0,iV 0,iV 0,iV 0,iV 0,iV 0,iV 0,iV 0,iV 0,iV 0,iV 0,iV 0,iV 0,iV 0,iV 0,iV 0,iV 0,iV 0,iV 0,iV 0,iV 0,iV 0,iV 0,iV 0,iV 0,iV 0,iV 0,iV 0,iV 0,iV 0,iV 0,iV 0,iV 0,iV 0,.bool false,.bool false,iV 0,iV 0,iV 0,iV 0,iV 0,iV 0,iV 0,iV 0,iV 0,iV 0,iV 0,iV 0,iV 0,iV 0,iV 0,iV 0,iV 0,iV 0,iV 0,.bool false,.bool false,.bool false,iV 0,iV 0,iV 0,iV 0,iV 0,iV 0,iV 0,iV 0,iV 0,iV 0,iV 0,iV 0,iV 0,iV 0,iV 0,iV 0,iV 0,iV 0,iV 0,.bool false,.bool false,iV 0,iV 0,iV 0,iV 0,iV 0,iV 0,iV 0,iV 0,iV 0,iV 0,iV 0,iV 0,iV 0,iV 0,iV 0,.int .u8 0,iV 0,.bool false,iV 0,iV 0,iV 0,iV 0,iV 0,.bool false,.bool false,iV 0,iV 0,.int .u8 0,iV 0,iV 0,iV 0,iV 0,iV 0,.bool false,iV 0,iV 0,iV 0,iV 0,iV 0] [0,9,23,24,25,26,47,69,91,108,109,110,111,112,113,114,115,116,123,124,125,126,127,128] Za (by simp only [Yq,setCells,Value.cells,List.toList_toArray,List.getD_cons_zero,List.getD_cons_succ,List.set_cons_zero,List.set_cons_succ];rfl) (by kernel_rfl) ?_;refine Wy Za ?_;intro e5;refine Ux (H:=[(some e5,.cells (Zj (a8,a7,b5) (a2,a4,a3) (a5,d3,c3) (a9,d4,b7) (d1,b9,d6) (d5,d7,a6) (WorkerWorker.mk c0 l1 id2 limit3 0 (DequePop.mk (DequePart.mk (Layout.mk 0 0 0 0 0 0 0 0 0 0 0 0 0 0) 0 0 0 0 0 false false)) (DequeSteal.mk (DequePart.mk (Layout.mk 0 0 0 0 0 0 0 0 0 0 0 0 0 0) 0 0 0 0 0 false false) false) (DequePush.mk (DequePart.mk (Layout.mk 0 0 0 0 0 0 0 0 0 0 0 0 0 0) 0 0 0 0 0 false false) 0) (BarrierArrive.mk (Layout.mk 0 0 0 0 0 0 0 0 0 0 0 0 0 0) 0 0 false) 0 0 0 0 0 false false 0 (Evt.mk 0 0 0 0 0 0 0) false 0 0 0 0 0)).toArray 65 (0,0)),(eC b3 #[iV l1.Verts,iV l1.Arcs,iV l1.Workers,iV l1.Room,iV l1.Res,iV l1.Ex,iV l1.H,iV l1.Flag,iV l1.Pending,iV l1.Ask,iV l1.Count,iV l1.Sense,iV l1.Deques,iV l1.Size] 32),(eC b1 #[iV c0.N,iV c0.S,iV c0.T,.slice a8 a7 b5,.slice a2 a4 a3,.slice a5 d3 c3,.slice a9 d4 b7,.slice d1 b9 d6,.slice d5 d7 a6] 30)]) rfl ?_;refine aN Za ?_;refine Zq (aT [10] rfl) ?_;refine Zn ?_;obtain ⟨e7,e6,H⟩:=Zk H;refine rG Y2 rfl ?_;refine Ze Za ?_;refine Ys Zcx Za (Zh Zc (Gone.refl _)) rfl (fun wc hwc=>Zd6 (w0:=(WorkerWorker.mk c0 l1 id2 limit3 0 (DequePop.mk (DequePart.mk (Layout.mk 0 0 0 0 0 0 0 0 0 0 0 0 0 0) 0 0 0 0 0 false false)) (DequeSteal.mk (DequePart.mk (Layout.mk 0 0 0 0 0 0 0 0 0 0 0 0 0 0) 0 0 0 0 0 false false) false) (DequePush.mk (DequePart.mk (Layout.mk 0 0 0 0 0 0 0 0 0 0 0 0 0 0) 0 0 0 0 0 false false) 0) (BarrierArrive.mk (Layout.mk 0 0 0 0 0 0 0 0 0 0 0 0 0 0) 0 0 false) 0 0 0 0 0 false false 0 (Evt.mk 0 0 0 0 0 0 0) false 0 0 0 0 0)) wc rfl (hwc.self (Zd Zc Zg) rfl)  e6) ?_;rintro _ _ ⟨rfl,rfl⟩;refine dN ?_;refine sR Y3 rfl ?_;refine Ze Za ?_;refine Ww Za ?_;refine aN Za ?_;refine T.ret ?_;obtain ⟨rfl,rfl⟩:=ret2 H;exact Kq Za (Res.tmp rfl) (Res.tmp rfl) (Zd Zc Zg) ⟨e5,rfl,rfl⟩
theorem Zet {n0:Net}{workers1 limit2:Int}{c3:Option Addr}{b9 d1:Nat}(w:World)(p8:RS w [] Xj 3 c3 b9 d1 n0.Arcs){r0:Acequialaw16Phase}{r1:Bool}(H:Z3n n0 workers1 limit2=some (r0,r1)):Fnc Tryz.prog 12 #[.agg #[iV n0.N,iV n0.S,iV n0.T,.slice c3 b9 d1],iV workers1,iV limit2] w [] (fun v N=>∃ (m1:Option Nat) (q2 q3:Nat) (F0:List Value) (m2:Option Nat) (q4 q5:Nat) (F1:List Value) (m3:Option Nat) (q6 q7:Nat) (F2:List Value) (h8:Option Nat) (h7 j7:Nat) (q8:List Value) (h9:Option Nat) (j8 j9:Nat) (q9:List Value) (i0:Option Nat) (k2 k3:Nat) (r2:List Value) (r3:Nat) (k4:Option Nat) (m4 m5:Nat) (r4:List Value) (k5:Option Nat) (m6 m7:Nat) (r7:List Value) (i2:List Nat) (k6:Option Nat) (m8 m9:Nat) (r8:List Value),v=.tuple #[.agg #[iV r0.C.N,iV r0.C.S,iV r0.C.T,sV m1 q2 q3,sV m2 q4 q5,sV m3 q6 q7,sV h8 h7 j7,sV h9 j8 j9,sV i0 k2 k3,iV r0.L.Verts,iV r0.L.Arcs,iV r0.L.Workers,iV r0.L.Room,iV r0.L.Res,iV r0.L.Ex,iV r0.L.H,iV r0.L.Flag,iV r0.L.Pending,iV r0.L.Ask,iV r0.L.Count,iV r0.L.Sense,iV r0.L.Deques,iV r0.L.Size,pV r3,sV k5 m6 m7,sV k6 m8 m9],.bool r1]∧N=((eI m1 r0.C.First F0 3)::(eI m2 r0.C.Head F1 3)::(eI m3 r0.C.Rev F2 3)::(eI h8 r0.C.Cap q8 2)::(eI h9 r0.C.Arc q9 3)::(eA i0 boolC r0.C.Back r2 4)::(eC r3 #[sV k4 m4 m5] 95)::(eI k4 r0.B.l r4 100)::(eA k5 Xd i2 r7 40)::(eI k6 r0.Dealt r8 3)::Yz (Zj ((sb m1),q2,q3) ((sb m2),q4,q5) ((sb m3),q6,q7) ((sb h8),h7,j7) ((sb h9),j8,j9) ((sb i0),k2,k3)) 65 i2 r0.W)∧r0.C.First.length=q2∧q2≤q3∧F0.length=(q3-q2)*1∧(m1=none→q3=0)∧r0.C.Head.length=q4∧q4≤q5∧F1.length=(q5-q4)*1∧(m2=none→q5=0)∧r0.C.Rev.length=q6∧q6≤q7∧F2.length=(q7-q6)*1∧(m3=none→q7=0)∧r0.C.Cap.length=h7∧h7≤j7∧q8.length=(j7-h7)*1∧(h8=none→j7=0)∧r0.C.Arc.length=j8∧j8≤j9∧q9.length=(j9-j8)*1∧(h9=none→j9=0)∧r0.C.Back.length=k2∧k2≤k3∧r2.length=(k3-k2)*1∧(i0=none→k3=0)∧r0.B.l.length=m4∧m4≤m5∧r4.length=(m5-m4)*1∧(k4=none→m5=0)∧i2.length=m6∧m6≤m7∧r7.length=(m7-m6)*1∧(k5=none→m7=0)∧i2.length=r0.W.length∧r0.Dealt.length=m8∧m8≤m9∧r8.length=(m9-m8)*1∧(k6=none→m9=0)):=by
 unfold Z3n at H;refine Zy (vs:=[.agg #[iV n0.N,iV n0.S,iV n0.T,.slice c3 b9 d1],iV workers1,iV limit2]) Tryz.func12 rfl rfl (Inv.refl w) ?_;refine sR Y3 rfl ?_;refine Wy Za ?_;intro b1;refine Wk Zu Z1t ?_;intro b3;refine aN Za ?_;refine Zn ?_;obtain ⟨⟨r5,r6⟩,e7,H⟩:=Zk H;refine rG Y8 rfl ?_;refine Wf Za Ua Yu rfl ?_;refine Yd Zqa Za (fun wc hwc=>Zlu (n0:=n0) wc (p8.mono hwc) e7) ?_;rintro _ _ ⟨b8,n9,c10,i5,a6,d8,c14,i6,a7,d9,c18,i7,a4,d6,c22,i8,a8,e0,c26,i9,a9,e2,c30,j0,rfl,rfl,j1,k7,x1,k8,k9,n6,x2,n7,o8,o9,x3,p1,j2,l3,x4,l4,x5,x6,x7,x8,x9,y0,y1,y2⟩;refine Ze Za ?_;refine TO.extract Zf ?_;refine TO.extract Zf ?_;refine Wk Zu Zbg ?_;intro f6;refine Wb Za Zc Z6u Zu ?_;refine aN Za ?_;refine Zn ?_;obtain ⟨⟨a2,G3⟩,G4,H⟩:=Zk H;refine rG Y13 rfl ?_;refine Zl Za Z1k ?_;refine Zr Za Zs Zi rfl ?_;refine Zl Za Z15 ?_;refine Zr Za Uh Zi rfl ?_;refine Vq (xs:=r5.Head) k9 Zf Xv ?_;refine Ze Za ?_;refine Yd Zod Za (fun wc hwc=>Zq1 (verts0:=r5.N) (arcs1:=(r5.Head.length:Int)) (workers2:=workers1) wc  G4) ?_;rintro _ _ ⟨rfl,rfl⟩;refine Ze Za ?_;refine TO.extract Zf ?_;refine TO.extract Zf ?_;refine Wk Zu Zcy ?_;intro f7;refine Wb Za Zc Zay Zu ?_;refine aN Za ?_;refine Zq (aT [1,2,3,6,8,9,10,11] rfl) ?_;refine Zn ?_;obtain ⟨⟨r9,y3⟩,G5,H⟩:=Zk H;refine rG Y8 rfl ?_;refine Zl Za Zah ?_;refine Zr Za Zs Zi rfl ?_;refine Yd Zn4 Za (fun wc hwc=>Zqm (n0:=a2.Size) wc  G5) ?_;rintro _ _ ⟨b72,b6,g3,c75,j3,rfl,rfl,y4,e4,y5,e5⟩;refine Ze Za ?_;refine TO.extract Zf ?_;refine TO.extract Zf ?_;refine Ww Za ?_;refine aN Za ?_;refine sR Y6 rfl ?_;refine Wf Za Z33 Kh rfl ?_;refine Wf Za Wq Wr rfl ?_;refine Ze Za ?_;refine Yx (t:=36) [iV 0,iV 0,iV 0,.slice none 0 0,.slice none 0 0,.slice none 0 0,.slice none 0 0,.slice none 0 0,.slice none 0 0,iV 0,iV 0,iV 0,iV 0,iV 0,iV 0,iV 0,iV 0,iV 0,iV 0,iV 0,iV 0,iV 0,iV 0,.pointer none,.slice none 0 0,.slice none 0 0] [0,9,23,24,25] Za (by simp only [Yq,setCells,Value.cells,List.toList_toArray,List.getD_cons_zero,List.getD_cons_succ,List.set_cons_zero,List.set_cons_succ];rfl) (by kernel_rfl) ?_;refine Wk Zu Z1t ?_;intro f4;refine Wb Za Zc Z2c Zu ?_;refine dN ?_;refine Zq (aT [1,2,3,6,8,9,10,11,12,13,14] rfl) ?_;refine Zn ?_;refine sR Y25 rfl ?_;refine Ze Za ?_;refine Ye Zx ?_;refine Ze Za ?_;refine TO.join [3,4,5] [6,7,8,9,10,11,12,13,14,15,16,17,18,19,20,21,22,23,24] rfl 55 (fun F3=>Z5h n0 workers1 limit2 r5 a2 r9 y3 F3=some (r0,r1)) [(1,iV workers1),(2,iV limit2),(3,pV b1),(6,pV b3),(8,pV f6),(10,pV f7),(12,pV b72),(13,iV y3),(14,pV f4)] ?_ ?_
 ·
  rcases Zv H with ⟨y6,H⟩ | ⟨y6,H⟩
  ·refine Yn (t:=52) (b':=true) rfl (decide_eq_true y6) ?_;refine Zp Za ?_;refine Zp Za ?_;refine Xr Zf ?_;refine Zm ?_;exact Vi (b:=true) H (aF rfl)
  ·refine Yn (t:=52) (b':=false) rfl (decide_eq_false y6) ?_;refine Ze Za ?_;refine Ye Zx ?_;refine Xp Zf ?_;refine Zm ?_;exact Vi (b:=(decide (G3≠0))) H (aF rfl)
 ·
  rintro F3 H;unfold Z5h at H;refine Ze Za ?_;refine TO.join [7,8,9] [10,11,12,13,14,15,16,17,18,19,20,21,22,23,24] rfl 59 (fun F4=>Z6c n0 workers1 limit2 r5 a2 r9 F4=some (r0,r1)) [(1,iV workers1),(2,iV limit2),(3,pV b1),(6,pV b3),(8,pV f6),(10,pV f7),(12,pV b72),(14,pV f4)] ?_ ?_
  ·
   rcases Zv H with ⟨y7,H⟩ | ⟨y7,H⟩
   ·refine Yn (t:=56) (b':=true) rfl y7 ?_;refine Zp Za ?_;refine Zp Za ?_;refine Xr Zf ?_;refine Zm ?_;exact Vi (b:=true) H (aF rfl)
   ·refine Yn (t:=56) (b':=false) rfl (Bool.eq_false_iff.2 y7) ?_;refine Ze Za ?_;refine Ye Zx ?_;refine Xp Zf ?_;refine Zm ?_;exact Vi (b:=(decide (y3≠0))) H (aF rfl)
  ·
   rintro F4 H;unfold Z6c at H;refine Ze Za ?_;refine TO.join [11,12,13,14,15,16,17,18] [19,20,21,22,23,24] rfl 68 (fun F5=>Z3y n0 workers1 limit2 r5 a2 r9 F5=some (r0,r1)) [(1,iV workers1),(2,iV limit2),(3,pV b1),(6,pV b3),(8,pV f6),(10,pV f7),(12,pV b72),(14,pV f4)] ?_ ?_
   ·
    rcases Zv H with ⟨y8,H⟩ | ⟨y8,H⟩
    ·refine Yn (t:=60) (b':=true) rfl y8 ?_;refine Zp Za ?_;refine Zp Za ?_;refine Zp Za ?_;refine Zp Za ?_;refine Zp Za ?_;refine Zp Za ?_;refine Zp Za ?_;refine Xr Zf ?_;refine Zm ?_;exact Vi (b:=true) H (aF rfl)
    ·obtain ⟨G6,H⟩:=Yh H;refine Yn (t:=60) (b':=false) rfl (Bool.eq_false_iff.2 y8) ?_;refine Zl Za Rz ?_;refine Zr Za Uh Gz rfl ?_;refine Vq (xs:=r5.First) j1 Zf Xv ?_;refine Zl Za Ut ?_;refine Zr Za Zs mm12 rfl ?_;refine Xl G6 Zf ?_;refine Ye Zx ?_;refine Xp Zf ?_;refine Zm ?_;exact Vi (b:=(decide ((r5.First.length:Int)≠(n0.N+1)))) H (aF rfl)
   ·
    rintro F5 H;unfold Z3y at H;refine Ze Za ?_;refine TO.join [20,21,22,23,24] [] rfl 74 (fun F6=>Z5a n0 workers1 limit2 r5 a2 r9 F6=some (r0,r1)) [(1,iV workers1),(2,iV limit2),(3,pV b1),(6,pV b3),(8,pV f6),(10,pV f7),(12,pV b72),(14,pV f4)] ?_ ?_
    ·
     rcases Zv H with ⟨y9,H⟩ | ⟨y9,H⟩
     ·refine Yn (t:=69) (b':=true) rfl y9 ?_;refine Zp Za ?_;refine Zp Za ?_;refine Zp Za ?_;refine Zp Za ?_;refine Xr Zf ?_;refine Zm ?_;exact Vi (b:=true) H (aF rfl)
     ·refine Yn (t:=69) (b':=false) rfl (Bool.eq_false_iff.2 y9) ?_;refine Zl Za Z6l ?_;refine Zr Za Zs Kh rfl ?_;refine Ze Za ?_;refine Ye Zx ?_;refine Xp Zf ?_;refine Zm ?_;exact Vi (b:=(decide (a2.Workers≠workers1))) H (aF rfl)
    ·
     rintro F6 H;unfold Z5a at H;refine dN ?_;rcases Zv H with ⟨F7,H⟩ | ⟨F7,H⟩
     ·cases H
     ·
      refine Xs rfl (Bool.eq_false_iff.2 F7) ?_;refine T.skip ?_;refine Yk ?_;refine Zn ?_;refine sR Y4 rfl ?_;refine Zl Za Z90 ?_;refine Zr Za Zbf Gz rfl ?_;refine Vq (xs:=r5.Cap) j2 Zf Nu ?_;refine Ze Za ?_;refine dN ?_;refine Vz (fun (f8:List Int)=>Z9v n0 workers1 limit2 r5 a2 f8=some (r0,r1)∧f8.length=g3) (fun (f8:List Int)=>[(1,iV workers1),(2,iV limit2),(3,pV b1),(6,pV b3),(8,pV f6),(10,pV f7),(12,pV b72),(14,pV f4)]) (fun (f8:List Int)=>[(eC b1 #[iV n0.N,iV n0.S,iV n0.T,.slice c3 b9 d1] 24),(eC b3 #[iV 0,iV 0,iV 0,.slice none 0 0,.slice none 0 0,.slice none 0 0,.slice none 0 0,.slice none 0 0,.slice none 0 0,iV 0,iV 0,iV 0,iV 0,iV 0,iV 0,iV 0,iV 0,iV 0,iV 0,iV 0,iV 0,iV 0,iV 0,.pointer none,.slice none 0 0,.slice none 0 0] 36),(eC f6 #[iV r5.N,iV r5.S,iV r5.T,sV b8 n9 c10,sV a6 d8 c14,sV a7 d9 c18,sV a4 d6 c22,sV a8 e0 c26,sV a9 e2 c30] 30),(eI b8 r5.First i5 3),(eI a6 r5.Head i6 3),(eI a7 r5.Rev i7 3),(eI a4 r5.Cap i8 2),(eI a8 r5.Arc i9 3),(eA a9 boolC r5.Back j0 4),(eC f7 #[iV a2.Verts,iV a2.Arcs,iV a2.Workers,iV a2.Room,iV a2.Res,iV a2.Ex,iV a2.H,iV a2.Flag,iV a2.Pending,iV a2.Ask,iV a2.Count,iV a2.Sense,iV a2.Deques,iV a2.Size] 32),(eC b72 #[sV b6 g3 c75] 95),(eI b6 f8 j3 100),(eC f4 #[iV r5.N,iV r5.S,iV r5.T,sV b8 n9 c10,sV a6 d8 c14,sV a7 d9 c18,sV a4 d6 c22,sV a8 e0 c26,sV a9 e2 c30,iV a2.Verts,iV a2.Arcs,iV a2.Workers,iV a2.Room,iV a2.Res,iV a2.Ex,iV a2.H,iV a2.Flag,iV a2.Pending,iV a2.Ask,iV a2.Count,iV a2.Sense,iV a2.Deques,iV a2.Size,pV b72,.slice none 0 0,.slice none 0 0] 36)]) ?_ ?_
      ·
       refine T.block ?_;obtain ⟨G7,G8,G9⟩:=Zk H;refine Z02 (fun (p9:Nat) (g4:List Int) (m0:Int)=>Xz (fun s=>Z27 r5 a2 s.1 s.2) p9 (g4,m0)=some G7∧g4.length=g3) (fun (p9:Nat) (g4:List Int) (m0:Int)=>[(1,iV workers1),(2,iV limit2),(3,pV b1),(6,pV b3),(8,pV f6),(10,pV f7),(12,pV b72),(14,pV f4),(77,sV a4 d6 c22),(78,iV (r5.Cap.length:Int)),(79,iV m0)]) (fun (p9:Nat) (g4:List Int) (m0:Int)=>[(eC b1 #[iV n0.N,iV n0.S,iV n0.T,.slice c3 b9 d1] 24),(eC b3 #[iV 0,iV 0,iV 0,.slice none 0 0,.slice none 0 0,.slice none 0 0,.slice none 0 0,.slice none 0 0,.slice none 0 0,iV 0,iV 0,iV 0,iV 0,iV 0,iV 0,iV 0,iV 0,iV 0,iV 0,iV 0,iV 0,iV 0,iV 0,.pointer none,.slice none 0 0,.slice none 0 0] 36),(eC f6 #[iV r5.N,iV r5.S,iV r5.T,sV b8 n9 c10,sV a6 d8 c14,sV a7 d9 c18,sV a4 d6 c22,sV a8 e0 c26,sV a9 e2 c30] 30),(eI b8 r5.First i5 3),(eI a6 r5.Head i6 3),(eI a7 r5.Rev i7 3),(eI a4 r5.Cap i8 2),(eI a8 r5.Arc i9 3),(eA a9 boolC r5.Back j0 4),(eC f7 #[iV a2.Verts,iV a2.Arcs,iV a2.Workers,iV a2.Room,iV a2.Res,iV a2.Ex,iV a2.H,iV a2.Flag,iV a2.Pending,iV a2.Ask,iV a2.Count,iV a2.Sense,iV a2.Deques,iV a2.Size] 32),(eC b72 #[sV b6 g3 c75] 95),(eI b6 g4 j3 100),(eC f4 #[iV r5.N,iV r5.S,iV r5.T,sV b8 n9 c10,sV a6 d8 c14,sV a7 d9 c18,sV a4 d6 c22,sV a8 e0 c26,sV a9 e2 c30,iV a2.Verts,iV a2.Arcs,iV a2.Workers,iV a2.Room,iV a2.Res,iV a2.Ex,iV a2.H,iV a2.Flag,iV a2.Pending,iV a2.Ask,iV a2.Count,iV a2.Sense,iV a2.Deques,iV a2.Size,pV b72,.slice none 0 0,.slice none 0 0] 36)]) (fun (p9:Nat) (g4:List Int) (m0:Int)=>p9) Xo r9.l 0 ⟨G8,y4⟩ (aF rfl) (Zd tk12 (Zd tk11 (Zd Ur (Zd Ur (Zd Ur (Zd Ur (Zd Ur (Zd Ur (Zd Ur (Zd Xn (Zd Zt (Zd Zt (Zd Zc Zg))))))))))))) ?_;rintro p9 g4 m0 ⟨H,s1⟩;obtain ⟨H0,H1,rfl,H,F8⟩:=Uw H;have H:Z27 r5 a2 g4 m0=some H1:=H;unfold Z27 at H;refine sR Y1 rfl ?_;refine Ye Zx ?_;refine dS ?_;rcases Zv H with ⟨z1,H⟩ | ⟨z1,H⟩
       ·refine Wg rfl z1 ?_;refine T.skip ?_;refine Yk ?_;refine Zn ?_;refine T.block ?_;obtain ⟨F9,H⟩:=Yh H;refine sR Y5 rfl ?_;refine Ze Za ?_;refine Un l4 l3 j2 F9 Zf Nu Uj ?_;refine Lr l4 l3 j2 F9 Za Wl mm6 ?_;refine Ww Za ?_;refine aN Za ?_;obtain ⟨z5,H⟩:=Yh H;obtain ⟨⟨H2,z6⟩,z7,H⟩:=Zk H;refine rG Y7 rfl ?_;refine Ze Za ?_;refine Zl Za Z1j ?_;refine Zr Za Zs Ga rfl ?_;refine Ze Za ?_;refine Xl z5 Zf ?_;refine Ze Za ?_;refine Ys Lh Za (Zh Kw (Zh Kw (Gone.refl _))) rfl (fun wc hwc=>Lk (b0:=(CellsBank.mk g4)) (i1:=(a2.Res+m0)) (d2:=(r5.Cap.getD m0.toNat 0)) wc rfl (hwc.self (Zd Kw (Zd Kw Zg)) rfl) s1 e4 e5 z7) ?_;rintro _ _ ⟨rfl,rfl,s6⟩;refine Zm ?_;refine Vd ?_;refine Yk ?_;refine Zq (aT [1,2,3,6,8,10,12,14,77,78,79] rfl) ?_;obtain ⟨z8,H⟩:=Yh H;refine rG Y2 rfl ?_;refine Xl z8 Zf ?_;refine Ze Za ?_;refine Zm ?_;have H:=Vy H F8;exact Rk H0 z6.l (m0+1) ⟨H,s6⟩ (Nat.lt_succ_self _) (aF rfl) (Zd Zz (Zd Zz (Zd Zz (Zd Zz (Zd Zz (Zd Zz (Zd Zz (Zd Zz (Zd Zz (Zd Zz (Zd Zc (Zd Zc (Zd Zc Zg)))))))))))))
       ·refine Wd rfl z1 ?_;refine T.exit ?_;refine Wh ?_;have H:=Wt H F8▸G9;refine Wh ?_;refine Ud ?_;exact Vb g4 ⟨H,s1⟩ (aF rfl) (Zd Zc (Zd Zc (Zd Zc (Zd Zc (Zd Zc (Zd Zc (Zd Zc (Zd Zc (Zd Zc (Zd Zc (Zd Zc (Zd Zc (Zd Zc Zg)))))))))))))
      ·
       rintro f8 ⟨H,s7⟩;unfold Z9v at H;refine Zn ?_;obtain ⟨s8,H⟩:=Yh H;refine sR Y7 rfl ?_;refine Zl Za Rz ?_;refine Zr Za Uh Wr rfl ?_;refine Zl Za Kj ?_;refine Zr Za Zs Zi rfl ?_;refine Un k8 k7 j1 s8 Zf Xv Ym ?_;refine Lr k8 k7 j1 s8 Za Zs Kh ?_;refine aN Za ?_;refine Vz (fun (f9:List Int)=>Z7p n0 workers1 limit2 r5 a2 f9=some (r0,r1)∧f9.length=g3) (fun (f9:List Int)=>[(1,iV workers1),(2,iV limit2),(3,pV b1),(6,pV b3),(8,pV f6),(10,pV f7),(12,pV b72),(14,pV f4)]) (fun (f9:List Int)=>[(eC b1 #[iV n0.N,iV n0.S,iV n0.T,.slice c3 b9 d1] 24),(eC b3 #[iV 0,iV 0,iV 0,.slice none 0 0,.slice none 0 0,.slice none 0 0,.slice none 0 0,.slice none 0 0,.slice none 0 0,iV 0,iV 0,iV 0,iV 0,iV 0,iV 0,iV 0,iV 0,iV 0,iV 0,iV 0,iV 0,iV 0,iV 0,.pointer none,.slice none 0 0,.slice none 0 0] 36),(eC f6 #[iV r5.N,iV r5.S,iV r5.T,sV b8 n9 c10,sV a6 d8 c14,sV a7 d9 c18,sV a4 d6 c22,sV a8 e0 c26,sV a9 e2 c30] 30),(eI b8 r5.First i5 3),(eI a6 r5.Head i6 3),(eI a7 r5.Rev i7 3),(eI a4 r5.Cap i8 2),(eI a8 r5.Arc i9 3),(eA a9 boolC r5.Back j0 4),(eC f7 #[iV a2.Verts,iV a2.Arcs,iV a2.Workers,iV a2.Room,iV a2.Res,iV a2.Ex,iV a2.H,iV a2.Flag,iV a2.Pending,iV a2.Ask,iV a2.Count,iV a2.Sense,iV a2.Deques,iV a2.Size] 32),(eC b72 #[sV b6 g3 c75] 95),(eI b6 f9 j3 100),(eC f4 #[iV r5.N,iV r5.S,iV r5.T,sV b8 n9 c10,sV a6 d8 c14,sV a7 d9 c18,sV a4 d6 c22,sV a8 e0 c26,sV a9 e2 c30,iV a2.Verts,iV a2.Arcs,iV a2.Workers,iV a2.Room,iV a2.Res,iV a2.Ex,iV a2.H,iV a2.Flag,iV a2.Pending,iV a2.Ask,iV a2.Count,iV a2.Sense,iV a2.Deques,iV a2.Size,pV b72,.slice none 0 0,.slice none 0 0] 36)]) ?_ ?_
       ·
        refine T.block ?_;obtain ⟨H3,H4,H5⟩:=Zk H;refine Z02 (fun (q0:Nat) (d7:List Int) (e6:Int)=>Xz (fun s=>Z1u n0 r5 a2 s.1 s.2) q0 (d7,e6)=some H3∧d7.length=g3) (fun (q0:Nat) (d7:List Int) (e6:Int)=>[(1,iV workers1),(2,iV limit2),(3,pV b1),(6,pV b3),(8,pV f6),(10,pV f7),(12,pV b72),(14,pV f4),(17,iV e6)]) (fun (q0:Nat) (d7:List Int) (e6:Int)=>[(eC b1 #[iV n0.N,iV n0.S,iV n0.T,.slice c3 b9 d1] 24),(eC b3 #[iV 0,iV 0,iV 0,.slice none 0 0,.slice none 0 0,.slice none 0 0,.slice none 0 0,.slice none 0 0,.slice none 0 0,iV 0,iV 0,iV 0,iV 0,iV 0,iV 0,iV 0,iV 0,iV 0,iV 0,iV 0,iV 0,iV 0,iV 0,.pointer none,.slice none 0 0,.slice none 0 0] 36),(eC f6 #[iV r5.N,iV r5.S,iV r5.T,sV b8 n9 c10,sV a6 d8 c14,sV a7 d9 c18,sV a4 d6 c22,sV a8 e0 c26,sV a9 e2 c30] 30),(eI b8 r5.First i5 3),(eI a6 r5.Head i6 3),(eI a7 r5.Rev i7 3),(eI a4 r5.Cap i8 2),(eI a8 r5.Arc i9 3),(eA a9 boolC r5.Back j0 4),(eC f7 #[iV a2.Verts,iV a2.Arcs,iV a2.Workers,iV a2.Room,iV a2.Res,iV a2.Ex,iV a2.H,iV a2.Flag,iV a2.Pending,iV a2.Ask,iV a2.Count,iV a2.Sense,iV a2.Deques,iV a2.Size] 32),(eC b72 #[sV b6 g3 c75] 95),(eI b6 d7 j3 100),(eC f4 #[iV r5.N,iV r5.S,iV r5.T,sV b8 n9 c10,sV a6 d8 c14,sV a7 d9 c18,sV a4 d6 c22,sV a8 e0 c26,sV a9 e2 c30,iV a2.Verts,iV a2.Arcs,iV a2.Workers,iV a2.Room,iV a2.Res,iV a2.Ex,iV a2.H,iV a2.Flag,iV a2.Pending,iV a2.Ask,iV a2.Count,iV a2.Sense,iV a2.Deques,iV a2.Size,pV b72,.slice none 0 0,.slice none 0 0] 36)]) (fun (q0:Nat) (d7:List Int) (e6:Int)=>q0) Xo f8 (r5.First.getD n0.S.toNat 0) ⟨H4,s7⟩ (aF rfl) (Zd Zc (Zd Zc (Zd Zc (Zd Zc (Zd Zc (Zd Zc (Zd Zc (Zd Zc (Zd Zc (Zd Zc (Zd Zc (Zd Zc (Zd Zc Zg))))))))))))) ?_;rintro q0 d7 e6 ⟨H,o1⟩;obtain ⟨H6,H7,rfl,H,G0⟩:=Uw H;have H:Z1u n0 r5 a2 d7 e6=some H7:=H;unfold Z1u at H;refine Zn ?_;obtain ⟨z9,s9,H⟩:=Jh H;refine sR Y9 rfl ?_;refine Ze Za ?_;refine Zl Za Rz ?_;refine Zr Za Uh Wr rfl ?_;refine Zl Za Kj ?_;refine Zr Za Zs Zi rfl ?_;refine Xl z9 Zf ?_;refine Un k8 k7 j1 s9 Zf Xv Ym ?_;refine Lr k8 k7 j1 s9 Za Zs Kh ?_;refine Ye Zx ?_;refine dN ?_;refine Zq (aT [1,2,3,6,8,10,12,14,17,106] rfl) ?_;rcases Zv H with ⟨p2,H⟩ | ⟨p2,H⟩
        ·refine Wg rfl p2 ?_;refine T.skip ?_;refine Yk ?_;refine Zn ?_;refine T.block ?_;obtain ⟨t0,H⟩:=Yh H;refine sR Y6 rfl ?_;refine Zl Za Z90 ?_;refine Zr Za Zbf Wr rfl ?_;refine Ze Za ?_;refine Un l4 l3 j2 t0 Zf Nu Uj ?_;refine Lr l4 l3 j2 t0 Za Wl mm6 ?_;refine aN Za ?_;refine Zn ?_;obtain ⟨A0,H⟩:=Yh H;obtain ⟨A1,A2,H⟩:=Zk H;refine rG Y6 rfl ?_;refine Ze Za ?_;refine Zl Za Z1j ?_;refine Zr Za Zs Ga rfl ?_;refine Ze Za ?_;refine Xl A0 Zf ?_;refine Ys Ky Za (Zh Kw (Zh Kw (Gone.refl _))) rfl (fun wc hwc=>Je (b0:=(CellsBank.mk d7)) (i1:=(a2.Res+e6)) (v2:=0) wc rfl (hwc.self (Zd Kw (Zd Kw Zg)) rfl) o1 e4 e5 A2) ?_;rintro _ _ ⟨rfl,rfl,t1⟩;refine dN ?_;refine Zq (aT [1,2,3,6,8,10,12,14,17,18] rfl) ?_;refine Zn ?_;obtain ⟨t2,A3,H⟩:=Jh H;obtain ⟨⟨H8,A4⟩,A5,H⟩:=Zk H;refine Xy 10 [0,1,2,3,4,5,6,7,8,9] rfl Xh (by kernel_rfl) (by kernel_rfl) rfl (by kernel_rfl) ?_;refine TQ.move Za ?_;refine Yo Za Z1j ?_;refine Yr Za Zs Kn rfl ?_;refine Yo Za Z4f ?_;refine Yr Za Uh Gz rfl ?_;refine TQ.move Za ?_;refine Zcd p1 o9 o8 t2 Zf Xv Ym ?_;refine Zgr p1 o9 o8 t2 Za Zs mm7 ?_;refine Uv A3 Zf ?_;refine TQ.move Za ?_;refine Xx [10] Yt ?_;refine Ys Lh Za (Zh Zc (Zh Zc (Gone.refl _))) rfl (fun wc hwc=>Lk (b0:=A1) (i1:=(a2.Res+(r5.Rev.getD e6.toNat 0))) (d2:=(r5.Cap.getD e6.toNat 0)) wc rfl (hwc.self (Zd Zc (Zd Zc Zg)) rfl) t1 e4 e5 A5) ?_;rintro _ _ ⟨rfl,rfl,t3⟩;refine dN ?_;refine Zq (aT [1,2,3,6,8,10,12,14,17,18] rfl) ?_;refine Zn ?_;obtain ⟨A6,H⟩:=Yh H;obtain ⟨⟨H9,A7⟩,A8,H⟩:=Zk H;refine rG Y9 rfl ?_;refine Ze Za ?_;refine Zl Za Nt ?_;refine Zr Za Zs Kn rfl ?_;refine Zl Za Kj ?_;refine Zr Za Zs Wr rfl ?_;refine Xl A6 Zf ?_;refine Ze Za ?_;refine TO.neg rfl rfl rfl rfl ?_;refine Ys Lh Za (Zh Zc (Zh Zc (Gone.refl _))) rfl (fun wc hwc=>Lk (b0:=A4) (i1:=(a2.Ex+n0.S)) (d2:=(Rc .i64 (r5.Cap.getD e6.toNat 0))) wc rfl (hwc.self (Zd Zc (Zd Zc Zg)) rfl) t3 e4 e5 A8) ?_;rintro _ _ ⟨rfl,rfl,t4⟩;refine dN ?_;refine Zq (aT [1,2,3,6,8,10,12,14,17,18] rfl) ?_;obtain ⟨t5,A9,H⟩:=Jh H;obtain ⟨⟨I0,B0⟩,B1,H⟩:=Zk H;refine Xy 10 [0,1,2,3,4,5,6,7,8,9] rfl Xh (by kernel_rfl) (by kernel_rfl) rfl (by kernel_rfl) ?_;refine TQ.move Za ?_;refine Yo Za Nt ?_;refine Yr Za Zs Kn rfl ?_;refine Yo Za Z15 ?_;refine Yr Za Uh Gz rfl ?_;refine TQ.move Za ?_;refine Zcd n7 n6 k9 t5 Zf Xv Ym ?_;refine Zgr n7 n6 k9 t5 Za Zs mm6 ?_;refine Uv A9 Zf ?_;refine TQ.move Za ?_;refine Xx [10] Yt ?_;refine Ys Lh Za (Zh Zc (Zh Zc (Gone.refl _))) rfl (fun wc hwc=>Lk (b0:=A7) (i1:=(a2.Ex+(r5.Head.getD e6.toNat 0))) (d2:=(r5.Cap.getD e6.toNat 0)) wc rfl (hwc.self (Zd Zc (Zd Zc Zg)) rfl) t4 e4 e5 B1) ?_;rintro _ _ ⟨rfl,rfl,t6⟩;refine Zm ?_;refine Vd ?_;refine Yk ?_;refine Zq (aT [1,2,3,6,8,10,12,14,17] rfl) ?_;obtain ⟨B2,H⟩:=Yh H;refine rG Y3 rfl ?_;refine Ze Za ?_;refine Xl B2 Zf ?_;refine Ww Za ?_;refine Zm ?_;have H:=Vy H G0;exact Rk H6 B0.l (e6+1) ⟨H,t6⟩ (Nat.lt_succ_self _) (aF rfl) (Zd Zz (Zd Zz (Zd Zz (Zd Zz (Zd Zz (Zd Zz (Zd Zz (Zd Zz (Zd Zz (Zd Zz (Zd Zc (Zd Zc (Zd Zc Zg)))))))))))))
        ·refine Wd rfl p2 ?_;refine T.exit ?_;refine Wh ?_;have H:=Wt H G0▸H5;refine Wh ?_;refine Ud ?_;exact Vb d7 ⟨H,o1⟩ (aF rfl) (Zd Zc (Zd Zc (Zd Zc (Zd Zc (Zd Zc (Zd Zc (Zd Zc (Zd Zc (Zd Zc (Zd Zc (Zd Zc (Zd Zc (Zd Zc Zg)))))))))))))
       ·
        rintro f9 ⟨H,t7⟩;unfold Z7p at H;refine Zn ?_;obtain ⟨B3,H⟩:=Yh H;obtain ⟨B4,B5,H⟩:=Zk H;refine rG Y9 rfl ?_;refine Ze Za ?_;refine Zl Za Z5p ?_;refine Zr Za Zs Ga rfl ?_;refine Zl Za Kj ?_;refine Zr Za Zs Zi rfl ?_;refine Xl B3 Zf ?_;refine Zl Za Ut ?_;refine Zr Za Zs Zi rfl ?_;refine Ys Ky Za (Zh Kw (Zh Kw (Gone.refl _))) rfl (fun wc hwc=>Je (b0:=(CellsBank.mk f9)) (i1:=(a2.H+n0.S)) (v2:=n0.N) wc rfl (hwc.self (Zd Kw (Zd Kw Zg)) rfl) t7 e4 e5 B5) ?_;rintro _ _ ⟨rfl,rfl,t8⟩;refine dN ?_;refine Zq (aT [1,2,3,6,8,10,12,14] rfl) ?_;refine Zn ?_;refine sR Y3 rfl ?_;refine Zl Za Ut ?_;refine Zr Za Zs Wr rfl ?_;refine Ze Za ?_;refine dN ?_;refine Zdj (fun (g0 a5:List Int) (e8 e9:Nat) (b5:Option Nat) (g1:List Value)=>Zap workers1 limit2 r5 a2 g0 a5=some (r0,r1)∧g0.length=g3∧a5.length=e8∧e8≤e9∧g1.length=(e9 - e8)*1∧(b5=none→e9=0)) (fun (g0 a5:List Int) (e8 e9:Nat) (b5:Option Nat) (g1:List Value)=>[(1,iV workers1),(2,iV limit2),(6,pV b3),(8,pV f6),(10,pV f7),(12,pV b72),(14,pV f4)]) (fun (g0 a5:List Int) (e8 e9:Nat) (b5:Option Nat) (g1:List Value)=>[(eC b3 #[iV 0,iV 0,iV 0,.slice none 0 0,.slice none 0 0,.slice none 0 0,.slice none 0 0,.slice none 0 0,.slice none 0 0,iV 0,iV 0,iV 0,iV 0,iV 0,iV 0,iV 0,iV 0,iV 0,iV 0,iV 0,iV 0,iV 0,iV 0,.pointer none,.slice none 0 0,.slice none 0 0] 36),(eC f6 #[iV r5.N,iV r5.S,iV r5.T,sV b8 n9 c10,sV a6 d8 c14,sV a7 d9 c18,sV a4 d6 c22,sV a8 e0 c26,sV a9 e2 c30] 30),(eI b8 r5.First i5 3),(eI a6 r5.Head i6 3),(eI a7 r5.Rev i7 3),(eI a4 r5.Cap i8 2),(eI a8 r5.Arc i9 3),(eA a9 boolC r5.Back j0 4),(eC f7 #[iV a2.Verts,iV a2.Arcs,iV a2.Workers,iV a2.Room,iV a2.Res,iV a2.Ex,iV a2.H,iV a2.Flag,iV a2.Pending,iV a2.Ask,iV a2.Count,iV a2.Sense,iV a2.Deques,iV a2.Size] 32),(eC b72 #[sV b6 g3 c75] 95),(eI b6 g0 j3 100),(eC f4 #[iV r5.N,iV r5.S,iV r5.T,sV b8 n9 c10,sV a6 d8 c14,sV a7 d9 c18,sV a4 d6 c22,sV a8 e0 c26,sV a9 e2 c30,iV a2.Verts,iV a2.Arcs,iV a2.Workers,iV a2.Room,iV a2.Res,iV a2.Ex,iV a2.H,iV a2.Flag,iV a2.Pending,iV a2.Ask,iV a2.Count,iV a2.Sense,iV a2.Deques,iV a2.Size,pV b72,.slice none 0 0,sV b5 e8 e9] 36),(eI b5 a5 g1 3)]) ?_ ?_
        ·
         refine T.block ?_;obtain ⟨I1,I2,I3⟩:=Zk H;refine Zci (fun (q1:Nat) (b7 a3:List Int) (f2 c148:Nat) (d3:Option Nat) (g5:List Value) (d5:Int)=>Xz (fun s=>Z38 n0 workers1 a2 s.1 s.2.1 s.2.2) q1 (b7,a3,d5)=some I1∧b7.length=g3∧a3.length=f2∧f2≤c148∧g5.length=(c148 - f2)*1∧(d3=none→c148=0)) (fun (q1:Nat) (b7 a3:List Int) (f2 c148:Nat) (d3:Option Nat) (g5:List Value) (d5:Int)=>[(1,iV workers1),(2,iV limit2),(3,pV b1),(6,pV b3),(8,pV f6),(10,pV f7),(12,pV b72),(14,pV f4),(161,iV n0.N),(162,iV d5)]) (fun (q1:Nat) (b7 a3:List Int) (f2 c148:Nat) (d3:Option Nat) (g5:List Value) (d5:Int)=>[(eC b1 #[iV n0.N,iV n0.S,iV n0.T,.slice c3 b9 d1] 24),(eC b3 #[iV 0,iV 0,iV 0,.slice none 0 0,.slice none 0 0,.slice none 0 0,.slice none 0 0,.slice none 0 0,.slice none 0 0,iV 0,iV 0,iV 0,iV 0,iV 0,iV 0,iV 0,iV 0,iV 0,iV 0,iV 0,iV 0,iV 0,iV 0,.pointer none,.slice none 0 0,.slice none 0 0] 36),(eC f6 #[iV r5.N,iV r5.S,iV r5.T,sV b8 n9 c10,sV a6 d8 c14,sV a7 d9 c18,sV a4 d6 c22,sV a8 e0 c26,sV a9 e2 c30] 30),(eI b8 r5.First i5 3),(eI a6 r5.Head i6 3),(eI a7 r5.Rev i7 3),(eI a4 r5.Cap i8 2),(eI a8 r5.Arc i9 3),(eA a9 boolC r5.Back j0 4),(eC f7 #[iV a2.Verts,iV a2.Arcs,iV a2.Workers,iV a2.Room,iV a2.Res,iV a2.Ex,iV a2.H,iV a2.Flag,iV a2.Pending,iV a2.Ask,iV a2.Count,iV a2.Sense,iV a2.Deques,iV a2.Size] 32),(eC b72 #[sV b6 g3 c75] 95),(eI b6 b7 j3 100),(eC f4 #[iV r5.N,iV r5.S,iV r5.T,sV b8 n9 c10,sV a6 d8 c14,sV a7 d9 c18,sV a4 d6 c22,sV a8 e0 c26,sV a9 e2 c30,iV a2.Verts,iV a2.Arcs,iV a2.Workers,iV a2.Room,iV a2.Res,iV a2.Ex,iV a2.H,iV a2.Flag,iV a2.Pending,iV a2.Ask,iV a2.Count,iV a2.Sense,iV a2.Deques,iV a2.Size,pV b72,.slice none 0 0,sV d3 f2 c148] 36),(eI d3 a3 g5 3)]) (fun (q1:Nat) (b7 a3:List Int) (f2 c148:Nat) (d3:Option Nat) (g5:List Value) (d5:Int)=>q1) Xo B4.l ([]) 0 0 none ([]) 0 ⟨I2,t8,rfl,(Nat.le_refl _),(Vm 0 _),(fun _=>rfl)⟩ (aF rfl) (Zd Zz (Zd Zz (Zd Zz (Zd Zz (Zd Zz (Zd Zz (Zd Zz (Zd Zz (Zd Zz (Zd Zz (Zd Zc (Zd Zc (Zd Zc (Pick.none Zg)))))))))))))) ?_;rintro q1 b7 a3 f2 c148 d3 g5 d5 ⟨H,h1,h2,l5,l6,l7⟩;obtain ⟨G1,G2,rfl,H,B6⟩:=Uw H;have H:Z38 n0 workers1 a2 b7 a3 d5=some G2:=H;unfold Z38 at H;refine sR Y1 rfl ?_;refine Ye Zx ?_;refine dS ?_;rcases Zv H with ⟨p3,H⟩ | ⟨p3,H⟩
         ·
          refine Wg rfl p3 ?_;refine T.skip ?_;refine Yk ?_;refine Zn ?_;refine T.block ?_;refine sR Y2 rfl ?_;refine Ze Za ?_;refine aN Za ?_;refine Zn ?_;refine Vz (fun (l8:Bool)=>Nh workers1 a2 b7 a3 d5 l8=some G2) (fun (l8:Bool)=>[(1,iV workers1),(2,iV limit2),(3,pV b1),(6,pV b3),(8,pV f6),(10,pV f7),(12,pV b72),(14,pV f4),(19,iV d5),(161,iV n0.N),(162,iV d5),(183,.bool l8)]) (fun (l8:Bool)=>[(eC b1 #[iV n0.N,iV n0.S,iV n0.T,.slice c3 b9 d1] 24),(eC b3 #[iV 0,iV 0,iV 0,.slice none 0 0,.slice none 0 0,.slice none 0 0,.slice none 0 0,.slice none 0 0,.slice none 0 0,iV 0,iV 0,iV 0,iV 0,iV 0,iV 0,iV 0,iV 0,iV 0,iV 0,iV 0,iV 0,iV 0,iV 0,.pointer none,.slice none 0 0,.slice none 0 0] 36),(eC f6 #[iV r5.N,iV r5.S,iV r5.T,sV b8 n9 c10,sV a6 d8 c14,sV a7 d9 c18,sV a4 d6 c22,sV a8 e0 c26,sV a9 e2 c30] 30),(eI b8 r5.First i5 3),(eI a6 r5.Head i6 3),(eI a7 r5.Rev i7 3),(eI a4 r5.Cap i8 2),(eI a8 r5.Arc i9 3),(eA a9 boolC r5.Back j0 4),(eC f7 #[iV a2.Verts,iV a2.Arcs,iV a2.Workers,iV a2.Room,iV a2.Res,iV a2.Ex,iV a2.H,iV a2.Flag,iV a2.Pending,iV a2.Ask,iV a2.Count,iV a2.Sense,iV a2.Deques,iV a2.Size] 32),(eC b72 #[sV b6 g3 c75] 95),(eI b6 b7 j3 100),(eC f4 #[iV r5.N,iV r5.S,iV r5.T,sV b8 n9 c10,sV a6 d8 c14,sV a7 d9 c18,sV a4 d6 c22,sV a8 e0 c26,sV a9 e2 c30,iV a2.Verts,iV a2.Arcs,iV a2.Workers,iV a2.Room,iV a2.Res,iV a2.Ex,iV a2.H,iV a2.Flag,iV a2.Pending,iV a2.Ask,iV a2.Count,iV a2.Sense,iV a2.Deques,iV a2.Size,pV b72,.slice none 0 0,sV d3 f2 c148] 36),(eI d3 a3 g5 3)]) ?_ ?_
          ·
           rcases Zv H with ⟨n8,H⟩ | ⟨n8,H⟩
           ·
            rcases Zv H with ⟨p4,H⟩ | ⟨p4,H⟩
            ·obtain ⟨B7,H⟩:=Yh H;obtain ⟨B8,B9,H⟩:=Zk H;refine rG Y19 rfl ?_;refine Ze Za ?_;refine Zl Za Kj ?_;refine Zr Za Zs Zi rfl ?_;refine Ye Zx ?_;refine Ze Za ?_;refine Yn (t:=169) (b':=true) rfl (decide_eq_true n8) ?_;refine Ze Za ?_;refine Zl Za Ng ?_;refine Zr Za Zs Zi rfl ?_;refine Ye Zx ?_;refine Xr Zf ?_;refine Ze Za ?_;refine Yn (t:=175) (b':=true) rfl (decide_eq_true p4) ?_;refine Ze Za ?_;refine Zl Za Nt ?_;refine Zr Za Zs Ga rfl ?_;refine Ze Za ?_;refine Xl B7 Zf ?_;refine Yd Vu Za (fun wc hwc=>Vp (b0:=(CellsBank.mk b7)) (i1:=(a2.Ex+d5)) wc (Kg hwc Kn h1 e4 e5) (hwc.hb (cs:=[sV b6 g3 c75]) Rp) B9) ?_;rintro _ _ ⟨rfl,rfl⟩;refine Ye Zx ?_;refine Xr Zf ?_;refine Zm ?_;exact Vb (decide (0<B8)) H (aF rfl) (Zd Zc (Zd Zc (Zd Zc (Zd Zc (Zd Zc (Zd Zc (Zd Zc (Zd Zc (Zd Zc (Zd Zc (Zd Zc (Zd Zc (Zd Zc (Zd Zc Zg))))))))))))))
            ·refine rG Y19 rfl ?_;refine Ze Za ?_;refine Zl Za Kj ?_;refine Zr Za Zs Zi rfl ?_;refine Ye Zx ?_;refine Ze Za ?_;refine Yn (t:=169) (b':=true) rfl (decide_eq_true n8) ?_;refine Ze Za ?_;refine Zl Za Ng ?_;refine Zr Za Zs Zi rfl ?_;refine Ye Zx ?_;refine Xr Zf ?_;refine Ze Za ?_;refine Yn (t:=175) (b':=false) rfl (decide_eq_false p4) ?_;refine Zp Za ?_;refine Zp Za ?_;refine Zp Za ?_;refine Zp Za ?_;refine Zp Za ?_;refine Zp Za ?_;refine Zp Za ?_;refine Xp Zf ?_;refine Zm ?_;exact Vb false H (aF rfl) (Zd Zc (Zd Zc (Zd Zc (Zd Zc (Zd Zc (Zd Zc (Zd Zc (Zd Zc (Zd Zc (Zd Zc (Zd Zc (Zd Zc (Zd Zc (Zd Zc Zg))))))))))))))
           ·refine rG Y19 rfl ?_;refine Ze Za ?_;refine Zl Za Kj ?_;refine Zr Za Zs Zi rfl ?_;refine Ye Zx ?_;refine Ze Za ?_;refine Yn (t:=169) (b':=false) rfl (decide_eq_false n8) ?_;refine Zp Za ?_;refine Zp Za ?_;refine Zp Za ?_;refine Zp Za ?_;refine Xp Zf ?_;refine Ze Za ?_;refine Zp Za ?_;refine Zp Za ?_;refine Zp Za ?_;refine Zp Za ?_;refine Zp Za ?_;refine Zp Za ?_;refine Zp Za ?_;refine Xp Zf ?_;refine Zm ?_;exact Vb false H (aF rfl) (Zd Zc (Zd Zc (Zd Zc (Zd Zc (Zd Zc (Zd Zc (Zd Zc (Zd Zc (Zd Zc (Zd Zc (Zd Zc (Zd Zc (Zd Zc (Zd Zc Zg))))))))))))))
          ·
           rintro l8 H;unfold Nh at H;rcases Zv H with ⟨p5,H⟩ | ⟨p5,H⟩
           ·refine Xk rfl p5 ?_;obtain ⟨C0,H⟩:=Yh H;refine sR Y6 rfl ?_;refine Zl Za Z4v ?_;refine Zr Za Uh mm12 rfl ?_;refine Vq (xs:=a3) h2 Zf Xv ?_;refine Ze Za ?_;refine TO.rem Zf C0 ?_;refine aN Za ?_;refine Zn ?_;obtain ⟨C1,C2,H⟩:=Zk H;obtain ⟨t9,C3,H⟩:=Zk H;refine rG Y6 rfl ?_;refine Ze Za ?_;refine Wf Za Wq Ga rfl ?_;refine Ze Za ?_;refine Yd Z10 Za (fun wc hwc=>Z1n (l0:=a2) (w1:=((a3.length:Int).tmod workers1)) wc  C2) ?_;rintro _ _ ⟨rfl,rfl⟩;refine Yd Vu Za (fun wc hwc=>Vp (b0:=(CellsBank.mk b7)) (i1:=C1) wc (Kg hwc Kn h1 e4 e5) (hwc.hb (cs:=[sV b6 g3 c75]) Rp) C3) ?_;rintro _ _ ⟨rfl,rfl⟩;refine aN Za ?_;refine Zq (aT [1,2,3,6,8,10,12,14,19,161,162,20,21] rfl) ?_;refine Zn ?_;obtain ⟨C4,C5,H⟩:=Zk H;obtain ⟨C6,C7,H⟩:=Zk H;refine rG Y7 rfl ?_;refine Ze Za ?_;refine Wf Za Wq Ga rfl ?_;refine Ze Za ?_;refine Ze Za ?_;refine Yd Z46 Za (fun wc hwc=>Z4b (l0:=a2) (w1:=((a3.length:Int).tmod workers1)) (at2:=t9) wc  C5) ?_;rintro _ _ ⟨rfl,rfl⟩;refine Ze Za ?_;refine Ys Ky Za (Zh Kw (Zh Kw (Gone.refl _))) rfl (fun wc hwc=>Je (b0:=(CellsBank.mk b7)) (i1:=C4) (v2:=d5) wc rfl (hwc.self (Zd Kw (Zd Kw Zg)) rfl) h1 e4 e5 C7) ?_;rintro _ _ ⟨rfl,rfl,u1⟩;refine dS ?_;obtain ⟨C8,C9,H⟩:=Zk H;obtain ⟨D0,H⟩:=Yh H;obtain ⟨D1,D2,H⟩:=Zk H;refine rG Y7 rfl ?_;refine Ze Za ?_;refine Wf Za Wq Kn rfl ?_;refine Ze Za ?_;refine Yd Z10 Za (fun wc hwc=>Z1n (l0:=a2) (w1:=((a3.length:Int).tmod workers1)) wc  C9) ?_;rintro _ _ ⟨rfl,rfl⟩;refine Ze Za ?_;refine Xl D0 Zf ?_;refine Ys Ky Za (Zh Zc (Zh Zc (Gone.refl _))) rfl (fun wc hwc=>Je (b0:=C6) (i1:=C8) (v2:=(t9+1)) wc rfl (hwc.self (Zd Zc (Zd Zc Zg)) rfl) u1 e4 e5 D2) ?_;rintro _ _ ⟨rfl,rfl,u2⟩;refine dN ?_;refine Zq (aT [1,2,3,6,8,10,12,14,19,161,162] rfl) ?_;refine Zn ?_;obtain ⟨D3,H⟩:=Yh H;obtain ⟨D4,D5,H⟩:=Zk H;refine rG Y6 rfl ?_;refine Ze Za ?_;refine Zl Za Z1i ?_;refine Zr Za Zs Kn rfl ?_;refine Ze Za ?_;refine Xl D3 Zf ?_;refine Ys Ky Za (Zh Zc (Zh Zc (Gone.refl _))) rfl (fun wc hwc=>Je (b0:=D1) (i1:=(a2.Flag+d5)) (v2:=1) wc rfl (hwc.self (Zd Zc (Zd Zc Zg)) rfl) u2 e4 e5 D5) ?_;rintro _ _ ⟨rfl,rfl,u3⟩;refine dN ?_;obtain ⟨D6,H⟩:=Yh H;refine rG Y7 rfl ?_;refine Zl Za Z4v ?_;refine Zr Za Uh mm12 rfl ?_;refine Ze Za ?_;refine Ju [iV 0] [0] Za Xv Ym Nn Yt (by simp only [Yq,setCells,Value.cells,List.toList_toArray,List.getD_cons_zero,List.getD_cons_succ,List.set_cons_zero,List.set_cons_succ];rfl) (by kernel_rfl) ?_;intro I4;refine Z06 (f:=iC) (s:=1) (xs:=a3) (ob:=d3) (j:=g5) (ys:=[d5]) (fun _=>rfl) (fun _=>rfl) Zbs D6 Zf tk14 h2 l5 l6 l7 (fun wc hwc=>(hwc.rs (f:=iC) (s:=1) (xs:=[d5]) (j:=([])) (fun _=>rfl) Zi rfl (Nat.le_refl _) Vx)) ?_;intro o2 u4 D7 u5 u6 u7;refine Zl Za Z4v ?_;refine Yl (cs':=[iV r5.N,iV r5.S,iV r5.T,sV b8 n9 c10,sV a6 d8 c14,sV a7 d9 c18,sV a4 d6 c22,sV a8 e0 c26,sV a9 e2 c30,iV a2.Verts,iV a2.Arcs,iV a2.Workers,iV a2.Room,iV a2.Res,iV a2.Ex,iV a2.H,iV a2.Flag,iV a2.Pending,iV a2.Ask,iV a2.Count,iV a2.Sense,iV a2.Deques,iV a2.Size,pV b72,.slice none 0 0,sV o2 (f2+1) u4]) Za tk14 Z45 Zu ?_;refine Zm ?_;refine Vd ?_;refine Yk ?_;refine Zq (aT [1,2,3,6,8,10,12,14,161,162] rfl) ?_;obtain ⟨D8,H⟩:=Yh H;refine rG Y2 rfl ?_;refine Xl D8 Zf ?_;refine Ze Za ?_;refine Zm ?_;have H:=Vy H B6;exact Z5n G1 D4.l (a3++([d5])) (f2+1) u4 o2 D7 (d5+1) ⟨H,u3,(Z0u h2 rfl),u5,u6,u7⟩ (Nat.lt_succ_self _) (aF rfl) (Zd Uy (Zd Uy (Zd Uy (Zd Uy (Zd Uy (Zd Uy (Zd Uy (Zd Uy (Zd Uy (Zd Uy (Zd Xn (Zd Xn (Zd Zc (Zd Zc Zg))))))))))))))
           ·refine Xs rfl (Bool.eq_false_iff.2 p5) ?_;refine T.skip ?_;refine Vd ?_;refine Yk ?_;obtain ⟨D9,H⟩:=Yh H;refine rG Y2 rfl ?_;refine Xl D9 Zf ?_;refine Ze Za ?_;refine Zm ?_;have H:=Vy H B6;exact Z5n G1 b7 a3 f2 c148 d3 g5 (d5+1) ⟨H,h1,h2,l5,l6,l7⟩ (Nat.lt_succ_self _) (aF rfl) (Zd Zc (Zd Zc (Zd Zc (Zd Zc (Zd Zc (Zd Zc (Zd Zc (Zd Zc (Zd Zc (Zd Zc (Zd Zc (Zd Zc (Zd Zc (Zd Zc Zg))))))))))))))
         ·refine Wd rfl p3 ?_;refine T.exit ?_;refine Wh ?_;have H:=Wt H B6▸I3;refine Wh ?_;refine Ud ?_;exact Zeo b7 a3 f2 c148 d3 g5 ⟨H,h1,h2,l5,l6,l7⟩ (aF rfl) (Zd Zt (Zd Zt (Zd Zt (Zd Zt (Zd Zt (Zd Zt (Zd Zt (Zd Zt (Zd Zt (Zd Zt (Zd Zt (Zd Zt (Zd Zt Zg)))))))))))))
        ·
         rintro g0 a5 e8 e9 b5 g1 ⟨H,u8,o3,u9,v0,v4⟩;unfold Zap at H;refine Zn ?_;obtain ⟨E0,E1,H⟩:=Zk H;refine rG Y7 rfl ?_;refine Ze Za ?_;refine Zl Za Z4d ?_;refine Zr Za Zs mm8 rfl ?_;refine Zl Za Z4v ?_;refine Zr Za Uh Kn rfl ?_;refine Vq (xs:=a5) o3 Zf Xv ?_;refine Ys Ky Za (Zh Wi (Zh Wi (Gone.refl _))) rfl (fun wc hwc=>Je (b0:=(CellsBank.mk g0)) (i1:=a2.Pending) (v2:=(a5.length:Int)) wc rfl (hwc.self (Zd Wi (Zd Wi Zg)) rfl) u8 e4 e5 E1) ?_;rintro _ _ ⟨rfl,rfl,v5⟩;refine dS ?_;obtain ⟨j4,E2,H⟩:=Zk H;refine rG Y5 rfl ?_;refine Ze Za ?_;refine Zl Za Z96 ?_;refine Zr Za Zs Rp rfl ?_;refine Ze Za ?_;refine Ys Ky Za (Zh Zc (Zh Zc (Gone.refl _))) rfl (fun wc hwc=>Je (b0:=E0) (i1:=a2.Count) (v2:=workers1) wc rfl (hwc.self (Zd Zc (Zd Zc Zg)) rfl) v5 e4 e5 E2) ?_;rintro _ _ ⟨rfl,rfl,v6⟩;refine dN ?_;refine Zq (aT [1,2,6,8,10,14] rfl) ?_;refine Zn ?_;refine sR Y2 rfl ?_;refine Ze Za ?_;refine Ze Za ?_;refine dN ?_;refine Zdj (fun (h3:List Nat) (h4 h5:Nat) (g2:Option Nat) (j5:List Value) (g6:List WorkerWorker)=>Zb2 r5 a2 a5 j4 g6=some (r0,r1)∧h3.length=h4∧h4≤h5∧j5.length=(h5 - h4)*1∧(g2=none→h5=0)∧h3.length=g6.length) (fun (h3:List Nat) (h4 h5:Nat) (g2:Option Nat) (j5:List Value) (g6:List WorkerWorker)=>[(6,pV b3),(14,pV f4)]) (fun (h3:List Nat) (h4 h5:Nat) (g2:Option Nat) (j5:List Value) (g6:List WorkerWorker)=>((some b3,.cells #[iV 0,iV 0,iV 0,.slice none 0 0,.slice none 0 0,.slice none 0 0,.slice none 0 0,.slice none 0 0,.slice none 0 0,iV 0,iV 0,iV 0,iV 0,iV 0,iV 0,iV 0,iV 0,iV 0,iV 0,iV 0,iV 0,iV 0,iV 0,.pointer none,.slice none 0 0,.slice none 0 0] 36 (0,0))::(eC f4 #[iV r5.N,iV r5.S,iV r5.T,sV b8 n9 c10,sV a6 d8 c14,sV a7 d9 c18,sV a4 d6 c22,sV a8 e0 c26,sV a9 e2 c30,iV a2.Verts,iV a2.Arcs,iV a2.Workers,iV a2.Room,iV a2.Res,iV a2.Ex,iV a2.H,iV a2.Flag,iV a2.Pending,iV a2.Ask,iV a2.Count,iV a2.Sense,iV a2.Deques,iV a2.Size,pV b72,sV g2 h4 h5,sV b5 e8 e9] 36)::(eI b8 r5.First i5 3)::(eI a6 r5.Head i6 3)::(eI a7 r5.Rev i7 3)::(eI a4 r5.Cap i8 2)::(eI a8 r5.Arc i9 3)::(eA a9 boolC r5.Back j0 4)::(eC b72 #[sV b6 g3 c75] 95)::(eI b6 j4.l j3 100)::(eA g2 Xd h3 j5 40)::(eI b5 a5 g1 3)::Yz (Zj ((sb b8),n9,c10) ((sb a6),d8,c14) ((sb a7),d9,c18) ((sb a4),d6,c22) ((sb a8),e0,c26) ((sb a9),e2,c30)) 65 h3 g6)) ?_ ?_
         ·
          refine T.block ?_;refine Z0y (H:=((some b72,.cells #[sV b6 g3 c75] 95 (0,0))::(eI b6 j4.l j3 100)::(eC b3 #[iV 0,iV 0,iV 0,.slice none 0 0,.slice none 0 0,.slice none 0 0,.slice none 0 0,.slice none 0 0,.slice none 0 0,iV 0,iV 0,iV 0,iV 0,iV 0,iV 0,iV 0,iV 0,iV 0,iV 0,iV 0,iV 0,iV 0,iV 0,.pointer none,.slice none 0 0,.slice none 0 0] 36)::(eC f6 #[iV r5.N,iV r5.S,iV r5.T,sV b8 n9 c10,sV a6 d8 c14,sV a7 d9 c18,sV a4 d6 c22,sV a8 e0 c26,sV a9 e2 c30] 30)::(eI b8 r5.First i5 3)::(eI a6 r5.Head i6 3)::(eI a7 r5.Rev i7 3)::(eI a4 r5.Cap i8 2)::(eI a8 r5.Arc i9 3)::(eA a9 boolC r5.Back j0 4)::(eC f7 #[iV a2.Verts,iV a2.Arcs,iV a2.Workers,iV a2.Room,iV a2.Res,iV a2.Ex,iV a2.H,iV a2.Flag,iV a2.Pending,iV a2.Ask,iV a2.Count,iV a2.Sense,iV a2.Deques,iV a2.Size] 32)::(eC f4 #[iV r5.N,iV r5.S,iV r5.T,sV b8 n9 c10,sV a6 d8 c14,sV a7 d9 c18,sV a4 d6 c22,sV a8 e0 c26,sV a9 e2 c30,iV a2.Verts,iV a2.Arcs,iV a2.Workers,iV a2.Room,iV a2.Res,iV a2.Ex,iV a2.H,iV a2.Flag,iV a2.Pending,iV a2.Ask,iV a2.Count,iV a2.Sense,iV a2.Deques,iV a2.Size,pV b72,.slice none 0 0,sV b5 e8 e9] 36)::(eI b5 a5 g1 3)::Yz (Zj ((sb b8),n9,c10) ((sb a6),d8,c14) ((sb a7),d9,c18) ((sb a4),d6,c22) ((sb a8),e0,c26) ((sb a9),e2,c30)) 65 ([]:List Nat) ([]:List WorkerWorker))) rfl ?_;obtain ⟨E3,E4,E5⟩:=Zk H;refine Zci (fun (j6:Nat) (e3:List Nat) (f3 g8:Nat) (f1:Option Nat) (h6:List Value) (g9:Int) (d4:List WorkerWorker)=>Xz (fun s=>Z3f workers1 limit2 r5 a2 s.1 s.2) j6 (g9,d4)=some E3∧e3.length=f3∧f3≤g8∧h6.length=(g8 - f3)*1∧(f1=none→g8=0)∧e3.length=d4.length) (fun (j6:Nat) (e3:List Nat) (f3 g8:Nat) (f1:Option Nat) (h6:List Value) (g9:Int) (d4:List WorkerWorker)=>[(2,iV limit2),(6,pV b3),(8,pV f6),(10,pV f7),(14,pV f4),(233,iV workers1),(234,iV g9)]) (fun (j6:Nat) (e3:List Nat) (f3 g8:Nat) (f1:Option Nat) (h6:List Value) (g9:Int) (d4:List WorkerWorker)=>((some b3,.cells #[iV 0,iV 0,iV 0,.slice none 0 0,.slice none 0 0,.slice none 0 0,.slice none 0 0,.slice none 0 0,.slice none 0 0,iV 0,iV 0,iV 0,iV 0,iV 0,iV 0,iV 0,iV 0,iV 0,iV 0,iV 0,iV 0,iV 0,iV 0,.pointer none,.slice none 0 0,.slice none 0 0] 36 (0,0))::(eC f6 #[iV r5.N,iV r5.S,iV r5.T,sV b8 n9 c10,sV a6 d8 c14,sV a7 d9 c18,sV a4 d6 c22,sV a8 e0 c26,sV a9 e2 c30] 30)::(eI b8 r5.First i5 3)::(eI a6 r5.Head i6 3)::(eI a7 r5.Rev i7 3)::(eI a4 r5.Cap i8 2)::(eI a8 r5.Arc i9 3)::(eA a9 boolC r5.Back j0 4)::(eC f7 #[iV a2.Verts,iV a2.Arcs,iV a2.Workers,iV a2.Room,iV a2.Res,iV a2.Ex,iV a2.H,iV a2.Flag,iV a2.Pending,iV a2.Ask,iV a2.Count,iV a2.Sense,iV a2.Deques,iV a2.Size] 32)::(eC f4 #[iV r5.N,iV r5.S,iV r5.T,sV b8 n9 c10,sV a6 d8 c14,sV a7 d9 c18,sV a4 d6 c22,sV a8 e0 c26,sV a9 e2 c30,iV a2.Verts,iV a2.Arcs,iV a2.Workers,iV a2.Room,iV a2.Res,iV a2.Ex,iV a2.H,iV a2.Flag,iV a2.Pending,iV a2.Ask,iV a2.Count,iV a2.Sense,iV a2.Deques,iV a2.Size,pV b72,sV f1 f3 g8,sV b5 e8 e9] 36)::(eC b72 #[sV b6 g3 c75] 95)::(eI b6 j4.l j3 100)::(eA f1 Xd e3 h6 40)::(eI b5 a5 g1 3)::Yz (Zj ((sb b8),n9,c10) ((sb a6),d8,c14) ((sb a7),d9,c18) ((sb a4),d6,c22) ((sb a8),e0,c26) ((sb a9),e2,c30)) 65 e3 d4)) (fun (j6:Nat) (e3:List Nat) (f3 g8:Nat) (f1:Option Nat) (h6:List Value) (g9:Int) (d4:List WorkerWorker)=>j6) Xo ([]) 0 0 none ([]) 0 ([]:List WorkerWorker) ⟨E4,rfl,(Nat.le_refl _),(Vm 0 _),(fun _=>rfl),rfl⟩ (aF rfl) (Zd Zz (Zd Zz (Zd Zz (Zd Zz (Zd Zz (Zd Zz (Zd Zz (Zd Zz (Zd Zz (Zd Zz (Zd Zc (Zd Zc (Pick.none (Zd Zc (Yb _))))))))))))))) ?_;rintro j6 e3 f3 g8 f1 h6 g9 d4 ⟨H,l9,o4,o6,o7,i4⟩;obtain ⟨h7,E6,rfl,H,v7⟩:=Uw H;have H:Z3f workers1 limit2 r5 a2 g9 d4=some E6:=H;unfold Z3f at H;refine sR Y1 rfl ?_;refine Ye Zx ?_;refine dS ?_;rcases Zv H with ⟨p6,H⟩ | ⟨p6,H⟩
          ·
           refine Wg rfl p6 ?_;refine T.skip ?_;refine Yk ?_;refine Zn ?_;refine T.block ?_;refine sR Y2 rfl ?_;refine Ze Za ?_;refine aN Za ?_;refine Zn ?_;obtain ⟨⟨f5,I5⟩,E7,H⟩:=Zk H;refine rG Y10 rfl ?_;refine Wf Za Z33 Yu rfl ?_;refine Wf Za Wq mm8 rfl ?_;refine Ze Za ?_;refine Ze Za ?_;refine Yd Zpo Za (fun wc hwc=>Zlo (c0:=r5) (l1:=a2) (id2:=g9) (limit3:=limit2) wc (Kg hwc Kh k9 n6 n7) E7) ?_;rintro _ _ ⟨h0,rfl,rfl⟩;refine Ze Za ?_;refine TO.extract Zf ?_;refine TO.extract Zf ?_;refine Ww Za ?_;refine aN Za ?_;refine Zq (aT [2,6,8,10,14,233,234,23,24] rfl) ?_;refine Zn ?_;refine sR Y2 rfl ?_;refine Ze Za ?_;refine Ye Zx ?_;refine dN ?_;rcases Zv H with ⟨v8,H⟩ | ⟨v8,H⟩
           ·cases H
           ·refine Wd rfl v8 ?_;refine T.skip ?_;refine Yk ?_;obtain ⟨E8,H⟩:=Yh H;refine rG Y7 rfl ?_;refine Zl Za Gt ?_;refine Zr Za Nb Rp rfl ?_;refine Ze Za ?_;refine Ju [.pointer none] [0] Za Jv Ns Ze9 Yt (by simp only [Yq,setCells,Value.cells,List.toList_toArray,List.getD_cons_zero,List.getD_cons_succ,List.set_cons_zero,List.set_cons_succ];rfl) (by kernel_rfl) ?_;intro v9;refine Z06 (f:=Xd) (s:=1) (xs:=e3) (ob:=f1) (j:=h6) (ys:=[h0]) (fun _=>rfl) (fun _=>rfl) Zj0 (apokP i4 E8) Zf tk14 l9 o4 o6 o7 (fun wc hwc=>(hwc.rs (f:=Xd) (s:=1) (xs:=[h0]) (j:=([])) (fun _=>rfl) Zi rfl (Nat.le_refl _) Vx)) ?_;intro g7 o0 p7 w2 w3 w4;refine Zl Za Gt ?_;refine Yl (cs':=[iV r5.N,iV r5.S,iV r5.T,sV b8 n9 c10,sV a6 d8 c14,sV a7 d9 c18,sV a4 d6 c22,sV a8 e0 c26,sV a9 e2 c30,iV a2.Verts,iV a2.Arcs,iV a2.Workers,iV a2.Room,iV a2.Res,iV a2.Ex,iV a2.H,iV a2.Flag,iV a2.Pending,iV a2.Ask,iV a2.Count,iV a2.Sense,iV a2.Deques,iV a2.Size,pV b72,sV g7 (f3+1) o0,sV b5 e8 e9]) Za tk12 Zk0 Zu ?_;refine Zm ?_;refine X.addP (f:=(Zj ((sb b8),n9,c10) ((sb a6),d8,c14) ((sb a7),d9,c18) ((sb a4),d6,c22) ((sb a8),e0,c26) ((sb a9),e2,c30))) (T':=65) (bs:=e3) (ws:=d4) (b:=h0) (y:=({ f5 with c:=({ r5 with N:=f5.c.N,S:=f5.c.S,T:=f5.c.T }:Csr) }:WorkerWorker)) (Es:=[(eC f4 #[iV r5.N,iV r5.S,iV r5.T,sV b8 n9 c10,sV a6 d8 c14,sV a7 d9 c18,sV a4 d6 c22,sV a8 e0 c26,sV a9 e2 c30,iV a2.Verts,iV a2.Arcs,iV a2.Workers,iV a2.Room,iV a2.Res,iV a2.Ex,iV a2.H,iV a2.Flag,iV a2.Pending,iV a2.Ask,iV a2.Count,iV a2.Sense,iV a2.Deques,iV a2.Size,pV b72,sV g7 (f3+1) o0,sV b5 e8 e9] 36),(eA g7 Xd (e3++[h0]) p7 40),(eA (some v9) Xd ([h0]) ([]) 40),(eC b3 #[iV 0,iV 0,iV 0,.slice none 0 0,.slice none 0 0,.slice none 0 0,.slice none 0 0,.slice none 0 0,.slice none 0 0,iV 0,iV 0,iV 0,iV 0,iV 0,iV 0,iV 0,iV 0,iV 0,iV 0,iV 0,iV 0,iV 0,iV 0,.pointer none,.slice none 0 0,.slice none 0 0] 36),(eC f6 #[iV r5.N,iV r5.S,iV r5.T,sV b8 n9 c10,sV a6 d8 c14,sV a7 d9 c18,sV a4 d6 c22,sV a8 e0 c26,sV a9 e2 c30] 30),(eI b8 r5.First i5 3),(eI a6 r5.Head i6 3),(eI a7 r5.Rev i7 3),(eI a4 r5.Cap i8 2),(eI a8 r5.Arc i9 3),(eA a9 boolC r5.Back j0 4),(eC f7 #[iV a2.Verts,iV a2.Arcs,iV a2.Workers,iV a2.Room,iV a2.Res,iV a2.Ex,iV a2.H,iV a2.Flag,iV a2.Pending,iV a2.Ask,iV a2.Count,iV a2.Sense,iV a2.Deques,iV a2.Size] 32),(eC b72 #[sV b6 g3 c75] 95),(eI b6 j4.l j3 100),(eI b5 a5 g1 3)]) i4 (Zd Xn (Zd Zc (Zd Zc (Zd Zc (Zd Zc (Zd Zc (Zd Zc (Zd Zc (Zd Zc (Zd Zc (Zd Zc (Zd Zc (Zd Zc (Zd Zc (Zd Zc (Zd Zc (Yb _))))))))))))))))) ?_;refine Lp (H:=((some f4,.cells #[iV r5.N,iV r5.S,iV r5.T,sV b8 n9 c10,sV a6 d8 c14,sV a7 d9 c18,sV a4 d6 c22,sV a8 e0 c26,sV a9 e2 c30,iV a2.Verts,iV a2.Arcs,iV a2.Workers,iV a2.Room,iV a2.Res,iV a2.Ex,iV a2.H,iV a2.Flag,iV a2.Pending,iV a2.Ask,iV a2.Count,iV a2.Sense,iV a2.Deques,iV a2.Size,pV b72,sV g7 (f3+1) o0,sV b5 e8 e9] 36 (0,0))::(eA g7 Xd (e3++[h0]) p7 40)::(eA (some v9) Xd ([h0]) ([]) 40)::(eC b3 #[iV 0,iV 0,iV 0,.slice none 0 0,.slice none 0 0,.slice none 0 0,.slice none 0 0,.slice none 0 0,.slice none 0 0,iV 0,iV 0,iV 0,iV 0,iV 0,iV 0,iV 0,iV 0,iV 0,iV 0,iV 0,iV 0,iV 0,iV 0,.pointer none,.slice none 0 0,.slice none 0 0] 36)::(eC f6 #[iV r5.N,iV r5.S,iV r5.T,sV b8 n9 c10,sV a6 d8 c14,sV a7 d9 c18,sV a4 d6 c22,sV a8 e0 c26,sV a9 e2 c30] 30)::(eI b8 r5.First i5 3)::(eI a6 r5.Head i6 3)::(eI a7 r5.Rev i7 3)::(eI a4 r5.Cap i8 2)::(eI a8 r5.Arc i9 3)::(eA a9 boolC r5.Back j0 4)::(eC f7 #[iV a2.Verts,iV a2.Arcs,iV a2.Workers,iV a2.Room,iV a2.Res,iV a2.Ex,iV a2.H,iV a2.Flag,iV a2.Pending,iV a2.Ask,iV a2.Count,iV a2.Sense,iV a2.Deques,iV a2.Size] 32)::(eC b72 #[sV b6 g3 c75] 95)::(eI b6 j4.l j3 100)::(eI b5 a5 g1 3)::Yz (Zj ((sb b8),n9,c10) ((sb a6),d8,c14) ((sb a7),d9,c18) ((sb a4),d6,c22) ((sb a8),e0,c26) ((sb a9),e2,c30)) 65 (e3++[h0]) (d4++[({ f5 with c:=({ r5 with N:=f5.c.N,S:=f5.c.S,T:=f5.c.T }:Csr) }:WorkerWorker)]))) rfl ?_;refine Vd ?_;refine Yk ?_;refine Zq (aT [2,6,8,10,14,233,234] rfl) ?_;obtain ⟨E9,H⟩:=Yh H;refine rG Y2 rfl ?_;refine Xl E9 Zf ?_;refine Ze Za ?_;refine Zm ?_;have H:=Vy H v7;exact Z5n h7 (e3++[h0]) (f3+1) o0 g7 p7 (g9+1) (d4++[({ f5 with c:=({ r5 with N:=f5.c.N,S:=f5.c.S,T:=f5.c.T }:Csr) }:WorkerWorker)]) ⟨H,(Z0u l9 rfl),w2,w3,w4,(lenSnoc i4)⟩ (Nat.lt_succ_self _) (aF rfl) (Zd Xn (Zd Xn (Zd Xn (Zd Xn (Zd Xn (Zd Xn (Zd Xn (Zd Xn (Zd Xn (Zd Zc (Zd Zz (Zd Zz (Zd Zc (Zd Zt (Pick.skip (Yb _))))))))))))))))
          ·refine Wd rfl p6 ?_;refine T.exit ?_;refine Wh ?_;have H:=Wt H v7▸E5;refine Wh ?_;refine Ud ?_;exact Zeo e3 f3 g8 f1 h6 d4 ⟨H,l9,o4,o6,o7,i4⟩ (aF rfl) (Zd Zc (Zd tk8 (Zd Zt (Zd Zt (Zd Zt (Zd Zt (Zd Zt (Zd Zt (Zd Zz (Zd Zz (Zd Zz (Zd Zz (Pick.skip (Pick.skip (Yb _)))))))))))))))
         ·rintro h3 h4 h5 g2 j5 g6 ⟨H,w5,w6,w7,w8,w9⟩;unfold Zb2 at H;refine sR Y3 rfl ?_;refine Wf Za Z26 Yu rfl ?_;refine Wb Za Zc Z2c Zu ?_;refine aN Za ?_;refine T.ret ?_;obtain ⟨rfl,rfl⟩:=ret2 H;exact Kq Za (Um rfl Z26 Zi rfl) (Res.tmp rfl) (Zd Zz (Zd Zz (Zd Zz (Zd Zz (Zd Zz (Zd Zz (Zd Zz (Zd Zz (Zd Zz (Zd Zz (Pick.skip (Pick.skip (Yb _))))))))))))) ⟨b8,n9,c10,i5,a6,d8,c14,i6,a7,d9,c18,i7,a4,d6,c22,i8,a8,e0,c26,i9,a9,e2,c30,j0,b72,b6,g3,c75,j3,g2,h4,h5,j5,h3,b5,e8,e9,g1,rfl,rfl,j1,k7,x1,k8,k9,n6,x2,n7,o8,o9,x3,p1,j2,l3,x4,l4,x5,x6,x7,x8,x9,y0,y1,y2,v6,e4,y5,e5,w5,w6,w7,w8,w9,o3,u9,v0,v4⟩
theorem Zhz {n0:Net}{workers1 limit2:Int}{d1:Option Addr}{c3 d3:Nat}(w:World)(h0:RS w [] Xj 3 d1 c3 d3 n0.Arcs){r0:Net}{r1:Acequialaw16Phase}{r2:Bool}(H:Z76 n0 workers1 limit2=some (r0,r1,r2)):Fnc Tryz.prog 4 #[.agg #[iV n0.N,iV n0.S,iV n0.T,.slice d1 c3 d3],.int .u8 workers1,.int .u8 limit2] w [] (fun v N=>∃ (g6:Option Nat) (k4 k5:Nat) (p7:List Value) (f8:Option Nat) (h2 h3:Nat) (p8:List Value) (f9:Option Nat) (h4 h5:Nat) (p9:List Value) (d4:Option Nat) (e0 e2:Nat) (h6:List Value) (d5:Option Nat) (e3 e4:Nat) (h7:List Value) (d6:Option Nat) (e5 e6:Nat) (h8:List Value) (d7:Option Nat) (e7 e9:Nat) (h9:List Value) (i0:Nat) (f1:Option Nat) (g0 g1:Nat) (i2:List Value) (f2:Option Nat) (g2 g3:Nat) (i4:List Value) (d8:List Nat) (f3:Option Nat) (g4 g5:Nat) (i5:List Value),v=.tuple #[.agg #[iV r0.N,iV r0.S,iV r0.T,sV g6 k4 k5],.agg #[iV r1.C.N,iV r1.C.S,iV r1.C.T,sV f8 h2 h3,sV f9 h4 h5,sV d4 e0 e2,sV d5 e3 e4,sV d6 e5 e6,sV d7 e7 e9,iV r1.L.Verts,iV r1.L.Arcs,iV r1.L.Workers,iV r1.L.Room,iV r1.L.Res,iV r1.L.Ex,iV r1.L.H,iV r1.L.Flag,iV r1.L.Pending,iV r1.L.Ask,iV r1.L.Count,iV r1.L.Sense,iV r1.L.Deques,iV r1.L.Size,pV i0,sV f2 g2 g3,sV f3 g4 g5],.bool r2]∧N=((eA g6 Xj r0.Arcs p7 72)::(eI f8 r1.C.First p8 3)::(eI f9 r1.C.Head p9 3)::(eI d4 r1.C.Rev h6 3)::(eI d5 r1.C.Cap h7 2)::(eI d6 r1.C.Arc h8 3)::(eA d7 boolC r1.C.Back h9 4)::(eC i0 #[sV f1 g0 g1] 95)::(eI f1 r1.B.l i2 100)::(eA f2 Xd d8 i4 40)::(eI f3 r1.Dealt i5 3)::Yz (Zj ((sb f8),h2,h3) ((sb f9),h4,h5) ((sb d4),e0,e2) ((sb d5),e3,e4) ((sb d6),e5,e6) ((sb d7),e7,e9)) 65 d8 r1.W)∧r0.Arcs.length=k4∧k4≤k5∧p7.length=(k5-k4)*3∧(g6=none→k5=0)∧r1.C.First.length=h2∧h2≤h3∧p8.length=(h3-h2)*1∧(f8=none→h3=0)∧r1.C.Head.length=h4∧h4≤h5∧p9.length=(h5-h4)*1∧(f9=none→h5=0)∧r1.C.Rev.length=e0∧e0≤e2∧h6.length=(e2-e0)*1∧(d4=none→e2=0)∧r1.C.Cap.length=e3∧e3≤e4∧h7.length=(e4-e3)*1∧(d5=none→e4=0)∧r1.C.Arc.length=e5∧e5≤e6∧h8.length=(e6-e5)*1∧(d6=none→e6=0)∧r1.C.Back.length=e7∧e7≤e9∧h9.length=(e9-e7)*1∧(d7=none→e9=0)∧r1.B.l.length=g0∧g0≤g1∧i2.length=(g1-g0)*1∧(f1=none→g1=0)∧d8.length=g2∧g2≤g3∧i4.length=(g3-g2)*1∧(f2=none→g3=0)∧d8.length=r1.W.length∧r1.Dealt.length=g4∧g4≤g5∧i5.length=(g5-g4)*1∧(f3=none→g5=0)):=by
 unfold Z76 at H;refine Zy (vs:=[.agg #[iV n0.N,iV n0.S,iV n0.T,.slice d1 c3 d3],.int .u8 workers1,.int .u8 limit2]) Tryz.func4 rfl rfl (Inv.refl w) ?_;refine sR Y4 rfl ?_;refine Wy Za ?_;intro b1;refine Wk Zu Zd8 ?_;intro b3;refine Wk Zu Z1t ?_;intro b5;refine aN Za ?_;refine Zn ?_;obtain ⟨r7,e8,H⟩:=Zk H;refine rG Y3 rfl ?_;refine Wf Za Ua Wr rfl ?_;refine Yd Zk5 Za (fun wc hwc=>Zi6 (n0:=n0) (verts1:=7) (arcs2:=14) wc (h0.mono hwc) e8) ?_;rintro _ _ ⟨b9,d9,c11,h1,rfl,rfl,i6,i7,k6,i8⟩;refine Wb Za Xn Z4h Zu ?_;refine dN ?_;refine Zn ?_;obtain ⟨q0,q6,q1,q7,H⟩:=gd4 H;obtain ⟨⟨a2,q9⟩,q8,H⟩:=Zk H;refine rG Y16 rfl ?_;refine Wf Za Ua Zi rfl ?_;refine Ze Za ?_;refine TO.rem Zf (by decide) ?_;refine Zg7 Za Zc6 Zc0 (Nf q0.1 q0.2) ?_;refine Xl q6 Zf ?_;refine Ze Za ?_;refine TO.rem Zf (by decide) ?_;refine Zg7 Za Zc6 Zc0 (Nf q1.1 q1.2) ?_;refine Xl q7 Zf ?_;refine Yd Zf6 Za (fun wc hwc=>Zet (n0:=r7) (workers1:=(1+(workers1.tmod 5))) (limit2:=(1+(limit2.tmod 40))) wc (hwc.rs (f:=Xj) (s:=3) (xs:=r7.Arcs) (j:=h1) (fun _=>rfl) Yu i6 i7 i8) q8) ?_;rintro _ _ ⟨a3,n26,c27,i9,a4,n30,c31,j0,a5,n34,c35,j1,a6,f4,c39,j2,a7,f5,c43,j3,a8,f6,c47,j4,f7,b7,j5,c52,j6,a9,g7,g8,j7,b8,b6,g9,c61,j8,rfl,rfl,k7,k8,k9,l3,l4,l5,l6,l7,l8,l9,m0,m1,m2,m3,m4,m5,m6,m7,m8,m9,n6,n7,n8,n9,o0,o1,o2,o3,o4,o6,o7,o8,o9,p1,p2,p3,p4⟩;refine Z50 (Hs:=[(eI a3 a2.C.First i9 3),(eI a4 a2.C.Head j0 3),(eI a5 a2.C.Rev j1 3),(eI a6 a2.C.Cap j2 2),(eI a7 a2.C.Arc j3 3),(eA a8 boolC a2.C.Back j4 4),(eC f7 #[sV b7 j5 c52] 95),(eI b7 a2.B.l j6 100),(eA a9 Xd b8 j7 40),(eI b6 a2.Dealt j8 3)]) (HE:=[(eC b1 #[iV r7.N,iV r7.S,iV r7.T,sV b9 d9 c11] 24),(eA b9 Xj r7.Arcs h1 72),(eC b5 #[iV 0,iV 0,iV 0,.slice none 0 0,.slice none 0 0,.slice none 0 0,.slice none 0 0,.slice none 0 0,.slice none 0 0,iV 0,iV 0,iV 0,iV 0,iV 0,iV 0,iV 0,iV 0,iV 0,iV 0,iV 0,iV 0,iV 0,iV 0,.pointer none,.slice none 0 0,.slice none 0 0] 36),(eC b3 #[iV 0,iV 0,iV 0,.slice none 0 0] 24)]) (Tl:=Yz (Zj ((sb a3),n26,c27) ((sb a4),n30,c31) ((sb a5),n34,c35) ((sb a6),f4,c39) ((sb a7),f5,c43) ((sb a8),f6,c47)) 65 b8 a2.W) ?_;refine Ux (H:=((eI a3 a2.C.First i9 3)::(eI a4 a2.C.Head j0 3)::(eI a5 a2.C.Rev j1 3)::(eI a6 a2.C.Cap j2 2)::(eI a7 a2.C.Arc j3 3)::(eA a8 boolC a2.C.Back j4 4)::(eC f7 #[sV b7 j5 c52] 95)::(eI b7 a2.B.l j6 100)::(eA a9 Xd b8 j7 40)::(eI b6 a2.Dealt j8 3)::(eC b1 #[iV r7.N,iV r7.S,iV r7.T,sV b9 d9 c11] 24)::(eA b9 Xj r7.Arcs h1 72)::(eC b5 #[iV 0,iV 0,iV 0,.slice none 0 0,.slice none 0 0,.slice none 0 0,.slice none 0 0,.slice none 0 0,.slice none 0 0,iV 0,iV 0,iV 0,iV 0,iV 0,iV 0,iV 0,iV 0,iV 0,iV 0,iV 0,iV 0,iV 0,iV 0,.pointer none,.slice none 0 0,.slice none 0 0] 36)::(eC b3 #[iV 0,iV 0,iV 0,.slice none 0 0] 24)::Yz (Zj ((sb a3),n26,c27) ((sb a4),n30,c31) ((sb a5),n34,c35) ((sb a6),f4,c39) ((sb a7),f5,c43) ((sb a8),f6,c47)) 65 b8 a2.W)) rfl ?_;refine Ze Za ?_;refine TO.extract Zf ?_;refine TO.extract Zf ?_;refine Wk Zu Z1t ?_;intro j9;refine Wb Za Zc Z2c Zu ?_;refine aN Za ?_;refine Zq (aT [3,6,7,9,10] rfl) ?_;refine Zn ?_;apply T.drawLT [rV [] _,rV [] _,rV [] _,⟨[0],true,[],Gf⟩,⟨[1],true,[],Gf⟩] [26,27,28] 5 (HRk [[(eC b3 #[iV 0,iV 0,iV 0,.slice none 0 0] 24),(eC b5 #[iV 0,iV 0,iV 0,.slice none 0 0,.slice none 0 0,.slice none 0 0,.slice none 0 0,.slice none 0 0,.slice none 0 0,iV 0,iV 0,iV 0,iV 0,iV 0,iV 0,iV 0,iV 0,iV 0,iV 0,iV 0,iV 0,iV 0,iV 0,.pointer none,.slice none 0 0,.slice none 0 0] 36)],[(eC b3 #[iV r7.N,iV r7.S,iV r7.T,sV b9 d9 c11] 24),(eC b5 #[iV 0,iV 0,iV 0,.slice none 0 0,.slice none 0 0,.slice none 0 0,.slice none 0 0,.slice none 0 0,.slice none 0 0,iV 0,iV 0,iV 0,iV 0,iV 0,iV 0,iV 0,iV 0,iV 0,iV 0,iV 0,iV 0,iV 0,iV 0,.pointer none,.slice none 0 0,.slice none 0 0] 36)],[(eC b3 #[iV r7.N,iV r7.S,iV r7.T,sV b9 d9 c11] 24),(eC b5 #[iV a2.C.N,iV a2.C.S,iV a2.C.T,sV a3 n26 c27,sV a4 n30 c31,sV a5 n34 c35,sV a6 f4 c39,sV a7 f5 c43,sV a8 f6 c47,iV a2.L.Verts,iV a2.L.Arcs,iV a2.L.Workers,iV a2.L.Room,iV a2.L.Res,iV a2.L.Ex,iV a2.L.H,iV a2.L.Flag,iV a2.L.Pending,iV a2.L.Ask,iV a2.L.Count,iV a2.L.Sense,iV a2.L.Deques,iV a2.L.Size,pV f7,sV a9 g7 g8,sV b6 g9 c61] 36)]]) [[],[],[]] [(eC b3 #[iV 0,iV 0,iV 0,.slice none 0 0] 24),(eC b5 #[iV 0,iV 0,iV 0,.slice none 0 0,.slice none 0 0,.slice none 0 0,.slice none 0 0,.slice none 0 0,.slice none 0 0,iV 0,iV 0,iV 0,iV 0,iV 0,iV 0,iV 0,iV 0,iV 0,iV 0,iV 0,iV 0,iV 0,iV 0,.pointer none,.slice none 0 0,.slice none 0 0] 36)] [(eC j9 #[iV a2.C.N,iV a2.C.S,iV a2.C.T,sV a3 n26 c27,sV a4 n30 c31,sV a5 n34 c35,sV a6 f4 c39,sV a7 f5 c43,sV a8 f6 c47,iV a2.L.Verts,iV a2.L.Arcs,iV a2.L.Workers,iV a2.L.Room,iV a2.L.Res,iV a2.L.Ex,iV a2.L.H,iV a2.L.Flag,iV a2.L.Pending,iV a2.L.Ask,iV a2.L.Count,iV a2.L.Sense,iV a2.L.Deques,iV a2.L.Size,pV f7,sV a9 g7 g8,sV b6 g9 c61] 36),(eI a3 a2.C.First i9 3),(eI a4 a2.C.Head j0 3),(eI a5 a2.C.Rev j1 3),(eI a6 a2.C.Cap j2 2),(eI a7 a2.C.Arc j3 3),(eA a8 boolC a2.C.Back j4 4),(eC f7 #[sV b7 j5 c52] 95),(eI b7 a2.B.l j6 100),(eA a9 Xd b8 j7 40),(eI b6 a2.Dealt j8 3),(eC b1 #[iV r7.N,iV r7.S,iV r7.T,sV b9 d9 c11] 24),(eA b9 Xj r7.Arcs h1 72)] (Yz (Zj ((sb a3),n26,c27) ((sb a4),n30,c31) ((sb a5),n34,c35) ((sb a6),f4,c39) ((sb a7),f5,c43) ((sb a8),f6,c47)) 65 b8 a2.W)
 ·exact Xh
 ·exact rfl
 ·kernel_rfl
 ·kernel_rfl
 ·kernel_rfl
 ·exact rfl
 ·exact rfl
 ·exact rfl
 ·exact rfl
 ·exact Vj (by repeat constructor)
 ·
  refine ⟨?_,?_,?_,?_,?_,trivial⟩
  ·rintro vs es Es Hx -;refine Yf (D:=[]) rfl ?_;refine Wf Za Ua Kn rfl ?_;refine Zm ?_;exact Yj rfl ⟨rfl,rfl⟩ (Yb _) rfl
  ·rintro vs es Es Hx -;refine Yf (D:=[]) rfl ?_;refine Wf Za Z26 Zi rfl ?_;refine Zm ?_;exact Yj rfl ⟨rfl,rfl⟩ (Yb _) rfl
  ·rintro vs es Es Hx -;refine Yf (D:=[]) rfl ?_;refine Ze Za ?_;refine Zm ?_;exact Yj rfl ⟨rfl,rfl⟩ (Yb _) rfl
  ·rintro vs es Es Hx hb ⟨⟨k2,p5⟩,-⟩ hHR;obtain rfl:hb=[(eC b3 #[iV 0,iV 0,iV 0,.slice none 0 0] 24),(eC b5 #[iV 0,iV 0,iV 0,.slice none 0 0,.slice none 0 0,.slice none 0 0,.slice none 0 0,.slice none 0 0,.slice none 0 0,iV 0,iV 0,iV 0,iV 0,iV 0,iV 0,iV 0,iV 0,iV 0,iV 0,iV 0,iV 0,iV 0,iV 0,.pointer none,.slice none 0 0,.slice none 0 0] 36)]:=hHR;refine Yf (D:=[(26,vs 0)]) rfl ?_;rw [k2];refine Wb Za Zc Z4h Zu ?_;refine Zm ?_;exact Gh (hb':=[(eC b3 #[iV r7.N,iV r7.S,iV r7.T,sV b9 d9 c11] 24),(eC b5 #[iV 0,iV 0,iV 0,.slice none 0 0,.slice none 0 0,.slice none 0 0,.slice none 0 0,.slice none 0 0,.slice none 0 0,iV 0,iV 0,iV 0,iV 0,iV 0,iV 0,iV 0,iV 0,iV 0,iV 0,iV 0,iV 0,iV 0,iV 0,.pointer none,.slice none 0 0,.slice none 0 0] 36)]) rfl rfl rfl (Vj (by repeat constructor)) (by show [(26,vs 0)]=_;rw [k2])
  ·rintro vs es Es Hx hb ⟨⟨k3,p6⟩,-⟩ hHR;obtain rfl:hb=[(eC b3 #[iV r7.N,iV r7.S,iV r7.T,sV b9 d9 c11] 24),(eC b5 #[iV 0,iV 0,iV 0,.slice none 0 0,.slice none 0 0,.slice none 0 0,.slice none 0 0,.slice none 0 0,.slice none 0 0,iV 0,iV 0,iV 0,iV 0,iV 0,iV 0,iV 0,iV 0,iV 0,iV 0,iV 0,iV 0,iV 0,iV 0,.pointer none,.slice none 0 0,.slice none 0 0] 36)]:=hHR;refine Yf (D:=[(27,vs 1)]) rfl ?_;rw [k3];refine Wb Za Zt Z2c Zu ?_;refine Zm ?_;exact Gh (hb':=[(eC b3 #[iV r7.N,iV r7.S,iV r7.T,sV b9 d9 c11] 24),(eC b5 #[iV a2.C.N,iV a2.C.S,iV a2.C.T,sV a3 n26 c27,sV a4 n30 c31,sV a5 n34 c35,sV a6 f4 c39,sV a7 f5 c43,sV a8 f6 c47,iV a2.L.Verts,iV a2.L.Arcs,iV a2.L.Workers,iV a2.L.Room,iV a2.L.Res,iV a2.L.Ex,iV a2.L.H,iV a2.L.Flag,iV a2.L.Pending,iV a2.L.Ask,iV a2.L.Count,iV a2.L.Sense,iV a2.L.Deques,iV a2.L.Size,pV f7,sV a9 g7 g8,sV b6 g9 c61] 36)]) rfl rfl rfl (Vj (by repeat constructor)) (by show [(27,vs 1)]=_;rw [k3])
 ·rintro vs es hb ⟨⟨k2,p5⟩,⟨k3,p6⟩,⟨q2,q3⟩,q4,q5,-⟩ hHR;obtain rfl:hb=[(eC b3 #[iV r7.N,iV r7.S,iV r7.T,sV b9 d9 c11] 24),(eC b5 #[iV a2.C.N,iV a2.C.S,iV a2.C.T,sV a3 n26 c27,sV a4 n30 c31,sV a5 n34 c35,sV a6 f4 c39,sV a7 f5 c43,sV a8 f6 c47,iV a2.L.Verts,iV a2.L.Arcs,iV a2.L.Workers,iV a2.L.Room,iV a2.L.Res,iV a2.L.Ex,iV a2.L.H,iV a2.L.Flag,iV a2.L.Pending,iV a2.L.Ask,iV a2.L.Count,iV a2.L.Sense,iV a2.L.Deques,iV a2.L.Size,pV f7,sV a9 g7 g8,sV b6 g9 c61] 36)]:=hHR;refine Yf (D:=[(26,vs 0),(27,vs 1),(28,vs 2)]) rfl ?_;refine Ux (H:=[(eC b3 #[iV r7.N,iV r7.S,iV r7.T,sV b9 d9 c11] 24),(eC b5 #[iV a2.C.N,iV a2.C.S,iV a2.C.T,sV a3 n26 c27,sV a4 n30 c31,sV a5 n34 c35,sV a6 f4 c39,sV a7 f5 c43,sV a8 f6 c47,iV a2.L.Verts,iV a2.L.Arcs,iV a2.L.Workers,iV a2.L.Room,iV a2.L.Res,iV a2.L.Ex,iV a2.L.H,iV a2.L.Flag,iV a2.L.Pending,iV a2.L.Ask,iV a2.L.Count,iV a2.L.Sense,iV a2.L.Deques,iV a2.L.Size,pV f7,sV a9 g7 g8,sV b6 g9 c61] 36),(eC j9 #[iV a2.C.N,iV a2.C.S,iV a2.C.T,sV a3 n26 c27,sV a4 n30 c31,sV a5 n34 c35,sV a6 f4 c39,sV a7 f5 c43,sV a8 f6 c47,iV a2.L.Verts,iV a2.L.Arcs,iV a2.L.Workers,iV a2.L.Room,iV a2.L.Res,iV a2.L.Ex,iV a2.L.H,iV a2.L.Flag,iV a2.L.Pending,iV a2.L.Ask,iV a2.L.Count,iV a2.L.Sense,iV a2.L.Deques,iV a2.L.Size,pV f7,sV a9 g7 g8,sV b6 g9 c61] 36),(eI a3 a2.C.First i9 3),(eI a4 a2.C.Head j0 3),(eI a5 a2.C.Rev j1 3),(eI a6 a2.C.Cap j2 2),(eI a7 a2.C.Arc j3 3),(eA a8 boolC a2.C.Back j4 4),(eC f7 #[sV b7 j5 c52] 95),(eI b7 a2.B.l j6 100),(eA a9 Xd b8 j7 40),(eI b6 a2.Dealt j8 3),(eC b1 #[iV r7.N,iV r7.S,iV r7.T,sV b9 d9 c11] 24),(eA b9 Xj r7.Arcs h1 72)]++(Yz (Zj ((sb a3),n26,c27) ((sb a4),n30,c31) ((sb a5),n34,c35) ((sb a6),f4,c39) ((sb a7),f5,c43) ((sb a8),f6,c47)) 65 b8 a2.W)) (by show (_++(_++(es 0++(es 1++(es 2++(es 3++(es 4++([]))))))))++_=_;rw [p5,p6,q3,q4,q5];rfl) ?_;rw [k2,k3,q2];clear q2 k3 k2 p5 p6 q3 q4 q5;refine aN Za ?_;refine T.ret ?_;obtain ⟨rfl,rfl,rfl⟩:=ret3 H;exact X.ret3 Za (Um rfl Ua Zi rfl) (Um rfl Z26 Yu rfl) (Res.tmp rfl) (Zd tk14 (Zd Xn (Zd Xn (Zd Xn (Zd Xn (Zd Xn (Zd Xn (Zd Xn (Zd Xn (Zd Xn (Zd Xn (Pick.skip (Pick.skip (Pick.skip (Pick.skip (Yb _)))))))))))))))) ⟨b9,d9,c11,h1,a3,n26,c27,i9,a4,n30,c31,j0,a5,n34,c35,j1,a6,f4,c39,j2,a7,f5,c43,j3,a8,f6,c47,j4,f7,b7,j5,c52,j6,a9,g7,g8,j7,b8,b6,g9,c61,j8,rfl,rfl,i6,i7,k6,i8,k7,k8,k9,l3,l4,l5,l6,l7,l8,l9,m0,m1,m2,m3,m4,m5,m6,m7,m8,m9,n6,n7,n8,n9,o0,o1,o2,o3,o4,o6,o7,o8,o9,p1,p2,p3,p4⟩
theorem Zhr {w0:WorkerWorker}{b8:Nat}{a5 a7 a9 a6 b6 a8:Option Addr×Nat×Nat}(w:World)(a3:HB w [] b8 (Zj a5 a7 a9 a6 b6 a8 w0)){r0:List Int}(H:Z40 w0=some r0):Fnc Tryz.prog 7 #[pV b8] w [] (fun v N=>∃ (b9:Option Nat) (d6 d7:Nat) (e8:List Value),v=sV b9 d6 d7∧N=[(eI b9 r0 e8 3)]∧r0.length=d6∧d6≤d7∧e8.length=(d7-d6)*1∧(b9=none→d7=0)):=by
 unfold Z40 at H;refine Zy (vs:=[pV b8]) Tryz.func7 rfl rfl (Inv.refl w) ?_;refine sR Y1 rfl ?_;refine aN Za ?_;refine Zn ?_;refine Zn ?_;obtain ⟨r1,e2,H⟩:=Zk H;refine rG Y2 rfl ?_;refine Ze Za ?_;refine Yd Z1y Za (fun wc hwc=>Z2k (w0:=w0) wc (a3.mono hwc) e2) ?_;rintro _ _ ⟨rfl,rfl⟩;refine dN ?_;rcases Zv H with ⟨g3,H⟩ | ⟨g3,H⟩
 ·refine Xk rfl g3 ?_;refine sR Y1 rfl ?_;refine aN Za ?_;refine T.ret ?_;refine Yg ?_;obtain rfl:=ret1 H;exact Zw Za (Res.tmp rfl) (Pick.none Zg) ⟨none,0,0,([]),rfl,rfl,rfl,(Nat.le_refl _),(Vm 0 _),(fun _=>rfl)⟩
 ·
  refine Xs rfl (Bool.eq_false_iff.2 g3) ?_;refine T.skip ?_;refine Yk ?_;refine sR Y1 rfl ?_;refine aN Za ?_;refine Zn ?_;refine sR Y4 rfl ?_;refine Ze Za ?_;refine TO.nilCheck Za ?_;refine Zl Za Z5c ?_;refine Wz a3 Zf Wu ?_;refine dN ?_;refine Z6x (fun (a2:List Int) (b7 c18:Nat) (a4:Option Nat) (c3:List Value)=>Z4s w0 a2=some r0∧a2.length=b7∧b7≤c18∧c3.length=(c18-b7)*1∧(a4=none→c18=0)) (fun (a2:List Int) (b7 c18:Nat) (a4:Option Nat) (c3:List Value)=>[(0,pV b8),(3,sV a4 b7 c18)]) (fun (a2:List Int) (b7 c18:Nat) (a4:Option Nat) (c3:List Value)=>[(eI a4 a2 c3 3)]) ?_ ?_
  ·
   rcases Zv H with ⟨g4,H⟩ | ⟨g4,H⟩
   ·refine Xk rfl g4 ?_;obtain ⟨g8,H⟩:=Yh H;refine rG Y8 rfl ?_;refine Ze Za ?_;refine Ze Za ?_;refine TO.nilCheck Za ?_;refine Zl Za Ge ?_;refine Wz a3 Zf Zs ?_;refine Ju [iV 0] [0] Za Xv Ym Nn Yt (by simp only [Yq,setCells,Value.cells,List.toList_toArray,List.getD_cons_zero,List.getD_cons_succ,List.set_cons_zero,List.set_cons_succ];rfl) (by kernel_rfl) ?_;intro b5;refine TO.addNone (.cells (arr iC ([]:List Int) []).toArray 3 (0,0)) ?_;refine Z06 (f:=iC) (s:=1) (xs:=([]:List Int)) (ob:=none) (j:=([])) (ys:=[w0.u]) (fun _=>rfl) (fun _=>rfl) Zbs g8 Zf Zc rfl (Nat.le_refl _) (Vm 0 _) (fun _=>rfl) (fun wc hwc=>(hwc.rs (f:=iC) (s:=1) (xs:=[w0.u]) (j:=([])) (fun _=>rfl) Yu rfl (Nat.le_refl _) Vx)) ?_;intro e9 c10 f1 d8 d9 e0;refine Ww Za ?_;refine Zm ?_;exact Z36 ([w0.u]) (0+1) c10 e9 f1 ⟨H,(Zfq rfl),d8,d9,e0⟩ (aF rfl) (Zd Zc Zg)
   ·refine Xs rfl (Bool.eq_false_iff.2 g4) ?_;refine T.skip ?_;exact Z36 ([]) 0 0 none ([]) ⟨H,rfl,(Nat.le_refl _),(Vm 0 _),(fun _=>rfl)⟩ (aF rfl) (Pick.none Zg)
  ·
   rintro a2 b7 c18 a4 c3 ⟨H,d1,d3,d4,d5⟩;unfold Z4s at H;refine Zn ?_;refine sR Y4 rfl ?_;refine Ze Za ?_;refine TO.nilCheck Za ?_;refine Zl Za Za3 ?_;refine Wz a3 Zf Wu ?_;refine dN ?_;rcases Zv H with ⟨e3,H⟩ | ⟨e3,H⟩
   ·refine Xk rfl e3 ?_;obtain ⟨f2,H⟩:=Yh H;refine rG Y8 rfl ?_;refine Ze Za ?_;refine Ze Za ?_;refine TO.nilCheck Za ?_;refine Zl Za Nr ?_;refine Wz a3 Zf Zs ?_;refine Ju [iV 0] [0] Za Xv Ym Nn Yt (by simp only [Yq,setCells,Value.cells,List.toList_toArray,List.getD_cons_zero,List.getD_cons_succ,List.set_cons_zero,List.set_cons_succ];rfl) (by kernel_rfl) ?_;intro f4;refine Z06 (f:=iC) (s:=1) (xs:=a2) (ob:=a4) (j:=c3) (ys:=[w0.v]) (fun _=>rfl) (fun _=>rfl) Zbs f2 Zf Zt d1 d3 d4 d5 (fun wc hwc=>(hwc.rs (f:=iC) (s:=1) (xs:=[w0.v]) (j:=([])) (fun _=>rfl) Zi rfl (Nat.le_refl _) Vx)) ?_;intro e4 c31 f3 e5 e6 e7;refine aN Za ?_;refine Zq (aT [3] rfl) ?_;refine sR Y2 rfl ?_;refine Ze Za ?_;refine aN Za ?_;refine T.ret ?_;obtain rfl:=ret1 H;exact Zw Za (Res.tmp rfl) (Zd Zc Zg) ⟨e4,(b7+1),c31,f3,rfl,rfl,(Z0u d1 rfl),e5,e6,e7⟩
   ·refine Xs rfl (Bool.eq_false_iff.2 e3) ?_;refine T.skip ?_;refine Yk ?_;refine sR Y2 rfl ?_;refine Ze Za ?_;refine aN Za ?_;refine T.ret ?_;obtain rfl:=ret1 H;exact Zw Za (Res.tmp rfl) (Zd Zc Zg) ⟨a4,b7,c18,c3,rfl,rfl,d1,d3,d4,d5⟩
theorem Zmj {l0:Layout}{w1:Int}{b2:CellsBank}{b9 b6 a9:Nat}{b5:Option Addr}(w:World)(a6:RS w [] iC 1 b5 b6 a9 b2.l)(a5:HB w [] b9 [.slice b5 b6 a9]){r0:List Int}(H:Z44 l0 w1 b2=some r0):Fnc Tryz.prog 9 #[.agg #[iV l0.Verts,iV l0.Arcs,iV l0.Workers,iV l0.Room,iV l0.Res,iV l0.Ex,iV l0.H,iV l0.Flag,iV l0.Pending,iV l0.Ask,iV l0.Count,iV l0.Sense,iV l0.Deques,iV l0.Size],iV w1,pV b9] w [] (fun v N=>∃ (c3:Option Nat) (d7 d8:Nat) (f5:List Value),v=sV c3 d7 d8∧N=[(eI c3 r0 f5 2)]∧r0.length=d7∧d7≤d8∧f5.length=(d8-d7)*1∧(c3=none→d8=0)):=by
 unfold Z44 at H;refine Zy (vs:=[.agg #[iV l0.Verts,iV l0.Arcs,iV l0.Workers,iV l0.Room,iV l0.Res,iV l0.Ex,iV l0.H,iV l0.Flag,iV l0.Pending,iV l0.Ask,iV l0.Count,iV l0.Sense,iV l0.Deques,iV l0.Size],iV w1,pV b9]) Tryz.func9 rfl rfl (Inv.refl w) ?_;refine sR Y2 rfl ?_;refine Wy Za ?_;intro b1;refine aN Za ?_;refine sR Y1 rfl ?_;refine aN Za ?_;refine Zn ?_;refine Zn ?_;obtain ⟨r3,e4,H⟩:=Zk H;obtain ⟨r5,e6,H⟩:=Zk H;refine rG Y6 rfl ?_;refine Ze Za ?_;refine Wf Za Wq Zi rfl ?_;refine Ze Za ?_;refine Yd Z2g Za (fun wc hwc=>Z2z (l0:=l0) (w1:=w1) wc  e4) ?_;rintro _ _ ⟨rfl,rfl⟩;refine Yd Vu Za (fun wc hwc=>Vp (b0:=b2) (i1:=r3) wc (a6.mono hwc) (a5.mono hwc) e6) ?_;rintro _ _ ⟨rfl,rfl⟩;refine aN Za ?_;refine Z6x (fun (a4:List Int) (n40 c41:Nat) (a7:Option Nat) (d5:List Value)=>Zaq a4=some r0∧a4.length=n40∧n40≤c41∧d5.length=(c41 - n40)*1∧(a7=none→c41=0)) (fun (a4:List Int) (n40 c41:Nat) (a7:Option Nat) (d5:List Value)=>[(7,sV a7 n40 c41)]) (fun (a4:List Int) (n40 c41:Nat) (a7:Option Nat) (d5:List Value)=>[(eI a7 a4 d5 2)]) ?_ ?_
 ·
  refine T.block ?_;obtain ⟨g0,g1,f6⟩:=Zk H;refine Zga (fun (d6:Nat) (a2:List Int) (n8 c9:Nat) (a3:Option Nat) (b7:List Value) (b8:Int)=>Xz (fun s=>Z55 l0 w1 b2 s.1 s.2) d6 (a2,b8)=some g0∧a2.length=n8∧n8≤c9∧b7.length=(c9 - n8)*1∧(a3=none→c9=0)) (fun (d6:Nat) (a2:List Int) (n8 c9:Nat) (a3:Option Nat) (b7:List Value) (b8:Int)=>[(1,iV w1),(2,pV b9),(3,pV b1),(7,sV a3 n8 c9),(8,iV b8)]) (fun (d6:Nat) (a2:List Int) (n8 c9:Nat) (a3:Option Nat) (b7:List Value) (b8:Int)=>[(eC b1 #[iV l0.Verts,iV l0.Arcs,iV l0.Workers,iV l0.Room,iV l0.Res,iV l0.Ex,iV l0.H,iV l0.Flag,iV l0.Pending,iV l0.Ask,iV l0.Count,iV l0.Sense,iV l0.Deques,iV l0.Size] 32),(eI a3 a2 b7 2)]) (fun (d6:Nat) (a2:List Int) (n8 c9:Nat) (a3:Option Nat) (b7:List Value) (b8:Int)=>d6) Xo ([]) 0 0 none ([]) r5 ⟨g1,rfl,(Nat.le_refl _),(Vm 0 _),(fun _=>rfl)⟩ (aF rfl) (Zd Zc (Pick.none Zg)) ?_;rintro d6 a2 n8 c9 a3 b7 b8 ⟨H,a8,d1,d3,d4⟩;obtain ⟨g2,g3,rfl,H,d9⟩:=Uw H;have H:Z55 l0 w1 b2 a2 b8=some g3:=H;unfold Z55 at H;refine Zn ?_;refine Zn ?_;obtain ⟨f7,f8,H⟩:=Zk H;obtain ⟨h0,f9,H⟩:=Zk H;rcases Zv H with ⟨e0,H⟩ | ⟨e0,H⟩
  ·
   refine rG Y14 rfl ?_;refine Ze Za ?_;refine Ze Za ?_;refine Wf Za Wq Zi rfl ?_;refine Ze Za ?_;refine Yd Z10 Za (fun wc hwc=>Z1n (l0:=l0) (w1:=w1) wc  f8) ?_;rintro _ _ ⟨rfl,rfl⟩;refine Yd Vu Za (fun wc hwc=>Vp (b0:=b2) (i1:=f7) wc (a6.mono hwc) (a5.mono hwc) f9) ?_;rintro _ _ ⟨rfl,rfl⟩;refine Ye Zx ?_;refine Ze Za ?_;refine Yn (t:=21) (b':=true) rfl (decide_eq_true e0) ?_;refine Ze Za ?_;refine Vq (xs:=a2) a8 Zf Nu ?_;refine Zl Za Z6d ?_;refine Zr Za Zs Zi rfl ?_;refine Ye Zx ?_;refine Xr Zf ?_;refine dN ?_;refine Zq (aT [1,2,3,7,8,22,23,24,25,26,27] rfl) ?_;rcases Zv H with ⟨e2,H⟩ | ⟨e2,H⟩
   ·refine Wg rfl e2 ?_;refine T.skip ?_;refine Yk ?_;refine Zn ?_;refine T.block ?_;obtain ⟨g4,g5,H⟩:=Zk H;obtain ⟨e3,g6,H⟩:=Zk H;obtain ⟨g7,H⟩:=Yh H;refine rG Y10 rfl ?_;refine Ze Za ?_;refine Ze Za ?_;refine Wf Za Wq Zi rfl ?_;refine Ze Za ?_;refine Ze Za ?_;refine Yd Z46 Za (fun wc hwc=>Z4b (l0:=l0) (w1:=w1) (at2:=b8) wc  g5) ?_;rintro _ _ ⟨rfl,rfl⟩;refine Yd Vu Za (fun wc hwc=>Vp (b0:=b2) (i1:=g4) wc (a6.mono hwc) (a5.mono hwc) g6) ?_;rintro _ _ ⟨rfl,rfl⟩;refine Ju [iV 0] [0] Za Nu Uj Zcc Yt (by simp only [Yq,setCells,Value.cells,List.toList_toArray,List.getD_cons_zero,List.getD_cons_succ,List.set_cons_zero,List.set_cons_succ];rfl) (by kernel_rfl) ?_;intro h1;refine Z06 (f:=iC) (s:=1) (xs:=a2) (ob:=a3) (j:=b7) (ys:=[e3]) (fun _=>rfl) (fun _=>rfl) Zkj g7 Zf Zz a8 d1 d3 d4 (fun wc hwc=>(hwc.rs (f:=iC) (s:=1) (xs:=[e3]) (j:=([])) (fun _=>rfl) Zi rfl (Nat.le_refl _) Vx)) ?_;intro e5 c32 g8 e7 e8 e9;refine Ww Za ?_;refine Zm ?_;refine Vd ?_;refine Yk ?_;refine Zq (aT [1,2,3,7,8,22,23,24,25,26] rfl) ?_;obtain ⟨g9,H⟩:=Yh H;refine rG Y3 rfl ?_;refine Ze Za ?_;refine Xl g9 Zf ?_;refine Ww Za ?_;refine Zm ?_;have H:=Vy H d9;exact Zdz g2 (a2++([e3])) (n8+1) c32 e5 g8 (b8+1) ⟨H,(Z0u a8 rfl),e7,e8,e9⟩ (Nat.lt_succ_self _) (aF rfl) (Zd Zz (Zd Zc Zg))
   ·refine Wd rfl e2 ?_;refine T.exit ?_;refine Wh ?_;have H:=Wt H d9▸f6;refine Wh ?_;refine Ud ?_;exact Z36 a2 n8 c9 a3 b7 ⟨H,a8,d1,d3,d4⟩ (aF rfl) (Zd Zt Zg)
  ·refine rG Y14 rfl ?_;refine Ze Za ?_;refine Ze Za ?_;refine Wf Za Wq Zi rfl ?_;refine Ze Za ?_;refine Yd Z10 Za (fun wc hwc=>Z1n (l0:=l0) (w1:=w1) wc  f8) ?_;rintro _ _ ⟨rfl,rfl⟩;refine Yd Vu Za (fun wc hwc=>Vp (b0:=b2) (i1:=f7) wc (a6.mono hwc) (a5.mono hwc) f9) ?_;rintro _ _ ⟨rfl,rfl⟩;refine Ye Zx ?_;refine Ze Za ?_;refine Yn (t:=21) (b':=false) rfl (decide_eq_false e0) ?_;refine Zp Za ?_;refine Zp Za ?_;refine Zp Za ?_;refine Zp Za ?_;refine Zp Za ?_;refine Xp Zf ?_;refine dN ?_;refine Zq (aT [1,2,3,7,8,22,23,24,25,26,27] rfl) ?_;refine Xs rfl rfl ?_;refine T.exit ?_;refine Wh ?_;have H:=Wt H d9▸f6;refine Wh ?_;refine Ud ?_;exact Z36 a2 n8 c9 a3 b7 ⟨H,a8,d1,d3,d4⟩ (aF rfl) (Zd Zt Zg)
 ·rintro a4 n40 c41 a7 d5 ⟨H,f1,f2,f3,f4⟩;unfold Zaq at H;refine sR Y2 rfl ?_;refine Ze Za ?_;refine aN Za ?_;refine T.ret ?_;obtain rfl:=ret1 H;exact Zw Za (Res.tmp rfl) (Zd Zc Zg) ⟨a7,n40,c41,d5,rfl,rfl,f1,f2,f3,f4⟩
end Go.Proofs.YtcopaajoahfilaaGreat.Ax
namespace Go.Proofs.YtcopaajoahfilaaGreat.Ax
open Go Go.Acq Go.RowKit Go.Proofs
set_option maxHeartbeats 8000000
set_option maxRecDepth 20000
theorem Ziv:Kt Tryz.prog 63=some 56:=by kernel_rfl
theorem Ze3:Yc Tryz.prog 14=true:=by kernel_rfl
theorem Zpi:Yc Tryz.prog 21=true:=by kernel_rfl
theorem Zi4:Yc Tryz.prog 22=true:=by kernel_rfl
theorem Znm:Yc Tryz.prog 23=true:=by kernel_rfl
theorem Zqo:Yc Tryz.prog 6=true:=by kernel_rfl
theorem Znu:Yc Tryz.prog 7=true:=by kernel_rfl
theorem Zqj:Yc Tryz.prog 9=true:=by kernel_rfl
theorem Z29:eqsT Tryz.prog 63 [.i64,.u8,.i64,.i64,.i64,.i64,.i64]=true:=by kernel_rfl
theorem Z19:Yp Tryz.prog 36 1=some 9:=by kernel_rfl
theorem Lu:Yp Tryz.prog 36 2=some 23:=by kernel_rfl
theorem Z3m:Wm Tryz.prog 25=some 5:=by kernel_rfl
theorem Jx:Wm Tryz.prog 74=some 63:=by kernel_rfl
theorem Zcm:Xc Tryz.prog 5=some 1:=by kernel_rfl
theorem Re:Wj Tryz.prog 33=true:=by kernel_rfl
theorem Z0c:Wj Tryz.prog 40=true:=by kernel_rfl
theorem Zop:Wj Tryz.prog 5=true:=by kernel_rfl
theorem Zlw:ElemT Tryz.prog 74 63 7 56 (.agg #[iV 0,.int .u8 0,iV 0,iV 0,iV 0,iV 0,iV 0]):=⟨Jx,Jy,Ziv,Z6p,rfl⟩
theorem Zpl {k0:Int}{c1:Net}{c2:Acequialaw16Phase}{b8 h6 h9 d5 c3 e2 f1 f3 e3 f2 e5 e6 e7 e8 e4 d9 f8 d4 e0 a4 a5 h7 h8:Nat}{h5 d7 d3 d8 f4 e9 d6 d1 a3 i0:Option Addr}{b9:List Nat}(w:World)(a2:HB w [] b8 [iV c1.N,iV c1.S,iV c1.T,.slice h5 h6 h9])(b6:RS w [] iC 1 d1 d4 e0 c2.B.l)(a7:HB w [] f8 [.slice d1 d4 e0])(f7:RS w [] Xd 1 a3 a4 a5 b9)(b7:b9.length=c2.W.length)(g2:FamW w [] (Zj (d7,c3,e2) (d3,f1,f3) (d8,e3,f2) (f4,e5,e6) (e9,e7,e8) (d6,e4,d9)) b9 c2.W)(a6:HB w [] d5 [iV c2.C.N,iV c2.C.S,iV c2.C.T,.slice d7 c3 e2,.slice d3 f1 f3,.slice d8 e3 f2,.slice f4 e5 e6,.slice e9 e7 e8,.slice d6 e4 d9,iV c2.L.Verts,iV c2.L.Arcs,iV c2.L.Workers,iV c2.L.Room,iV c2.L.Res,iV c2.L.Ex,iV c2.L.H,iV c2.L.Flag,iV c2.L.Pending,iV c2.L.Ask,iV c2.L.Count,iV c2.L.Sense,iV c2.L.Deques,iV c2.L.Size,pV f8,.slice a3 a4 a5,.slice i0 h7 h8]){r0:Bool}(H:Z5m k0 c1 c2=some r0):Fnc Tryz.prog 6 #[iV k0,pV b8,pV d5] w [] (fun v N=>v=.bool r0∧N=[]):=by
 unfold Z5m at H;refine Zy (vs:=[iV k0,pV b8,pV d5]) Tryz.func6 rfl rfl (Inv.refl w) ?_;refine sR Y1 rfl ?_;refine aN Za ?_;obtain ⟨g1,H⟩:=Yh H;refine sR Y4 rfl ?_;refine Zl Za Ut ?_;refine Wz a2 Zf Zs ?_;refine Z3s g1 Zf Xv Ym Nn Z1a rfl ?_;intro b2;refine aN Za ?_;refine Zn ?_;refine sR Y4 rfl ?_;refine Zl Za Gt ?_;refine Wz a6 Zf Nb ?_;refine Zc2 (xs:=b9) (m:=c2.W.length) b7 f7.len Zf Jv ?_;refine Ze Za ?_;refine dN ?_;refine Vz (fun (a8:List Int)=>Z62 c1 a8=some r0∧a8.length=c1.N.toNat) (fun (a8:List Int)=>[(1,pV b8),(5,nV b2 c1.N.toNat c1.N.toNat)]) (fun (a8:List Int)=>[(eI (some b2) a8 ([]) 3)]) ?_ ?_
 ·
  refine T.block ?_;obtain ⟨n7,n8,h2⟩:=Zk H;refine Z02 (fun (i2:Nat) (g3:List Int) (x6:Int)=>Xz (fun s=>Z4e c1 c2 s.1 s.2) i2 (g3,x6)=some n7∧g3.length=c1.N.toNat) (fun (i2:Nat) (g3:List Int) (x6:Int)=>[(1,pV b8),(2,pV d5),(5,nV b2 c1.N.toNat c1.N.toNat),(18,.slice a3 a4 a5),(19,iV (c2.W.length:Int)),(20,iV x6)]) (fun (i2:Nat) (g3:List Int) (x6:Int)=>[(eI (some b2) g3 ([]) 3)]) (fun (i2:Nat) (g3:List Int) (x6:Int)=>i2) Xo (List.replicate c1.N.toNat (0:Int)) 0 ⟨n8,List.length_replicate⟩ (aF rfl) (Zd Zc Zg) ?_;rintro i2 g3 x6 ⟨H,m2⟩;obtain ⟨n9,k6,rfl,H,g9⟩:=Uw H;have H:Z4e c1 c2 g3 x6=some k6:=H;unfold Z4e at H;refine sR Y1 rfl ?_;refine Ye Zx ?_;refine dS ?_;rcases Zv H with ⟨g7,H⟩ | ⟨g7,H⟩
  ·
   refine Wg rfl g7 ?_;refine T.skip ?_;refine Yk ?_;refine Zn ?_;refine Vz (fun (f5:List Int)=>Z6t x6 f5=some k6∧f5.length=c1.N.toNat) (fun (f5:List Int)=>[(1,pV b8),(2,pV d5),(5,nV b2 c1.N.toNat c1.N.toNat),(18,.slice a3 a4 a5),(19,iV (c2.W.length:Int)),(20,iV x6)]) (fun (f5:List Int)=>[(eI (some b2) f5 ([]) 3)]) ?_ ?_
   ·
    refine T.block ?_;obtain ⟨g8,H⟩:=Yh H;refine sR Y5 rfl ?_;refine Ze Za ?_;refine Gq f7 (Jc b7 g8) Zf Jv Ns ?_;refine Zc4 rfl f7 (Jc b7 g8) Za Z0c ?_;refine Ww Za ?_;refine aN Za ?_;refine Zn ?_;refine Zn ?_;obtain ⟨y9,o0,H⟩:=Zk H;obtain ⟨h0,o1,H⟩:=Zk H;refine rG Y4 rfl ?_;refine Ze Za ?_;refine Yd Znu Za (fun wc hwc=>Zhr (w0:=y9) wc ((g2.at_ _ _ o0).mono hwc) o1) ?_;rintro _ _ ⟨i8,o2,c15,o3,rfl,rfl,h3,i9,o4,j0⟩;refine Vq (xs:=h0) h3 Zf Xv ?_;refine Ze Za ?_;refine dN ?_;refine Vz (fun (f6:List Int)=>Z6o c1 c2 x6 f6=some k6∧f6.length=c1.N.toNat) (fun (f6:List Int)=>[(1,pV b8),(2,pV d5),(5,nV b2 c1.N.toNat c1.N.toNat),(6,iV x6),(18,.slice a3 a4 a5),(19,iV (c2.W.length:Int)),(20,iV x6)]) (fun (f6:List Int)=>[(eI (some b2) f6 ([]) 3)]) ?_ ?_
    ·
     refine T.block ?_;obtain ⟨o6,o7,j8⟩:=Zk H;refine Z02 (fun (i4:Nat) (a9:List Int) (f9:Int)=>Xz (fun s=>Z13 c1 c2 h0 s.1 s.2) i4 (a9,f9)=some o6∧a9.length=c1.N.toNat) (fun (i4:Nat) (a9:List Int) (f9:Int)=>[(1,pV b8),(2,pV d5),(5,nV b2 c1.N.toNat c1.N.toNat),(6,iV x6),(18,.slice a3 a4 a5),(19,iV (c2.W.length:Int)),(20,iV x6),(26,sV i8 o2 c15),(27,iV (h0.length:Int)),(28,iV f9)]) (fun (i4:Nat) (a9:List Int) (f9:Int)=>[(eI (some b2) a9 ([]) 3),(eI i8 h0 o3 3)]) (fun (i4:Nat) (a9:List Int) (f9:Int)=>i4) Xo g3 0 ⟨o7,m2⟩ (aF rfl) (Zd Zt (Zd Zc Zg)) ?_;rintro i4 a9 f9 ⟨H,g4⟩;obtain ⟨o8,o9,rfl,H,j1⟩:=Uw H;have H:Z13 c1 c2 h0 a9 f9=some o9:=H;unfold Z13 at H;refine sR Y1 rfl ?_;refine Ye Zx ?_;refine dS ?_;rcases Zv H with ⟨k7,H⟩ | ⟨k7,H⟩
     ·
      refine Wg rfl k7 ?_;refine T.skip ?_;refine Yk ?_;refine Zn ?_;refine T.block ?_;obtain ⟨m3,H⟩:=Yh H;refine sR Y3 rfl ?_;refine Un j0 i9 h3 m3 Zf Xv Ym ?_;refine Lr j0 i9 h3 m3 Za Zs Yu ?_;refine aN Za ?_;refine Zn ?_;refine Zn ?_;rcases Zv H with ⟨j9,H⟩ | ⟨j9,H⟩
      ·refine rG Y19 rfl ?_;refine Ze Za ?_;refine Ye Zx ?_;refine Ze Za ?_;refine Yn (t:=34) (b':=true) rfl (decide_eq_true j9) ?_;refine Zp Za ?_;refine Zp Za ?_;refine Zp Za ?_;refine Zp Za ?_;refine Xr Zf ?_;refine Ze Za ?_;refine Zp Za ?_;refine Zp Za ?_;refine Zp Za ?_;refine Zp Za ?_;refine Zp Za ?_;refine Zp Za ?_;refine Zp Za ?_;refine Zp Za ?_;refine Zp Za ?_;refine Xr Zf ?_;refine dN ?_;refine Zq (aT [1,2,5,6,18,19,20,26,27,28,9,35,36,37,38,41,42,43,44,45,46,47,48,49,50] rfl) ?_;refine Xk rfl rfl ?_;refine sR Y1 rfl ?_;refine aN Za ?_;refine Zq (aT [4] rfl) ?_;refine T.ret ?_;refine Yg ?_;refine Wa ?_;refine Yg ?_;have H:=Wt H j1▸j8;refine Yg ?_;refine Wa ?_;refine Yg ?_;refine Wa ?_;refine Yg ?_;have H:=Wt H g9▸h2;refine Yg ?_;refine Wa ?_;refine Yg ?_;obtain rfl:=ret1 H;exact Zw Za (Res.tmp rfl) Zg ⟨rfl,rfl⟩
      ·
       rcases Zv H with ⟨k8,H⟩ | ⟨k8,H⟩
       ·refine rG Y19 rfl ?_;refine Ze Za ?_;refine Ye Zx ?_;refine Ze Za ?_;refine Yn (t:=34) (b':=false) rfl (decide_eq_false j9) ?_;refine Ze Za ?_;refine Zl Za Ut ?_;refine Wz a2 Zf Zs ?_;refine Ye Zx ?_;refine Xp Zf ?_;refine Ze Za ?_;refine Yn (t:=40) (b':=true) rfl (decide_eq_true k8) ?_;refine Zp Za ?_;refine Zp Za ?_;refine Zp Za ?_;refine Zp Za ?_;refine Zp Za ?_;refine Zp Za ?_;refine Zp Za ?_;refine Zp Za ?_;refine Zp Za ?_;refine Xr Zf ?_;refine dN ?_;refine Zq (aT [1,2,5,6,18,19,20,26,27,28,9,35,36,37,38,41,42,43,44,45,46,47,48,49,50] rfl) ?_;refine Xk rfl rfl ?_;refine sR Y1 rfl ?_;refine aN Za ?_;refine Zq (aT [4] rfl) ?_;refine T.ret ?_;refine Yg ?_;refine Wa ?_;refine Yg ?_;have H:=Wt H j1▸j8;refine Yg ?_;refine Wa ?_;refine Yg ?_;refine Wa ?_;refine Yg ?_;have H:=Wt H g9▸h2;refine Yg ?_;refine Wa ?_;refine Yg ?_;obtain rfl:=ret1 H;exact Zw Za (Res.tmp rfl) Zg ⟨rfl,rfl⟩
       ·
        obtain ⟨p1,H⟩:=Yh H;obtain ⟨r4,p2,H⟩:=Zk H;refine rG Y19 rfl ?_;refine Ze Za ?_;refine Ye Zx ?_;refine Ze Za ?_;refine Yn (t:=34) (b':=false) rfl (decide_eq_false j9) ?_;refine Ze Za ?_;refine Zl Za Ut ?_;refine Wz a2 Zf Zs ?_;refine Ye Zx ?_;refine Xp Zf ?_;refine Ze Za ?_;refine Yn (t:=40) (b':=false) rfl (decide_eq_false k8) ?_;refine Zl Za Lu ?_;refine Wz a6 Zf Re ?_;refine Zl Za Z19 ?_;refine TO.fieldAddr Za Z1i ?_;refine Wz a6 Zf Zs ?_;refine Ze Za ?_;refine Xl p1 Zf ?_;refine Yd Vu Za (fun wc hwc=>Vp (b0:=c2.B) (i1:=(c2.L.Flag+(h0.getD f9.toNat 0))) wc (b6.mono hwc) (a7.mono hwc) p2) ?_;rintro _ _ ⟨rfl,rfl⟩;refine Ye Zx ?_;refine Xp Zf ?_;refine dN ?_;refine Zq (aT [1,2,5,6,18,19,20,26,27,28,9,35,36,37,38,41,42,43,44,45,46,47,48,49,50] rfl) ?_;rcases Zv H with ⟨k9,H⟩ | ⟨k9,H⟩
        ·refine Wg rfl k9 ?_;refine sR Y1 rfl ?_;refine aN Za ?_;refine Zq (aT [4] rfl) ?_;refine T.ret ?_;refine Yg ?_;refine Wa ?_;refine Yg ?_;have H:=Wt H j1▸j8;refine Yg ?_;refine Wa ?_;refine Yg ?_;refine Wa ?_;refine Yg ?_;have H:=Wt H g9▸h2;refine Yg ?_;refine Wa ?_;refine Yg ?_;obtain rfl:=ret1 H;exact Zw Za (Res.tmp rfl) Zg ⟨rfl,rfl⟩
        ·refine Wd rfl k9 ?_;refine T.skip ?_;refine Yk ?_;obtain ⟨m4,p3,m5,H⟩:=gd3 H;refine rG Y7 rfl ?_;refine Ze Za ?_;refine Ze Za ?_;refine Js g4 m4 Zf Xv Ym ?_;refine Z0n m4 Za Zs Zi ?_;refine Xl p3 Zf ?_;refine Js g4 m5 Zf Xv Ym ?_;refine Z07 m5 Za Zc Ym ?_;refine Zm ?_;refine Vd ?_;refine Yk ?_;refine Zq (aT [1,2,5,6,18,19,20,26,27,28,35,36,37,38,41,42,43,44,45,46,47,48,49] rfl) ?_;obtain ⟨p4,H⟩:=Yh H;refine rG Y2 rfl ?_;refine Xl p4 Zf ?_;refine Ze Za ?_;refine Zm ?_;have H:=Vy H j1;exact Rk o8 (a9.set (h0.getD f9.toNat 0).toNat ((a9.getD (h0.getD f9.toNat 0).toNat 0)+1)) (f9+1) ⟨H,(List.length_set.trans g4)⟩ (Nat.lt_succ_self _) (aF rfl) (Zd Zc (Zd Zc Zg))
     ·refine Wd rfl k7 ?_;refine T.exit ?_;refine Wh ?_;have H:=Wt H j1▸j8;refine Wh ?_;refine Ud ?_;exact Vb a9 ⟨H,g4⟩ (aF rfl) (Zd Zc Zg)
    ·
     rintro f6 ⟨H,l3⟩;unfold Z6o at H;refine Zn ?_;obtain ⟨h1,p5,H⟩:=Zk H;refine rG Y8 rfl ?_;refine Zl Za Z19 ?_;refine Zcz (vs:=[iV c2.L.Verts,iV c2.L.Arcs,iV c2.L.Workers,iV c2.L.Room,iV c2.L.Res,iV c2.L.Ex,iV c2.L.H,iV c2.L.Flag,iV c2.L.Pending,iV c2.L.Ask,iV c2.L.Count,iV c2.L.Sense,iV c2.L.Deques,iV c2.L.Size]) a6 Zx Wq ?_;refine Ze Za ?_;refine Zl Za Lu ?_;refine Wz a6 Zf Re ?_;refine Yd Zqj Za (fun wc hwc=>Zmj (l0:=c2.L) (w1:=x6) (b2:=c2.B) wc (b6.mono hwc) (a7.mono hwc) p5) ?_;rintro _ _ ⟨j2,p6,c43,p7,rfl,rfl,h4,j3,p8,j4⟩;refine Vq (xs:=h1) h4 Zf Nu ?_;refine Ze Za ?_;refine dN ?_;refine T.block ?_;obtain ⟨p9,q0,k2⟩:=Zk H;refine Z02 (fun (i5:Nat) (b5:List Int) (g0:Int)=>Xz (fun s=>Z59 c1 c2 h1 s.1 s.2) i5 (b5,g0)=some p9∧b5.length=c1.N.toNat) (fun (i5:Nat) (b5:List Int) (g0:Int)=>[(1,pV b8),(2,pV d5),(5,nV b2 c1.N.toNat c1.N.toNat),(18,.slice a3 a4 a5),(19,iV (c2.W.length:Int)),(20,iV x6),(63,sV j2 p6 c43),(64,iV (h1.length:Int)),(65,iV g0)]) (fun (i5:Nat) (b5:List Int) (g0:Int)=>[(eI (some b2) b5 ([]) 3),(eI j2 h1 p7 2)]) (fun (i5:Nat) (b5:List Int) (g0:Int)=>i5) Xo f6 0 ⟨q0,l3⟩ (aF rfl) (Zd Zt (Zd Zc Zg)) ?_;rintro i5 b5 g0 ⟨H,g5⟩;obtain ⟨q1,q2,rfl,H,j5⟩:=Uw H;have H:Z59 c1 c2 h1 b5 g0=some q2:=H;unfold Z59 at H;refine sR Y1 rfl ?_;refine Ye Zx ?_;refine dS ?_;rcases Zv H with ⟨l4,H⟩ | ⟨l4,H⟩
     ·
      refine Wg rfl l4 ?_;refine T.skip ?_;refine Yk ?_;refine Zn ?_;refine T.block ?_;obtain ⟨m6,H⟩:=Yh H;refine sR Y3 rfl ?_;refine Un j4 j3 h4 m6 Zf Nu Uj ?_;refine Lr j4 j3 h4 m6 Za Wl Yu ?_;refine aN Za ?_;refine Zn ?_;refine Zn ?_;rcases Zv H with ⟨k3,H⟩ | ⟨k3,H⟩
      ·refine rG Y19 rfl ?_;refine Ze Za ?_;refine Ye Zx ?_;refine Ze Za ?_;refine Yn (t:=71) (b':=true) rfl (decide_eq_true k3) ?_;refine Zp Za ?_;refine Zp Za ?_;refine Zp Za ?_;refine Zp Za ?_;refine Xr Zf ?_;refine Ze Za ?_;refine Zp Za ?_;refine Zp Za ?_;refine Zp Za ?_;refine Zp Za ?_;refine Zp Za ?_;refine Zp Za ?_;refine Zp Za ?_;refine Zp Za ?_;refine Zp Za ?_;refine Xr Zf ?_;refine dN ?_;refine Zq (aT [1,2,5,18,19,20,63,64,65,11,72,73,74,75,78,79,80,81,82,83,84,85,86,87] rfl) ?_;refine Xk rfl rfl ?_;refine sR Y1 rfl ?_;refine aN Za ?_;refine Zq (aT [4] rfl) ?_;refine T.ret ?_;refine Yg ?_;refine Wa ?_;refine Yg ?_;have H:=Wt H j5▸k2;refine Yg ?_;refine Wa ?_;refine Wa ?_;refine Yg ?_;have H:=Wt H g9▸h2;refine Yg ?_;refine Wa ?_;refine Yg ?_;obtain rfl:=ret1 H;exact Zw Za (Res.tmp rfl) Zg ⟨rfl,rfl⟩
      ·
       rcases Zv H with ⟨l5,H⟩ | ⟨l5,H⟩
       ·refine rG Y19 rfl ?_;refine Ze Za ?_;refine Ye Zx ?_;refine Ze Za ?_;refine Yn (t:=71) (b':=false) rfl (decide_eq_false k3) ?_;refine Ze Za ?_;refine Zl Za Ut ?_;refine Wz a2 Zf Zs ?_;refine Ye Zx ?_;refine Xp Zf ?_;refine Ze Za ?_;refine Yn (t:=77) (b':=true) rfl (decide_eq_true l5) ?_;refine Zp Za ?_;refine Zp Za ?_;refine Zp Za ?_;refine Zp Za ?_;refine Zp Za ?_;refine Zp Za ?_;refine Zp Za ?_;refine Zp Za ?_;refine Zp Za ?_;refine Xr Zf ?_;refine dN ?_;refine Zq (aT [1,2,5,18,19,20,63,64,65,11,72,73,74,75,78,79,80,81,82,83,84,85,86,87] rfl) ?_;refine Xk rfl rfl ?_;refine sR Y1 rfl ?_;refine aN Za ?_;refine Zq (aT [4] rfl) ?_;refine T.ret ?_;refine Yg ?_;refine Wa ?_;refine Yg ?_;have H:=Wt H j5▸k2;refine Yg ?_;refine Wa ?_;refine Wa ?_;refine Yg ?_;have H:=Wt H g9▸h2;refine Yg ?_;refine Wa ?_;refine Yg ?_;obtain rfl:=ret1 H;exact Zw Za (Res.tmp rfl) Zg ⟨rfl,rfl⟩
       ·
        obtain ⟨q3,H⟩:=Yh H;obtain ⟨r5,q4,H⟩:=Zk H;refine rG Y19 rfl ?_;refine Ze Za ?_;refine Ye Zx ?_;refine Ze Za ?_;refine Yn (t:=71) (b':=false) rfl (decide_eq_false k3) ?_;refine Ze Za ?_;refine Zl Za Ut ?_;refine Wz a2 Zf Zs ?_;refine Ye Zx ?_;refine Xp Zf ?_;refine Ze Za ?_;refine Yn (t:=77) (b':=false) rfl (decide_eq_false l5) ?_;refine Zl Za Lu ?_;refine Wz a6 Zf Re ?_;refine Zl Za Z19 ?_;refine TO.fieldAddr Za Z1i ?_;refine Wz a6 Zf Zs ?_;refine Ze Za ?_;refine Xl q3 Zf ?_;refine Yd Vu Za (fun wc hwc=>Vp (b0:=c2.B) (i1:=(c2.L.Flag+(h1.getD g0.toNat 0))) wc (b6.mono hwc) (a7.mono hwc) q4) ?_;rintro _ _ ⟨rfl,rfl⟩;refine Ye Zx ?_;refine Xp Zf ?_;refine dN ?_;refine Zq (aT [1,2,5,18,19,20,63,64,65,11,72,73,74,75,78,79,80,81,82,83,84,85,86,87] rfl) ?_;rcases Zv H with ⟨l6,H⟩ | ⟨l6,H⟩
        ·refine Wg rfl l6 ?_;refine sR Y1 rfl ?_;refine aN Za ?_;refine Zq (aT [4] rfl) ?_;refine T.ret ?_;refine Yg ?_;refine Wa ?_;refine Yg ?_;have H:=Wt H j5▸k2;refine Yg ?_;refine Wa ?_;refine Wa ?_;refine Yg ?_;have H:=Wt H g9▸h2;refine Yg ?_;refine Wa ?_;refine Yg ?_;obtain rfl:=ret1 H;exact Zw Za (Res.tmp rfl) Zg ⟨rfl,rfl⟩
        ·refine Wd rfl l6 ?_;refine T.skip ?_;refine Yk ?_;obtain ⟨m7,q5,m8,H⟩:=gd3 H;refine rG Y7 rfl ?_;refine Ze Za ?_;refine Ze Za ?_;refine Js g5 m7 Zf Xv Ym ?_;refine Z0n m7 Za Zs Zi ?_;refine Xl q5 Zf ?_;refine Js g5 m8 Zf Xv Ym ?_;refine Z07 m8 Za Zc Ym ?_;refine Zm ?_;refine Vd ?_;refine Yk ?_;refine Zq (aT [1,2,5,18,19,20,63,64,65,72,73,74,75,78,79,80,81,82,83,84,85,86] rfl) ?_;obtain ⟨q6,H⟩:=Yh H;refine rG Y2 rfl ?_;refine Xl q6 Zf ?_;refine Ze Za ?_;refine Zm ?_;have H:=Vy H j5;exact Rk q1 (b5.set (h1.getD g0.toNat 0).toNat ((b5.getD (h1.getD g0.toNat 0).toNat 0)+1)) (g0+1) ⟨H,(List.length_set.trans g5)⟩ (Nat.lt_succ_self _) (aF rfl) (Zd Zc (Zd Zc Zg))
     ·refine Wd rfl l4 ?_;refine T.exit ?_;refine Wh ?_;have H:=Wt H j5▸k2;refine Wh ?_;refine Ud ?_;refine Vd ?_;exact Vb b5 ⟨H,g5⟩ (aF rfl) (Zd Zc Zg)
   ·rintro f5 ⟨H,l7⟩;unfold Z6t at H;obtain ⟨q7,H⟩:=Yh H;refine rG Y2 rfl ?_;refine Xl q7 Zf ?_;refine Ze Za ?_;refine Zm ?_;have H:=Vy H g9;exact Rk n9 f5 (x6+1) ⟨H,l7⟩ (Nat.lt_succ_self _) (aF rfl) (Zd Zc Zg)
  ·refine Wd rfl g7 ?_;refine T.exit ?_;refine Wh ?_;have H:=Wt H g9▸h2;refine Wh ?_;refine Ud ?_;exact Vb g3 ⟨H,m2⟩ (aF rfl) (Zd Zc Zg)
 ·
  rintro a8 ⟨H,j6⟩;unfold Z62 at H;refine Zn ?_;refine sR Y3 rfl ?_;refine Ze Za ?_;refine Vq (xs:=a8) j6 Zf Xv ?_;refine Ze Za ?_;refine dN ?_;refine Vz (fun (l8:Unit)=>Z7q=some r0) (fun (l8:Unit)=>[]) (fun (l8:Unit)=>[]) ?_ ?_
  ·
   refine T.block ?_;obtain ⟨q8,q9,k4⟩:=Zk H;refine Z4u (fun (i6:Nat) (g6:Int)=>Xz (fun s=>Z5l c1 a8 s) i6 g6=some q8) (fun (i6:Nat) (g6:Int)=>[(1,pV b8),(96,nV b2 c1.N.toNat c1.N.toNat),(97,iV (a8.length:Int)),(98,iV g6)]) (fun (i6:Nat) (g6:Int)=>[(eI (some b2) a8 ([]) 3)]) (fun (i6:Nat) (g6:Int)=>i6) Xo 0 q9 (aF rfl) (Zd Zc Zg) ?_;rintro i6 g6 H;obtain ⟨m9,r1,rfl,H,i7⟩:=Uw H;have H:Z5l c1 a8 g6=some r1:=H;unfold Z5l at H;refine sR Y1 rfl ?_;refine Ye Zx ?_;refine dS ?_;rcases Zv H with ⟨l9,H⟩ | ⟨l9,H⟩
   ·
    refine Wg rfl l9 ?_;refine T.skip ?_;refine Yk ?_;refine Zn ?_;refine T.block ?_;obtain ⟨n6,H⟩:=Yh H;refine sR Y5 rfl ?_;refine Ze Za ?_;refine Js j6 n6 Zf Xv Ym ?_;refine Z0n n6 Za Zs Zi ?_;refine Ww Za ?_;refine aN Za ?_;refine Zn ?_;rcases Zv H with ⟨j7,H⟩ | ⟨j7,H⟩
    ·refine rG Y18 rfl ?_;refine Ze Za ?_;refine Ye Zx ?_;refine Ze Za ?_;refine Yn (t:=105) (b':=true) rfl (decide_eq_true j7) ?_;refine Zp Za ?_;refine Zp Za ?_;refine Zp Za ?_;refine Jn Za ?_;refine Jn Za ?_;refine Jn Za ?_;refine Jn Za ?_;refine Jn Za ?_;refine Jn Za ?_;refine Jn Za ?_;refine Jn Za ?_;refine Jn Za ?_;refine Jn Za ?_;refine Zp Za ?_;refine Xr Zf ?_;refine dN ?_;refine Zq (aT [1,96,97,98,106,107,108,109,110,111,112,113,114,115,116,117,118,119,120] rfl) ?_;refine Xk rfl rfl ?_;refine sR Y1 rfl ?_;refine aN Za ?_;refine Zq (aT [4] rfl) ?_;refine T.ret ?_;refine Wa ?_;refine Yg ?_;have H:=Wt H i7▸k4;refine Yg ?_;refine Wa ?_;refine Yg ?_;obtain rfl:=ret1 H;exact Zw Za (Res.tmp rfl) Zg ⟨rfl,rfl⟩
    ·
     rcases Zv H with ⟨k5,H⟩ | ⟨k5,H⟩
     ·
      rcases Zv H with ⟨m0,H⟩ | ⟨m0,H⟩
      ·refine rG Y18 rfl ?_;refine Ze Za ?_;refine Ye Zx ?_;refine Ze Za ?_;refine Yn (t:=105) (b':=false) rfl (decide_eq_false j7) ?_;refine Ze Za ?_;refine Ye Zx ?_;refine Ze Za ?_;refine Yn (t:=108) (b':=true) rfl (decide_eq_true k5) ?_;refine Ze Za ?_;refine Zl Za Kj ?_;refine Wz a2 Zf Zs ?_;refine Ye Zx ?_;refine Ze Za ?_;refine Yn (t:=113) (b':=true) rfl (decide_eq_true m0) ?_;refine Zp Za ?_;refine Zp Za ?_;refine Zp Za ?_;refine Zp Za ?_;refine Xr Zf ?_;refine Xr Zf ?_;refine Xp Zf ?_;refine dN ?_;refine Zq (aT [1,96,97,98,106,107,108,109,110,111,112,113,114,115,116,117,118,119,120] rfl) ?_;refine Xk rfl rfl ?_;refine sR Y1 rfl ?_;refine aN Za ?_;refine Zq (aT [4] rfl) ?_;refine T.ret ?_;refine Wa ?_;refine Yg ?_;have H:=Wt H i7▸k4;refine Yg ?_;refine Wa ?_;refine Yg ?_;obtain rfl:=ret1 H;exact Zw Za (Res.tmp rfl) Zg ⟨rfl,rfl⟩
      ·
       refine rG Y18 rfl ?_;refine Ze Za ?_;refine Ye Zx ?_;refine Ze Za ?_;refine Yn (t:=105) (b':=false) rfl (decide_eq_false j7) ?_;refine Ze Za ?_;refine Ye Zx ?_;refine Ze Za ?_;refine Yn (t:=108) (b':=true) rfl (decide_eq_true k5) ?_;refine Ze Za ?_;refine Zl Za Kj ?_;refine Wz a2 Zf Zs ?_;refine Ye Zx ?_;refine Ze Za ?_;refine Yn (t:=113) (b':=false) rfl (decide_eq_false m0) ?_;refine Ze Za ?_;refine Zl Za Ng ?_;refine Wz a2 Zf Zs ?_;refine Ye Zx ?_;refine Xp Zf ?_;refine Xr Zf ?_;refine Xp Zf ?_;refine dN ?_;refine Zq (aT [1,96,97,98,106,107,108,109,110,111,112,113,114,115,116,117,118,119,120] rfl) ?_;rcases Zv H with ⟨m1,H⟩ | ⟨m1,H⟩
       ·refine Wg rfl m1 ?_;refine sR Y1 rfl ?_;refine aN Za ?_;refine Zq (aT [4] rfl) ?_;refine T.ret ?_;refine Wa ?_;refine Yg ?_;have H:=Wt H i7▸k4;refine Yg ?_;refine Wa ?_;refine Yg ?_;obtain rfl:=ret1 H;exact Zw Za (Res.tmp rfl) Zg ⟨rfl,rfl⟩
       ·refine Wd rfl m1 ?_;refine T.skip ?_;refine Vd ?_;refine Yk ?_;obtain ⟨r2,H⟩:=Yh H;refine rG Y2 rfl ?_;refine Xl r2 Zf ?_;refine Ze Za ?_;refine Zm ?_;have H:=Vy H i7;exact Z30 m9 (g6+1) H (Nat.lt_succ_self _) (aF rfl) (Zd Zc Zg)
     ·refine rG Y18 rfl ?_;refine Ze Za ?_;refine Ye Zx ?_;refine Ze Za ?_;refine Yn (t:=105) (b':=false) rfl (decide_eq_false j7) ?_;refine Ze Za ?_;refine Ye Zx ?_;refine Ze Za ?_;refine Yn (t:=108) (b':=false) rfl (decide_eq_false k5) ?_;refine Zp Za ?_;refine Zp Za ?_;refine Zp Za ?_;refine Zp Za ?_;refine Zp Za ?_;refine Jn Za ?_;refine Jn Za ?_;refine Jn Za ?_;refine Jn Za ?_;refine Zp Za ?_;refine Xp Zf ?_;refine Xp Zf ?_;refine dN ?_;refine Zq (aT [1,96,97,98,106,107,108,109,110,111,112,113,114,115,116,117,118,119,120] rfl) ?_;refine Xs rfl rfl ?_;refine T.skip ?_;refine Vd ?_;refine Yk ?_;obtain ⟨r3,H⟩:=Yh H;refine rG Y2 rfl ?_;refine Xl r3 Zf ?_;refine Ze Za ?_;refine Zm ?_;have H:=Vy H i7;exact Z30 m9 (g6+1) H (Nat.lt_succ_self _) (aF rfl) (Zd Zc Zg)
   ·refine Wd rfl l9 ?_;refine T.exit ?_;refine Wh ?_;have H:=Wt H i7▸k4;refine Wh ?_;refine Ud ?_;exact Vb () H Up Zg
  ·rintro l8 H;unfold Z7q at H;refine sR Y1 rfl ?_;refine aN Za ?_;refine T.ret ?_;obtain rfl:=ret1 H;exact Zw Za (Res.tmp rfl) Zg ⟨rfl,rfl⟩
theorem Zg2 {p0 each3_1:Acequialaw16Phase}{picks1:List Int}{most2:Int}{each3_0:Net}{a7 b5 a2 d6 d5 c3 e4 e8 f5 h3:Option Addr}{a6 a5 a4 a8 a9 a3 b6 d3 d1 b8 b9 d4 d7 d8 d9 e6 e5 e9 e7 f6 f4 f3 h5 h1 f2:Nat}{b7:Option Nat}{e2:List Value}{e0:List Nat}{H_:Heap}(w:World)(p6:H_=((some d7,.cells #[sV b7 d8 d9] 95 (0,0))::(eI b7 p0.B.l e2 100)::Yz (Zj (a7,a6,a5) (b5,a4,a8) (a2,a9,a3) (d6,b6,d3) (d5,d1,b8) (c3,b9,d4)) 65 e0 p0.W))(hin:Inv w ((H_:Heap).filterMap Prod.fst) w H_)(j1:RS w ((H_:Heap).filterMap Prod.fst) iC 1 a7 a6 a5 p0.C.First)(j0:RS w ((H_:Heap).filterMap Prod.fst) iC 1 b5 a4 a8 p0.C.Head)(i8:RS w ((H_:Heap).filterMap Prod.fst) iC 1 a2 a9 a3 p0.C.Rev)(i0:p0.B.l.length=d8)(g5:d8≤d9)(g4:(b7=none→d9=0))(f7:RS w ((H_:Heap).filterMap Prod.fst) Xd 1 e4 e6 e5 e0)(i9:e0.length=p0.W.length)(g3:RS w ((H_:Heap).filterMap Prod.fst) (intC .u8) 1 f5 f6 f4 picks1)(h2:HB w ((H_:Heap).filterMap Prod.fst) f3 [iV each3_0.N,iV each3_0.S,iV each3_0.T,.slice h3 h5 h1])(h4:HB w ((H_:Heap).filterMap Prod.fst) f2 [iV each3_1.C.N,iV each3_1.C.S,iV each3_1.C.T,.slice a7 a6 a5,.slice b5 a4 a8,.slice a2 a9 a3,.slice d6 b6 d3,.slice d5 d1 b8,.slice c3 b9 d4,iV each3_1.L.Verts,iV each3_1.L.Arcs,iV each3_1.L.Workers,iV each3_1.L.Room,iV each3_1.L.Res,iV each3_1.L.Ex,iV each3_1.L.H,iV each3_1.L.Flag,iV each3_1.L.Pending,iV each3_1.L.Ask,iV each3_1.L.Count,iV each3_1.L.Sense,iV each3_1.L.Deques,iV each3_1.L.Size,pV d7,.slice e4 e6 e5,.slice e8 e9 e7]){r0:Bool}{o0:CellsBank}{oW:List WorkerWorker}(H:Z5x p0 picks1 most2 each3_0 each3_1=some (r0,o0,oW)):Fnc Tryz.prog 5 #[.agg #[iV p0.C.N,iV p0.C.S,iV p0.C.T,.slice a7 a6 a5,.slice b5 a4 a8,.slice a2 a9 a3,.slice d6 b6 d3,.slice d5 d1 b8,.slice c3 b9 d4,iV p0.L.Verts,iV p0.L.Arcs,iV p0.L.Workers,iV p0.L.Room,iV p0.L.Res,iV p0.L.Ex,iV p0.L.H,iV p0.L.Flag,iV p0.L.Pending,iV p0.L.Ask,iV p0.L.Count,iV p0.L.Sense,iV p0.L.Deques,iV p0.L.Size,pV d7,.slice e4 e6 e5,.slice e8 e9 e7],.slice f5 f6 f4,iV most2,.func (.func 6) #[] #[pV f3,pV f2]] w ((H_:Heap).filterMap Prod.fst) (fun v N=>v=.bool r0∧N=((some d7,.cells #[sV b7 d8 d9] 95 (0,0))::(eI b7 o0.l e2 100)::Yz (Zj (a7,a6,a5) (b5,a4,a8) (a2,a9,a3) (d6,b6,d3) (d5,d1,b8) (c3,b9,d4)) 65 e0 oW)∧o0.l.length=d8∧e0.length=oW.length):=by
 subst p6;unfold Z5x at H;refine Zy (vs:=[.agg #[iV p0.C.N,iV p0.C.S,iV p0.C.T,.slice a7 a6 a5,.slice b5 a4 a8,.slice a2 a9 a3,.slice d6 b6 d3,.slice d5 d1 b8,.slice c3 b9 d4,iV p0.L.Verts,iV p0.L.Arcs,iV p0.L.Workers,iV p0.L.Room,iV p0.L.Res,iV p0.L.Ex,iV p0.L.H,iV p0.L.Flag,iV p0.L.Pending,iV p0.L.Ask,iV p0.L.Count,iV p0.L.Sense,iV p0.L.Deques,iV p0.L.Size,pV d7,.slice e4 e6 e5,.slice e8 e9 e7],.slice f5 f6 f4,iV most2,.func (.func 6) #[] #[pV f3,pV f2]]) Tryz.func5 rfl rfl hin ?_;refine sR Y2 rfl ?_;refine Wy Za ?_;intro b3;refine aN Za ?_;refine Zn ?_;refine sR Y2 rfl ?_;refine Ze Za ?_;refine Ze Za ?_;refine dN ?_;refine Zbx (fun (i4:List Int) (i5:List WorkerWorker)=>Z9l i4 i5=some (r0,o0,oW)∧i4.length=d8∧e0.length=i5.length) (fun (i4:List Int) (i5:List WorkerWorker)=>[]) (fun (i4:List Int) (i5:List WorkerWorker)=>((some d7,.cells #[sV b7 d8 d9] 95 (0,0))::(eI b7 i4 e2 100)::Yz (Zj (a7,a6,a5) (b5,a4,a8) (a2,a9,a3) (d6,b6,d3) (d5,d1,b8) (c3,b9,d4)) 65 e0 i5)) ?_ ?_
 ·
  refine T.block ?_;obtain ⟨n7,n8,k2⟩:=Zk H;refine Zdn (fun (j3:Nat) (g1:List Int) (x7:Int) (g0:List WorkerWorker)=>Xz (fun s=>Z54 p0 picks1 most2 each3_0 each3_1 s.1 s.2.1 s.2.2) j3 (g1,x7,g0)=some n7∧g1.length=d8∧e0.length=g0.length) (fun (j3:Nat) (g1:List Int) (x7:Int) (g0:List WorkerWorker)=>[(1,.slice f5 f6 f4),(3,.func (.func 6) #[] #[pV f3,pV f2]),(4,pV b3),(14,iV most2),(15,iV x7)]) (fun (j3:Nat) (g1:List Int) (x7:Int) (g0:List WorkerWorker)=>((some b3,.cells #[iV p0.C.N,iV p0.C.S,iV p0.C.T,.slice a7 a6 a5,.slice b5 a4 a8,.slice a2 a9 a3,.slice d6 b6 d3,.slice d5 d1 b8,.slice c3 b9 d4,iV p0.L.Verts,iV p0.L.Arcs,iV p0.L.Workers,iV p0.L.Room,iV p0.L.Res,iV p0.L.Ex,iV p0.L.H,iV p0.L.Flag,iV p0.L.Pending,iV p0.L.Ask,iV p0.L.Count,iV p0.L.Sense,iV p0.L.Deques,iV p0.L.Size,pV d7,.slice e4 e6 e5,.slice e8 e9 e7] 36 (0,0))::(eC d7 #[sV b7 d8 d9] 95)::(eI b7 g1 e2 100)::Yz (Zj (a7,a6,a5) (b5,a4,a8) (a2,a9,a3) (d6,b6,d3) (d5,d1,b8) (c3,b9,d4)) 65 e0 g0)) (fun (j3:Nat) (g1:List Int) (x7:Int) (g0:List WorkerWorker)=>j3) Xo p0.B.l 0 p0.W ⟨n8,i0,i9⟩ (aF rfl) (Zd Zc (Zd Zc (Zd Zc (Yb _)))) ?_;rintro j3 g1 x7 g0 ⟨H,j8,g7⟩;obtain ⟨n9,j5,rfl,H,j9⟩:=Uw H;have H:Z54 p0 picks1 most2 each3_0 each3_1 g1 x7 g0=some j5:=H;unfold Z54 at H;refine sR Y1 rfl ?_;refine Ye Zx ?_;refine dS ?_;rcases Zv H with ⟨k3,H⟩ | ⟨k3,H⟩
  ·
   refine Wg rfl k3 ?_;refine T.skip ?_;refine Yk ?_;refine Zn ?_;refine Zbx (fun (h7:List Int) (h8:List WorkerWorker)=>Z3b x7 h7 h8=some j5∧h7.length=d8∧e0.length=h8.length) (fun (h7:List Int) (h8:List WorkerWorker)=>[(1,.slice f5 f6 f4),(3,.func (.func 6) #[] #[pV f3,pV f2]),(4,pV b3),(14,iV most2),(15,iV x7)]) (fun (h7:List Int) (h8:List WorkerWorker)=>((some b3,.cells #[iV p0.C.N,iV p0.C.S,iV p0.C.T,.slice a7 a6 a5,.slice b5 a4 a8,.slice a2 a9 a3,.slice d6 b6 d3,.slice d5 d1 b8,.slice c3 b9 d4,iV p0.L.Verts,iV p0.L.Arcs,iV p0.L.Workers,iV p0.L.Room,iV p0.L.Res,iV p0.L.Ex,iV p0.L.H,iV p0.L.Flag,iV p0.L.Pending,iV p0.L.Ask,iV p0.L.Count,iV p0.L.Sense,iV p0.L.Deques,iV p0.L.Size,pV d7,.slice e4 e6 e5,.slice e8 e9 e7] 36 (0,0))::(eC d7 #[sV b7 d8 d9] 95)::(eI b7 h7 e2 100)::Yz (Zj (a7,a6,a5) (b5,a4,a8) (a2,a9,a3) (d6,b6,d3) (d5,d1,b8) (c3,b9,d4)) 65 e0 h8)) ?_ ?_
   ·
    refine T.block ?_;refine sR Y2 rfl ?_;refine Ze Za ?_;refine aN Za ?_;obtain ⟨o1,H⟩:=Yh H;refine sR Y6 rfl ?_;refine Ze Za ?_;refine Zl Za Gt ?_;refine Zr Za Nb Zi rfl ?_;refine Zc2 (xs:=e0) (m:=g0.length) g7 f7.len Zf Jv ?_;refine TO.rem Zf o1 ?_;refine aN Za ?_;refine Zn ?_;refine sR Y4 rfl ?_;refine Ze Za ?_;refine Ze Za ?_;refine Vq (xs:=picks1) g3.len Zf Z3m ?_;refine Ye Zx ?_;refine dN ?_;refine Zq (aT [1,3,4,14,15,9,10,26] rfl) ?_;refine Vz (fun (f9:Int)=>Z3j p0 each3_0 each3_1 g1 x7 g0 f9=some j5) (fun (f9:Int)=>[(1,.slice f5 f6 f4),(3,.func (.func 6) #[] #[pV f3,pV f2]),(4,pV b3),(10,iV f9),(14,iV most2),(15,iV x7)]) (fun (f9:Int)=>((some b3,.cells #[iV p0.C.N,iV p0.C.S,iV p0.C.T,.slice a7 a6 a5,.slice b5 a4 a8,.slice a2 a9 a3,.slice d6 b6 d3,.slice d5 d1 b8,.slice c3 b9 d4,iV p0.L.Verts,iV p0.L.Arcs,iV p0.L.Workers,iV p0.L.Room,iV p0.L.Res,iV p0.L.Ex,iV p0.L.H,iV p0.L.Flag,iV p0.L.Pending,iV p0.L.Ask,iV p0.L.Count,iV p0.L.Sense,iV p0.L.Deques,iV p0.L.Size,pV d7,.slice e4 e6 e5,.slice e8 e9 e7] 36 (0,0))::(eC d7 #[sV b7 d8 d9] 95)::(eI b7 g1 e2 100)::Yz (Zj (a7,a6,a5) (b5,a4,a8) (a2,a9,a3) (d6,b6,d3) (d5,d1,b8) (c3,b9,d4)) 65 e0 g0)) ?_ ?_
    ·
     rcases Zv H with ⟨k4,H⟩ | ⟨k4,H⟩
     ·refine Wg rfl k4 ?_;obtain ⟨m3,m4,o2,H⟩:=gd3 H;refine Xy 8 [0,1,2,3,4,5,6,7] rfl Xh (by kernel_rfl) (by kernel_rfl) rfl (by kernel_rfl) ?_;refine TQ.move Za ?_;refine TQ.move Za ?_;refine Z05 g3 m3 Zf Z3m Zcm ?_;refine Z0z g3 m3 Za Zop ?_;refine Zli Za Zc6 Zc0 (Nf m4.1 m4.2) ?_;refine Yo Za Gt ?_;refine Yr Za Nb Zi rfl ?_;refine TQ.lenW (xs:=e0) (m:=g0.length) g7 f7.len Zf Jv ?_;refine Xx [8,9] Yt ?_;refine TO.rem Zf o2 ?_;refine Ww Za ?_;refine Zm ?_;exact Vb ((picks1.getD x7.toNat 0).tmod (g0.length:Int)) H (aF rfl) (Zd Zc (Zd Zc (Zd Zc (Yb _))))
     ·refine Wd rfl k4 ?_;refine T.skip ?_;exact Vb (x7.tmod (g0.length:Int)) H (aF rfl) (Zd Zc (Zd Zc (Zd Zc (Yb _))))
    ·
     rintro f9 H;unfold Z3j at H;refine Zn ?_;refine Zn ?_;obtain ⟨e3,m5,H⟩:=Zk H;refine Z3l (bs:=e0) (ws:=g0) (k:=f9) (Es:=[(eC b3 #[iV p0.C.N,iV p0.C.S,iV p0.C.T,.slice a7 a6 a5,.slice b5 a4 a8,.slice a2 a9 a3,.slice d6 b6 d3,.slice d5 d1 b8,.slice c3 b9 d4,iV p0.L.Verts,iV p0.L.Arcs,iV p0.L.Workers,iV p0.L.Room,iV p0.L.Res,iV p0.L.Ex,iV p0.L.H,iV p0.L.Flag,iV p0.L.Pending,iV p0.L.Ask,iV p0.L.Count,iV p0.L.Sense,iV p0.L.Deques,iV p0.L.Size,pV d7,.slice e4 e6 e5,.slice e8 e9 e7] 36),(eC d7 #[sV b7 d8 d9] 95),(eI b7 g1 e2 100)]) g7 m5 Yt ?_;generalize i6:e0.getD f9.toNat 0=k5;refine Z0y (H:=((some k5,.cells (Zj (a7,a6,a5) (b5,a4,a8) (a2,a9,a3) (d6,b6,d3) (d5,d1,b8) (c3,b9,d4) ({ e3 with c:=({ p0.C with N:=e3.c.N,S:=e3.c.S,T:=e3.c.T }:Csr) }:WorkerWorker)).toArray 65 (0,0))::(eC b3 #[iV p0.C.N,iV p0.C.S,iV p0.C.T,.slice a7 a6 a5,.slice b5 a4 a8,.slice a2 a9 a3,.slice d6 b6 d3,.slice d5 d1 b8,.slice c3 b9 d4,iV p0.L.Verts,iV p0.L.Arcs,iV p0.L.Workers,iV p0.L.Room,iV p0.L.Res,iV p0.L.Ex,iV p0.L.H,iV p0.L.Flag,iV p0.L.Pending,iV p0.L.Ask,iV p0.L.Count,iV p0.L.Sense,iV p0.L.Deques,iV p0.L.Size,pV d7,.slice e4 e6 e5,.slice e8 e9 e7] 36)::(eC d7 #[sV b7 d8 d9] 95)::(eI b7 g1 e2 100)::Yz (Zj (a7,a6,a5) (b5,a4,a8) (a2,a9,a3) (d6,b6,d3) (d5,d1,b8) (c3,b9,d4)) 65 (e0.eraseIdx f9.toNat) (g0.eraseIdx f9.toNat))) rfl ?_;obtain ⟨m6,H⟩:=Yh H;obtain ⟨p7,o3,H⟩:=Zk H;refine rG Y6 rfl ?_;refine Zl Za Gt ?_;refine Zr Za Nb Yu rfl ?_;refine Ze Za ?_;refine Gq f7 (Jc g7 m6) Zf Jv Ns ?_;refine Zc4 i6 f7 (Jc g7 m6) Za Z0c ?_;refine Yd Vt Za (fun wc hwc=>Vr (w0:=({ e3 with c:=({ p0.C with N:=e3.c.N,S:=e3.c.S,T:=e3.c.T }:Csr) }:WorkerWorker)) wc (hwc.hb (cs:=(Zj (a7,a6,a5) (b5,a4,a8) (a2,a9,a3) (d6,b6,d3) (d5,d1,b8) (c3,b9,d4) ({ e3 with c:=({ p0.C with N:=e3.c.N,S:=e3.c.S,T:=e3.c.T }:Csr) }:WorkerWorker))) Zi) o3) ?_;rintro _ _ ⟨rfl,rfl⟩;refine Zm ?_;refine Z0b (f:=(Zj (a7,a6,a5) (b5,a4,a8) (a2,a9,a3) (d6,b6,d3) (d5,d1,b8) (c3,b9,d4))) (T':=65) (bs:=e0) (ws:=g0) (p:=f9.toNat) (y:=({ e3 with c:=({ p0.C with N:=e3.c.N,S:=e3.c.S,T:=e3.c.T }:Csr) }:WorkerWorker)) (Es:=[(eC b3 #[iV p0.C.N,iV p0.C.S,iV p0.C.T,.slice a7 a6 a5,.slice b5 a4 a8,.slice a2 a9 a3,.slice d6 b6 d3,.slice d5 d1 b8,.slice c3 b9 d4,iV p0.L.Verts,iV p0.L.Arcs,iV p0.L.Workers,iV p0.L.Room,iV p0.L.Res,iV p0.L.Ex,iV p0.L.H,iV p0.L.Flag,iV p0.L.Pending,iV p0.L.Ask,iV p0.L.Count,iV p0.L.Sense,iV p0.L.Deques,iV p0.L.Size,pV d7,.slice e4 e6 e5,.slice e8 e9 e7] 36),(eC d7 #[sV b7 d8 d9] 95),(eI b7 g1 e2 100)]) g7 (Np m5) i6 (Zd Zc (Zd Zc (Zd Zc (Zd Zc (Yb _))))) ?_;subst i6;refine Lp (H:=((some b3,.cells #[iV p0.C.N,iV p0.C.S,iV p0.C.T,.slice a7 a6 a5,.slice b5 a4 a8,.slice a2 a9 a3,.slice d6 b6 d3,.slice d5 d1 b8,.slice c3 b9 d4,iV p0.L.Verts,iV p0.L.Arcs,iV p0.L.Workers,iV p0.L.Room,iV p0.L.Res,iV p0.L.Ex,iV p0.L.H,iV p0.L.Flag,iV p0.L.Pending,iV p0.L.Ask,iV p0.L.Count,iV p0.L.Sense,iV p0.L.Deques,iV p0.L.Size,pV d7,.slice e4 e6 e5,.slice e8 e9 e7] 36 (0,0))::(eC d7 #[sV b7 d8 d9] 95)::(eI b7 g1 e2 100)::Yz (Zj (a7,a6,a5) (b5,a4,a8) (a2,a9,a3) (d6,b6,d3) (d5,d1,b8) (c3,b9,d4)) 65 e0 (g0.set f9.toNat ({ e3 with c:=({ p0.C with N:=e3.c.N,S:=e3.c.S,T:=e3.c.T }:Csr) }:WorkerWorker)))) rfl ?_;refine Yk ?_;refine Vz (fun (k6:Unit)=>Z7k p0 each3_0 each3_1 g1 x7 g0 f9 e3=some j5) (fun (k6:Unit)=>[(1,.slice f5 f6 f4),(3,.func (.func 6) #[] #[pV f3,pV f2]),(4,pV b3),(10,iV f9),(14,iV most2),(15,iV x7)]) (fun (k6:Unit)=>((some b3,.cells #[iV p0.C.N,iV p0.C.S,iV p0.C.T,.slice a7 a6 a5,.slice b5 a4 a8,.slice a2 a9 a3,.slice d6 b6 d3,.slice d5 d1 b8,.slice c3 b9 d4,iV p0.L.Verts,iV p0.L.Arcs,iV p0.L.Workers,iV p0.L.Room,iV p0.L.Res,iV p0.L.Ex,iV p0.L.H,iV p0.L.Flag,iV p0.L.Pending,iV p0.L.Ask,iV p0.L.Count,iV p0.L.Sense,iV p0.L.Deques,iV p0.L.Size,pV d7,.slice e4 e6 e5,.slice e8 e9 e7] 36 (0,0))::(eC d7 #[sV b7 d8 d9] 95)::(eI b7 g1 e2 100)::Yz (Zj (a7,a6,a5) (b5,a4,a8) (a2,a9,a3) (d6,b6,d3) (d5,d1,b8) (c3,b9,d4)) 65 e0 (g0.set f9.toNat ({ e3 with c:=({ p0.C with N:=e3.c.N,S:=e3.c.S,T:=e3.c.T }:Csr) }:WorkerWorker)))) ?_ ?_
     ·
      rcases Zv H with ⟨k7,H⟩ | ⟨k7,H⟩
      ·
       refine Xk rfl k7 ?_;refine sR Y1 rfl ?_;refine aN Za ?_;refine Zn ?_;refine sR Y4 rfl ?_;refine Zl Za Gt ?_;refine Zr Za Nb Zi rfl ?_;refine Zc2 (xs:=e0) (m:=(g0.set f9.toNat ({ e3 with c:=({ p0.C with N:=e3.c.N,S:=e3.c.S,T:=e3.c.T }:Csr) }:WorkerWorker)).length) (Ue g7) f7.len Zf Jv ?_;refine Ze Za ?_;refine dN ?_;refine Zq (aT [1,3,4,14,15,11,43,44,45] rfl) ?_;refine Zbx (fun (g8:Bool) (h9:List WorkerWorker)=>Z6a g1 x7 g8 h9=some j5∧e0.length=h9.length) (fun (g8:Bool) (h9:List WorkerWorker)=>[(1,.slice f5 f6 f4),(3,.func (.func 6) #[] #[pV f3,pV f2]),(4,pV b3),(11,.bool g8),(14,iV most2),(15,iV x7)]) (fun (g8:Bool) (h9:List WorkerWorker)=>((some b3,.cells #[iV p0.C.N,iV p0.C.S,iV p0.C.T,.slice a7 a6 a5,.slice b5 a4 a8,.slice a2 a9 a3,.slice d6 b6 d3,.slice d5 d1 b8,.slice c3 b9 d4,iV p0.L.Verts,iV p0.L.Arcs,iV p0.L.Workers,iV p0.L.Room,iV p0.L.Res,iV p0.L.Ex,iV p0.L.H,iV p0.L.Flag,iV p0.L.Pending,iV p0.L.Ask,iV p0.L.Count,iV p0.L.Sense,iV p0.L.Deques,iV p0.L.Size,pV d7,.slice e4 e6 e5,.slice e8 e9 e7] 36 (0,0))::(eC d7 #[sV b7 d8 d9] 95)::(eI b7 g1 e2 100)::Yz (Zj (a7,a6,a5) (b5,a4,a8) (a2,a9,a3) (d6,b6,d3) (d5,d1,b8) (c3,b9,d4)) 65 e0 h9)) ?_ ?_
       ·
        refine T.block ?_;obtain ⟨o4,o6,o7⟩:=Zk H;refine Zdn (fun (j4:Nat) (g2:Bool) (g6:Int) (f8:List WorkerWorker)=>Xz (fun s=>Z4g p0 g0 f9 e3 s.1 s.2.1 s.2.2) j4 (g2,g6,f8)=some o4∧e0.length=f8.length) (fun (j4:Nat) (g2:Bool) (g6:Int) (f8:List WorkerWorker)=>[(1,.slice f5 f6 f4),(3,.func (.func 6) #[] #[pV f3,pV f2]),(4,pV b3),(11,.bool g2),(14,iV most2),(15,iV x7),(43,.slice e4 e6 e5),(44,iV ((g0.set f9.toNat ({ e3 with c:=({ p0.C with N:=e3.c.N,S:=e3.c.S,T:=e3.c.T }:Csr) }:WorkerWorker)).length:Int)),(45,iV g6)]) (fun (j4:Nat) (g2:Bool) (g6:Int) (f8:List WorkerWorker)=>((some b3,.cells #[iV p0.C.N,iV p0.C.S,iV p0.C.T,.slice a7 a6 a5,.slice b5 a4 a8,.slice a2 a9 a3,.slice d6 b6 d3,.slice d5 d1 b8,.slice c3 b9 d4,iV p0.L.Verts,iV p0.L.Arcs,iV p0.L.Workers,iV p0.L.Room,iV p0.L.Res,iV p0.L.Ex,iV p0.L.H,iV p0.L.Flag,iV p0.L.Pending,iV p0.L.Ask,iV p0.L.Count,iV p0.L.Sense,iV p0.L.Deques,iV p0.L.Size,pV d7,.slice e4 e6 e5,.slice e8 e9 e7] 36 (0,0))::(eC d7 #[sV b7 d8 d9] 95)::(eI b7 g1 e2 100)::Yz (Zj (a7,a6,a5) (b5,a4,a8) (a2,a9,a3) (d6,b6,d3) (d5,d1,b8) (c3,b9,d4)) 65 e0 f8)) (fun (j4:Nat) (g2:Bool) (g6:Int) (f8:List WorkerWorker)=>j4) Xo true 0 (g0.set f9.toNat ({ e3 with c:=({ p0.C with N:=e3.c.N,S:=e3.c.S,T:=e3.c.T }:Csr) }:WorkerWorker)) ⟨o6,(Ue g7)⟩ (aF rfl) (Zd Zc (Zd Zc (Zd Zc (Yb _)))) ?_;rintro j4 g2 g6 f8 ⟨H,g9⟩;obtain ⟨m7,o8,rfl,H,k8⟩:=Uw H;have H:Z4g p0 g0 f9 e3 g2 g6 f8=some o8:=H;unfold Z4g at H;refine sR Y1 rfl ?_;refine Ye Zx ?_;refine dS ?_;rcases Zv H with ⟨k9,H⟩ | ⟨k9,H⟩
        ·
         refine Wg rfl k9 ?_;refine T.skip ?_;refine Yk ?_;refine Zn ?_;refine T.block ?_;obtain ⟨m8,H⟩:=Yh H;refine sR Y3 rfl ?_;refine Gq f7 (Jc g9 m8) Zf Jv Ns ?_;refine Zc4 rfl f7 (Jc g9 m8) Za Z0c ?_;refine aN Za ?_;obtain ⟨f1,l3,H⟩:=Zk H;refine Z3l (bs:=e0) (ws:=f8) (k:=g6) (Es:=[(eC b3 #[iV p0.C.N,iV p0.C.S,iV p0.C.T,.slice a7 a6 a5,.slice b5 a4 a8,.slice a2 a9 a3,.slice d6 b6 d3,.slice d5 d1 b8,.slice c3 b9 d4,iV p0.L.Verts,iV p0.L.Arcs,iV p0.L.Workers,iV p0.L.Room,iV p0.L.Res,iV p0.L.Ex,iV p0.L.H,iV p0.L.Flag,iV p0.L.Pending,iV p0.L.Ask,iV p0.L.Count,iV p0.L.Sense,iV p0.L.Deques,iV p0.L.Size,pV d7,.slice e4 e6 e5,.slice e8 e9 e7] 36),(eC d7 #[sV b7 d8 d9] 95),(eI b7 g1 e2 100)]) g9 l3 Yt ?_;generalize i2:e0.getD g6.toNat 0=l4;refine Z0y (H:=((some l4,.cells (Zj (a7,a6,a5) (b5,a4,a8) (a2,a9,a3) (d6,b6,d3) (d5,d1,b8) (c3,b9,d4) ({ f1 with c:=({ p0.C with N:=f1.c.N,S:=f1.c.S,T:=f1.c.T }:Csr) }:WorkerWorker)).toArray 65 (0,0))::(eC b3 #[iV p0.C.N,iV p0.C.S,iV p0.C.T,.slice a7 a6 a5,.slice b5 a4 a8,.slice a2 a9 a3,.slice d6 b6 d3,.slice d5 d1 b8,.slice c3 b9 d4,iV p0.L.Verts,iV p0.L.Arcs,iV p0.L.Workers,iV p0.L.Room,iV p0.L.Res,iV p0.L.Ex,iV p0.L.H,iV p0.L.Flag,iV p0.L.Pending,iV p0.L.Ask,iV p0.L.Count,iV p0.L.Sense,iV p0.L.Deques,iV p0.L.Size,pV d7,.slice e4 e6 e5,.slice e8 e9 e7] 36)::(eC d7 #[sV b7 d8 d9] 95)::(eI b7 g1 e2 100)::Yz (Zj (a7,a6,a5) (b5,a4,a8) (a2,a9,a3) (d6,b6,d3) (d5,d1,b8) (c3,b9,d4)) 65 (e0.eraseIdx g6.toNat) (f8.eraseIdx g6.toNat))) rfl ?_;rcases Zv H with ⟨l5,H⟩ | ⟨l5,H⟩
         ·obtain ⟨o9,p1,H⟩:=Zk H;refine rG Y6 rfl ?_;refine Ze Za ?_;refine Ze Za ?_;refine Yn (t:=50) (b':=true) rfl l5 ?_;refine Ze Za ?_;refine Yd Vt Za (fun wc hwc=>Vr (w0:=({ f1 with c:=({ p0.C with N:=f1.c.N,S:=f1.c.S,T:=f1.c.T }:Csr) }:WorkerWorker)) wc (hwc.hb (cs:=(Zj (a7,a6,a5) (b5,a4,a8) (a2,a9,a3) (d6,b6,d3) (d5,d1,b8) (c3,b9,d4) ({ f1 with c:=({ p0.C with N:=f1.c.N,S:=f1.c.S,T:=f1.c.T }:Csr) }:WorkerWorker))) Zi) p1) ?_;rintro _ _ ⟨rfl,rfl⟩;refine Xr Zf ?_;refine Ww Za ?_;refine Zm ?_;refine Z0b (f:=(Zj (a7,a6,a5) (b5,a4,a8) (a2,a9,a3) (d6,b6,d3) (d5,d1,b8) (c3,b9,d4))) (T':=65) (bs:=e0) (ws:=f8) (p:=g6.toNat) (y:=({ f1 with c:=({ p0.C with N:=f1.c.N,S:=f1.c.S,T:=f1.c.T }:Csr) }:WorkerWorker)) (Es:=[(eC b3 #[iV p0.C.N,iV p0.C.S,iV p0.C.T,.slice a7 a6 a5,.slice b5 a4 a8,.slice a2 a9 a3,.slice d6 b6 d3,.slice d5 d1 b8,.slice c3 b9 d4,iV p0.L.Verts,iV p0.L.Arcs,iV p0.L.Workers,iV p0.L.Room,iV p0.L.Res,iV p0.L.Ex,iV p0.L.H,iV p0.L.Flag,iV p0.L.Pending,iV p0.L.Ask,iV p0.L.Count,iV p0.L.Sense,iV p0.L.Deques,iV p0.L.Size,pV d7,.slice e4 e6 e5,.slice e8 e9 e7] 36),(eC d7 #[sV b7 d8 d9] 95),(eI b7 g1 e2 100)]) g9 (Np l3) i2 (Zd Zc (Zd Zc (Zd Zc (Zd Zc (Yb _))))) ?_;subst i2;refine Lp (H:=((some b3,.cells #[iV p0.C.N,iV p0.C.S,iV p0.C.T,.slice a7 a6 a5,.slice b5 a4 a8,.slice a2 a9 a3,.slice d6 b6 d3,.slice d5 d1 b8,.slice c3 b9 d4,iV p0.L.Verts,iV p0.L.Arcs,iV p0.L.Workers,iV p0.L.Room,iV p0.L.Res,iV p0.L.Ex,iV p0.L.H,iV p0.L.Flag,iV p0.L.Pending,iV p0.L.Ask,iV p0.L.Count,iV p0.L.Sense,iV p0.L.Deques,iV p0.L.Size,pV d7,.slice e4 e6 e5,.slice e8 e9 e7] 36 (0,0))::(eC d7 #[sV b7 d8 d9] 95)::(eI b7 g1 e2 100)::Yz (Zj (a7,a6,a5) (b5,a4,a8) (a2,a9,a3) (d6,b6,d3) (d5,d1,b8) (c3,b9,d4)) 65 e0 (f8.set g6.toNat ({ f1 with c:=({ p0.C with N:=f1.c.N,S:=f1.c.S,T:=f1.c.T }:Csr) }:WorkerWorker)))) rfl ?_;refine Vd ?_;refine Yk ?_;obtain ⟨p2,H⟩:=Yh H;refine rG Y2 rfl ?_;refine Xl p2 Zf ?_;refine Ze Za ?_;refine Zm ?_;have H:=Vy H k8;exact Zcu m7 o9 (g6+1) (f8.set g6.toNat ({ f1 with c:=({ p0.C with N:=f1.c.N,S:=f1.c.S,T:=f1.c.T }:Csr) }:WorkerWorker)) ⟨H,(Ue g9)⟩ (Nat.lt_succ_self _) (aF rfl) (Zd Zc (Zd Zc (Zd Zc (Yb _))))
         ·refine rG Y6 rfl ?_;refine Ze Za ?_;refine Ze Za ?_;refine Yn (t:=50) (b':=false) rfl (Bool.eq_false_iff.2 l5) ?_;refine Zp Za ?_;refine Zp Za ?_;refine Xp Zf ?_;refine Ww Za ?_;refine Zm ?_;refine Z0b (f:=(Zj (a7,a6,a5) (b5,a4,a8) (a2,a9,a3) (d6,b6,d3) (d5,d1,b8) (c3,b9,d4))) (T':=65) (bs:=e0) (ws:=f8) (p:=g6.toNat) (y:=({ f1 with c:=({ p0.C with N:=f1.c.N,S:=f1.c.S,T:=f1.c.T }:Csr) }:WorkerWorker)) (Es:=[(eC b3 #[iV p0.C.N,iV p0.C.S,iV p0.C.T,.slice a7 a6 a5,.slice b5 a4 a8,.slice a2 a9 a3,.slice d6 b6 d3,.slice d5 d1 b8,.slice c3 b9 d4,iV p0.L.Verts,iV p0.L.Arcs,iV p0.L.Workers,iV p0.L.Room,iV p0.L.Res,iV p0.L.Ex,iV p0.L.H,iV p0.L.Flag,iV p0.L.Pending,iV p0.L.Ask,iV p0.L.Count,iV p0.L.Sense,iV p0.L.Deques,iV p0.L.Size,pV d7,.slice e4 e6 e5,.slice e8 e9 e7] 36),(eC d7 #[sV b7 d8 d9] 95),(eI b7 g1 e2 100)]) g9 (Np l3) i2 (Zd Zc (Zd Zc (Zd Zc (Zd Zc (Yb _))))) ?_;subst i2;refine Lp (H:=((some b3,.cells #[iV p0.C.N,iV p0.C.S,iV p0.C.T,.slice a7 a6 a5,.slice b5 a4 a8,.slice a2 a9 a3,.slice d6 b6 d3,.slice d5 d1 b8,.slice c3 b9 d4,iV p0.L.Verts,iV p0.L.Arcs,iV p0.L.Workers,iV p0.L.Room,iV p0.L.Res,iV p0.L.Ex,iV p0.L.H,iV p0.L.Flag,iV p0.L.Pending,iV p0.L.Ask,iV p0.L.Count,iV p0.L.Sense,iV p0.L.Deques,iV p0.L.Size,pV d7,.slice e4 e6 e5,.slice e8 e9 e7] 36 (0,0))::(eC d7 #[sV b7 d8 d9] 95)::(eI b7 g1 e2 100)::Yz (Zj (a7,a6,a5) (b5,a4,a8) (a2,a9,a3) (d6,b6,d3) (d5,d1,b8) (c3,b9,d4)) 65 e0 (f8.set g6.toNat ({ f1 with c:=({ p0.C with N:=f1.c.N,S:=f1.c.S,T:=f1.c.T }:Csr) }:WorkerWorker)))) rfl ?_;refine Vd ?_;refine Yk ?_;obtain ⟨p3,H⟩:=Yh H;refine rG Y2 rfl ?_;refine Xl p3 Zf ?_;refine Ze Za ?_;refine Zm ?_;have H:=Vy H k8;exact Zcu m7 false (g6+1) (f8.set g6.toNat ({ f1 with c:=({ p0.C with N:=f1.c.N,S:=f1.c.S,T:=f1.c.T }:Csr) }:WorkerWorker)) ⟨H,(Ue g9)⟩ (Nat.lt_succ_self _) (aF rfl) (Zd Zc (Zd Zc (Zd Zc (Yb _))))
        ·refine Wd rfl k9 ?_;refine T.exit ?_;refine Wh ?_;have H:=Wt H k8▸o7;refine Wh ?_;refine Ud ?_;exact Z9j g2 f8 ⟨H,g9⟩ (aF rfl) (Zd Zc (Zd Zc (Zd Zc (Yb _))))
       ·
        rintro g8 h9 ⟨H,j6⟩;unfold Z6a at H;refine Zn ?_;refine sR Y1 rfl ?_;refine Ze Za ?_;refine dN ?_;rcases Zv H with ⟨l6,H⟩ | ⟨l6,H⟩
        ·refine Xk rfl l6 ?_;refine sR Y1 rfl ?_;refine aN Za ?_;refine T.ret ?_;refine Yg ?_;refine Yg ?_;refine Wa ?_;refine Yg ?_;have H:=Wt H j9▸k2;refine Yg ?_;refine Wa ?_;refine Yg ?_;obtain ⟨rfl,rfl,rfl⟩:=ret3 H;exact Zw Za (Res.tmp rfl) (Zd Zt (Zd Zt (Pick.skip (Yb _)))) ⟨rfl,rfl,j8,j6⟩
        ·refine Xs rfl (Bool.eq_false_iff.2 l6) ?_;refine T.skip ?_;refine Yk ?_;refine T.exit ?_;refine Wh ?_;refine Ud ?_;exact Z9j g1 h9 ⟨H,j8,j6⟩ (aF rfl) (Zd Zc (Zd Zc (Zd Zc (Yb _))))
      ·refine Xs rfl (Bool.eq_false_iff.2 k7) ?_;refine T.skip ?_;exact Vb () H (aF rfl) (Zd Zc (Zd Zc (Zd Zc (Yb _))))
     ·
      rintro k6 H;unfold Z7k at H;refine Zn ?_;obtain ⟨h0,m9,H⟩:=Zk H;refine Z3l (bs:=e0) (ws:=(g0.set f9.toNat ({ e3 with c:=({ p0.C with N:=e3.c.N,S:=e3.c.S,T:=e3.c.T }:Csr) }:WorkerWorker))) (k:=f9) (Es:=[(eC b3 #[iV p0.C.N,iV p0.C.S,iV p0.C.T,.slice a7 a6 a5,.slice b5 a4 a8,.slice a2 a9 a3,.slice d6 b6 d3,.slice d5 d1 b8,.slice c3 b9 d4,iV p0.L.Verts,iV p0.L.Arcs,iV p0.L.Workers,iV p0.L.Room,iV p0.L.Res,iV p0.L.Ex,iV p0.L.H,iV p0.L.Flag,iV p0.L.Pending,iV p0.L.Ask,iV p0.L.Count,iV p0.L.Sense,iV p0.L.Deques,iV p0.L.Size,pV d7,.slice e4 e6 e5,.slice e8 e9 e7] 36),(eC d7 #[sV b7 d8 d9] 95),(eI b7 g1 e2 100)]) (Ue g7) m9 Yt ?_;generalize i7:e0.getD f9.toNat 0=l7;refine Z0y (H:=((some l7,.cells (Zj (a7,a6,a5) (b5,a4,a8) (a2,a9,a3) (d6,b6,d3) (d5,d1,b8) (c3,b9,d4) ({ h0 with c:=({ p0.C with N:=h0.c.N,S:=h0.c.S,T:=h0.c.T }:Csr) }:WorkerWorker)).toArray 65 (0,0))::(eC b3 #[iV p0.C.N,iV p0.C.S,iV p0.C.T,.slice a7 a6 a5,.slice b5 a4 a8,.slice a2 a9 a3,.slice d6 b6 d3,.slice d5 d1 b8,.slice c3 b9 d4,iV p0.L.Verts,iV p0.L.Arcs,iV p0.L.Workers,iV p0.L.Room,iV p0.L.Res,iV p0.L.Ex,iV p0.L.H,iV p0.L.Flag,iV p0.L.Pending,iV p0.L.Ask,iV p0.L.Count,iV p0.L.Sense,iV p0.L.Deques,iV p0.L.Size,pV d7,.slice e4 e6 e5,.slice e8 e9 e7] 36)::(eC d7 #[sV b7 d8 d9] 95)::(eI b7 g1 e2 100)::Yz (Zj (a7,a6,a5) (b5,a4,a8) (a2,a9,a3) (d6,b6,d3) (d5,d1,b8) (c3,b9,d4)) 65 (e0.eraseIdx f9.toNat) ((g0.set f9.toNat ({ e3 with c:=({ p0.C with N:=e3.c.N,S:=e3.c.S,T:=e3.c.T }:Csr) }:WorkerWorker)).eraseIdx f9.toNat))) rfl ?_;obtain ⟨n6,H⟩:=Yh H;obtain ⟨⟨p8,h6,j7⟩,e56,H⟩:=Zk H;refine Xy 7 [0,1,2,3,4,5,6] rfl Xh (by kernel_rfl) (by kernel_rfl) rfl (by kernel_rfl) ?_;refine Yo Za Gt ?_;refine Yr Za Nb Yu rfl ?_;refine TQ.move Za ?_;refine Z05 f7 (Jc (Ue g7) n6) Zf Jv Ns ?_;refine TQ.ldPR i7 f7 (Jc (Ue g7) n6) Za Z0c ?_;refine Yo Za Lu ?_;refine Yr Za Re Yu rfl ?_;refine Xx [7] Yt ?_;refine Ys Ze3 Za (Zh Zc (Zh Zt (Zh Zt (Gone.refl _)))) rfl (fun wc hwc=>Zfu (w0:=({ h0 with c:=({ p0.C with N:=h0.c.N,S:=h0.c.S,T:=h0.c.T }:Csr) }:WorkerWorker)) (b1:=(CellsBank.mk g1)) wc rfl (hwc.self (Zd Zc (Zd Zt (Zd Zt Zg))) rfl) (j1.monoM (by decide) hwc (Zh Zc (Zh Zt (Zh Zt (Gone.refl _)))) rfl) (j0.monoM (by decide) hwc (Zh Zc (Zh Zt (Zh Zt (Gone.refl _)))) rfl) (i8.monoM (by decide) hwc (Zh Zc (Zh Zt (Zh Zt (Gone.refl _)))) rfl) j8 g5 g4 e56) ?_;rintro _ _ ⟨rfl,rfl,j2⟩;refine Zm ?_;refine Z0b (f:=(Zj (a7,a6,a5) (b5,a4,a8) (a2,a9,a3) (d6,b6,d3) (d5,d1,b8) (c3,b9,d4))) (T':=65) (bs:=e0) (ws:=(g0.set f9.toNat ({ e3 with c:=({ p0.C with N:=e3.c.N,S:=e3.c.S,T:=e3.c.T }:Csr) }:WorkerWorker))) (p:=f9.toNat) (y:=({ h6 with c:=({ p0.C with N:=h6.c.N,S:=h6.c.S,T:=h6.c.T }:Csr) }:WorkerWorker)) (Es:=[(eC d7 #[sV b7 d8 d9] 95),(eI b7 j7.l e2 100),(eC b3 #[iV p0.C.N,iV p0.C.S,iV p0.C.T,.slice a7 a6 a5,.slice b5 a4 a8,.slice a2 a9 a3,.slice d6 b6 d3,.slice d5 d1 b8,.slice c3 b9 d4,iV p0.L.Verts,iV p0.L.Arcs,iV p0.L.Workers,iV p0.L.Room,iV p0.L.Res,iV p0.L.Ex,iV p0.L.H,iV p0.L.Flag,iV p0.L.Pending,iV p0.L.Ask,iV p0.L.Count,iV p0.L.Sense,iV p0.L.Deques,iV p0.L.Size,pV d7,.slice e4 e6 e5,.slice e8 e9 e7] 36)]) (Ue g7) (Np m9) i7 (Zd Zc (Zd Zc (Zd Zc (Zd Zc (Yb _))))) ?_;subst i7;refine Lp (H:=((some d7,.cells #[sV b7 d8 d9] 95 (0,0))::(eI b7 j7.l e2 100)::(eC b3 #[iV p0.C.N,iV p0.C.S,iV p0.C.T,.slice a7 a6 a5,.slice b5 a4 a8,.slice a2 a9 a3,.slice d6 b6 d3,.slice d5 d1 b8,.slice c3 b9 d4,iV p0.L.Verts,iV p0.L.Arcs,iV p0.L.Workers,iV p0.L.Room,iV p0.L.Res,iV p0.L.Ex,iV p0.L.H,iV p0.L.Flag,iV p0.L.Pending,iV p0.L.Ask,iV p0.L.Count,iV p0.L.Sense,iV p0.L.Deques,iV p0.L.Size,pV d7,.slice e4 e6 e5,.slice e8 e9 e7] 36)::Yz (Zj (a7,a6,a5) (b5,a4,a8) (a2,a9,a3) (d6,b6,d3) (d5,d1,b8) (c3,b9,d4)) 65 e0 ((g0.set f9.toNat ({ e3 with c:=({ p0.C with N:=e3.c.N,S:=e3.c.S,T:=e3.c.T }:Csr) }:WorkerWorker)).set f9.toNat ({ h6 with c:=({ p0.C with N:=h6.c.N,S:=h6.c.S,T:=h6.c.T }:Csr) }:WorkerWorker)))) rfl ?_;refine Yk ?_;refine Zq (aT [1,3,4,10,14,15] rfl) ?_;refine Zn ?_;obtain ⟨p9,p4,H⟩:=Zk H;refine rG Y4 rfl ?_;refine Ze Za ?_;refine Ze Za ?_;refine Jt Zqo Zf (fun wc hwc=>Zpl (k0:=f9) (c1:=each3_0) (c2:=(Acequialaw16Phase.mk ({ p0.C with N:=each3_1.C.N,S:=each3_1.C.S,T:=each3_1.C.T }:Csr) each3_1.L j7 ((g0.set f9.toNat ({ e3 with c:=({ p0.C with N:=e3.c.N,S:=e3.c.S,T:=e3.c.T }:Csr) }:WorkerWorker)).set f9.toNat ({ h6 with c:=({ p0.C with N:=h6.c.N,S:=h6.c.S,T:=h6.c.T }:Csr) }:WorkerWorker)) p0.Dealt)) wc (h2.mono hwc) (Kg hwc Yu j2 g5 g4) (hwc.hb (cs:=[sV b7 d8 d9]) Zi) (f7.mono hwc) (Ue (Ue g7)) (Inv.famW (Es:=[(eC d7 #[sV b7 d8 d9] 95),(eI b7 j7.l e2 100),(eC b3 #[iV p0.C.N,iV p0.C.S,iV p0.C.T,.slice a7 a6 a5,.slice b5 a4 a8,.slice a2 a9 a3,.slice d6 b6 d3,.slice d5 d1 b8,.slice c3 b9 d4,iV p0.L.Verts,iV p0.L.Arcs,iV p0.L.Workers,iV p0.L.Room,iV p0.L.Res,iV p0.L.Ex,iV p0.L.H,iV p0.L.Flag,iV p0.L.Pending,iV p0.L.Ask,iV p0.L.Count,iV p0.L.Sense,iV p0.L.Deques,iV p0.L.Size,pV d7,.slice e4 e6 e5,.slice e8 e9 e7] 36)]) (f:=(Zj (a7,a6,a5) (b5,a4,a8) (a2,a9,a3) (d6,b6,d3) (d5,d1,b8) (c3,b9,d4))) (T:=65) hwc (Ue (Ue g7))) (h4.mono hwc) p4) ?_;rintro _ _ ⟨rfl,rfl⟩;refine TO.not Za ?_;refine dN ?_;rcases Zv H with ⟨l8,H⟩ | ⟨l8,H⟩
      ·refine Xk rfl l8 ?_;refine sR Y1 rfl ?_;refine aN Za ?_;refine Zq (aT [8] rfl) ?_;refine T.ret ?_;refine Wa ?_;refine Yg ?_;have H:=Wt H j9▸k2;refine Yg ?_;refine Wa ?_;refine Yg ?_;obtain ⟨rfl,rfl,rfl⟩:=ret3 H;exact Zw Za (Res.tmp rfl) (Zd Zc (Zd Zc (Pick.skip (Yb _)))) ⟨rfl,rfl,j2,(Ue (Ue g7))⟩
      ·refine Xs rfl (Bool.eq_false_iff.2 l8) ?_;refine T.skip ?_;refine Vd ?_;exact Z9j j7.l ((g0.set f9.toNat ({ e3 with c:=({ p0.C with N:=e3.c.N,S:=e3.c.S,T:=e3.c.T }:Csr) }:WorkerWorker)).set f9.toNat ({ h6 with c:=({ p0.C with N:=h6.c.N,S:=h6.c.S,T:=h6.c.T }:Csr) }:WorkerWorker)) ⟨H,j2,(Ue (Ue g7))⟩ (aF rfl) (Zd Zz (Zd Zc (Zd Zc (Yb _))))
   ·rintro h7 h8 ⟨H,l9,m0⟩;unfold Z3b at H;obtain ⟨p5,H⟩:=Yh H;refine rG Y2 rfl ?_;refine Xl p5 Zf ?_;refine Ze Za ?_;refine Zm ?_;have H:=Vy H j9;exact Zcu n9 h7 (x7+1) h8 ⟨H,l9,m0⟩ (Nat.lt_succ_self _) (aF rfl) (Zd Zc (Zd Zc (Zd Zc (Yb _))))
  ·refine Wd rfl k3 ?_;refine T.exit ?_;refine Wh ?_;have H:=Wt H j9▸k2;refine Wh ?_;refine Ud ?_;exact Z9j g1 g0 ⟨H,j8,g7⟩ Up (Zd Zt (Zd Zt (Pick.skip (Yb _))))
 ·rintro i4 i5 ⟨H,m1,m2⟩;unfold Z9l at H;refine sR Y1 rfl ?_;refine aN Za ?_;refine T.ret ?_;obtain ⟨rfl,rfl,rfl⟩:=ret3 H;exact Zw Za (Res.tmp rfl) (Zd Zc (Zd Zc (Yb _))) ⟨rfl,rfl,m1,m2⟩
theorem Zou {w0:WorkerWorker}{a9:Nat}{a2 a5 a7 a3 a8 a6:Option Addr×Nat×Nat}(w:World)(a4:HB w [] a9 (Zj a2 a5 a7 a3 a8 a6 w0)){r0:Int}(H:Zce w0=some r0):Fnc Tryz.prog 23 #[pV a9] w [] (fun v N=>v=iV r0∧N=[]):=by
 unfold Zce at H;refine Zy (vs:=[pV a9]) Tryz.func23 rfl rfl (Inv.refl w) ?_;refine sR Y1 rfl ?_;refine aN Za ?_;refine Zn ?_;refine Zn ?_;obtain ⟨r1,e2,H⟩:=Zk H;refine rG Y2 rfl ?_;refine Ze Za ?_;refine Yd Z1y Za (fun wc hwc=>Z2k (w0:=w0) wc (a4.mono hwc) e2) ?_;rintro _ _ ⟨rfl,rfl⟩;refine dN ?_;rcases Zv H with ⟨g3,H⟩ | ⟨g3,H⟩
 ·refine Xk rfl g3 ?_;refine sR Y1 rfl ?_;refine aN Za ?_;refine T.ret ?_;refine Yg ?_;obtain rfl:=ret1 H;exact Zw Za (Res.tmp rfl) Zg ⟨rfl,rfl⟩
 ·refine Xs rfl (Bool.eq_false_iff.2 g3) ?_;refine T.skip ?_;refine Yk ?_;refine sR Y5 rfl ?_;refine Ze Za ?_;refine TO.nilCheck Za ?_;refine Zl Za Za7 ?_;refine Wz a4 Zf Zs ?_;refine aN Za ?_;refine T.ret ?_;obtain rfl:=ret1 H;exact Zw Za (Res.tmp rfl) Zg ⟨rfl,rfl⟩
theorem Zoe (w:World){r0:Bool}(H:Zae=some r0):Fnc Tryz.prog 10 #[] w [] (fun v N=>v=.bool r0∧N=[]):=by
 unfold Zae at H;refine Zy (vs:=[]) Tryz.func10 rfl rfl (Inv.refl w) ?_;refine sR Y1 rfl ?_;refine aN Za ?_;refine Zn ?_;obtain ⟨⟨r3,r4⟩,e5,H⟩:=Zk H;refine rG Y11 rfl ?_;refine Yx (t:=72) [iV 0,iV 0,iV 0] [0,1,2] Za (by simp only [Yq,setCells,Value.cells,List.toList_toArray,List.getD_cons_zero,List.getD_cons_succ,List.set_cons_zero,List.set_cons_succ];rfl) (by kernel_rfl) ?_;refine Yx (t:=72) [iV 0,iV 0,iV 0] [0,1,2] Za (by simp only [Yq,setCells,Value.cells,List.toList_toArray,List.getD_cons_zero,List.getD_cons_succ,List.set_cons_zero,List.set_cons_succ];rfl) (by kernel_rfl) ?_;refine Ju [iV 0,iV 0,iV 0,iV 0,iV 0,iV 0] [0,3] Za Ke Jq Z0r Yt (by simp only [Yq,setCells,Value.cells,List.toList_toArray,List.getD_cons_zero,List.getD_cons_succ,List.set_cons_zero,List.set_cons_succ];rfl) (by kernel_rfl) ?_;intro b1;refine Yx (t:=24) [iV 0,iV 0,iV 0,.slice none 0 0] [0,1,2,3] Za (by simp only [Yq,setCells,Value.cells,List.toList_toArray,List.getD_cons_zero,List.getD_cons_succ,List.set_cons_zero,List.set_cons_succ];rfl) (by kernel_rfl) ?_;refine Yd Zf6 Za (fun wc hwc=>Zet (n0:=(Net.mk 3 0 2 ([(Arc.mk 0 1 5),(Arc.mk 1 2 3)]))) (workers1:=1) (limit2:=9) wc (hwc.rs (f:=Xj) (s:=3) (xs:=[(Arc.mk 0 1 5),(Arc.mk 1 2 3)]) (j:=([])) (fun _=>rfl) Zi rfl (Nat.le_refl _) Vx) e5) ?_;rintro _ _ ⟨c3,n7,c8,j9,a4,d8,c12,f6,a5,d9,c16,f7,a6,e0,c20,f8,a7,e2,c24,f9,a8,n27,c28,g0,e4,b5,n32,c33,g1,b7,n36,c37,g2,a9,b8,g5,c42,g3,rfl,rfl,n6,n8,s1,n9,o0,o1,s6,o2,o3,o4,s7,o6,s8,s9,t0,t1,t2,t3,t4,t5,t6,t7,t8,t9,o7,i4,u1,i5,h0,h1,u2,h2,o8,o9,p1,u3,p2⟩;refine Z50 (Hs:=[(eI c3 r3.C.First j9 3),(eI a4 r3.C.Head f6 3),(eI a5 r3.C.Rev f7 3),(eI a6 r3.C.Cap f8 2),(eI a7 r3.C.Arc f9 3),(eA a8 boolC r3.C.Back g0 4),(eC e4 #[sV b5 n32 c33] 95),(eI b5 r3.B.l g1 100),(eA b7 Xd a9 g2 40),(eI b8 r3.Dealt g3 3)]) (HE:=[(eA (some b1) Xj ([(Arc.mk 0 1 5),(Arc.mk 1 2 3)]) ([]) 72)]) (Tl:=Yz (Zj ((sb c3),n7,c8) ((sb a4),d8,c12) ((sb a5),d9,c16) ((sb a6),e0,c20) ((sb a7),e2,c24) ((sb a8),n27,c28)) 65 a9 r3.W) ?_;refine Ux (H:=((eI c3 r3.C.First j9 3)::(eI a4 r3.C.Head f6 3)::(eI a5 r3.C.Rev f7 3)::(eI a6 r3.C.Cap f8 2)::(eI a7 r3.C.Arc f9 3)::(eA a8 boolC r3.C.Back g0 4)::(eC e4 #[sV b5 n32 c33] 95)::(eI b5 r3.B.l g1 100)::(eA b7 Xd a9 g2 40)::(eI b8 r3.Dealt g3 3)::(eA (some b1) Xj ([(Arc.mk 0 1 5),(Arc.mk 1 2 3)]) ([]) 72)::Yz (Zj ((sb c3),n7,c8) ((sb a4),d8,c12) ((sb a5),d9,c16) ((sb a6),e0,c20) ((sb a7),e2,c24) ((sb a8),n27,c28)) 65 a9 r3.W)) rfl ?_;refine Ze Za ?_;refine TO.extract Zf ?_;refine TO.extract Zf ?_;refine Wk Zu Z1t ?_;intro f4;refine Wb Za Zc Z2c Zu ?_;refine aN Za ?_;refine Zq (aT [1,2] rfl) ?_;refine Zn ?_;refine Zn ?_;rcases Zv H with ⟨p3,H⟩ | ⟨p3,H⟩
 ·refine rG Y9 rfl ?_;refine Ze Za ?_;refine TO.not Za ?_;refine Ze Za ?_;refine Yn (t:=17) (b':=true) rfl p3 ?_;refine Zp Za ?_;refine Zp Za ?_;refine Zp Za ?_;refine Zp Za ?_;refine Zp Za ?_;refine Xr Zf ?_;refine dN ?_;refine Zq (aT [1,23] rfl) ?_;refine Xk rfl rfl ?_;refine sR Y1 rfl ?_;refine aN Za ?_;refine T.ret ?_;refine Yg ?_;refine Lo (Hs:=[(eC f4 #[iV r3.C.N,iV r3.C.S,iV r3.C.T,sV c3 n7 c8,sV a4 d8 c12,sV a5 d9 c16,sV a6 e0 c20,sV a7 e2 c24,sV a8 n27 c28,iV r3.L.Verts,iV r3.L.Arcs,iV r3.L.Workers,iV r3.L.Room,iV r3.L.Res,iV r3.L.Ex,iV r3.L.H,iV r3.L.Flag,iV r3.L.Pending,iV r3.L.Ask,iV r3.L.Count,iV r3.L.Sense,iV r3.L.Deques,iV r3.L.Size,pV e4,sV b7 n36 c37,sV b8 g5 c42] 36),(eI c3 r3.C.First j9 3),(eI a4 r3.C.Head f6 3),(eI a5 r3.C.Rev f7 3),(eI a6 r3.C.Cap f8 2),(eI a7 r3.C.Arc f9 3),(eA a8 boolC r3.C.Back g0 4),(eC e4 #[sV b5 n32 c33] 95),(eI b5 r3.B.l g1 100),(eA b7 Xd a9 g2 40),(eI b8 r3.Dealt g3 3),(eA (some b1) Xj ([(Arc.mk 0 1 5),(Arc.mk 1 2 3)]) ([]) 72)]) (Tl:=Yz (Zj ((sb c3),n7,c8) ((sb a4),d8,c12) ((sb a5),d9,c16) ((sb a6),e0,c20) ((sb a7),e2,c24) ((sb a8),n27,c28)) 65 a9 r3.W) ?_;obtain rfl:=ret1 H;exact Zw Za (Res.tmp rfl) Zg ⟨rfl,rfl⟩
 ·
  obtain ⟨v7,e97,H⟩:=Zk H;refine rG Y9 rfl ?_;refine Ze Za ?_;refine TO.not Za ?_;refine Ze Za ?_;refine Yn (t:=17) (b':=false) rfl (Bool.eq_false_iff.2 p3) ?_;refine Zl Za Z4v ?_;refine Zr Za Uh Zi rfl ?_;refine Ju [iV 0] [0] Za Xv Ym Nn Yt (by simp only [Yq,setCells,Value.cells,List.toList_toArray,List.getD_cons_zero,List.getD_cons_succ,List.set_cons_zero,List.set_cons_succ];rfl) (by kernel_rfl) ?_;intro u4;refine Yd Zpi Za (fun wc hwc=>Zpf (a0:=r3.Dealt) (b1:=[1]) wc (Kg hwc Kn o9 p1 p2) (hwc.rs (f:=iC) (s:=1) (xs:=[1]) (j:=([])) (fun _=>rfl) Zi rfl (Nat.le_refl _) Vx) e97) ?_;rintro _ _ ⟨rfl,rfl⟩;refine TO.not Za ?_;refine Xp Zf ?_;refine dN ?_;refine Zq (aT [1,23] rfl) ?_;rcases Zv H with ⟨p4,H⟩ | ⟨p4,H⟩
  ·refine Xk rfl p4 ?_;refine sR Y1 rfl ?_;refine aN Za ?_;refine T.ret ?_;refine Yg ?_;refine Lo (Hs:=[(eI (some u4) ([1]) ([]) 3),(eC f4 #[iV r3.C.N,iV r3.C.S,iV r3.C.T,sV c3 n7 c8,sV a4 d8 c12,sV a5 d9 c16,sV a6 e0 c20,sV a7 e2 c24,sV a8 n27 c28,iV r3.L.Verts,iV r3.L.Arcs,iV r3.L.Workers,iV r3.L.Room,iV r3.L.Res,iV r3.L.Ex,iV r3.L.H,iV r3.L.Flag,iV r3.L.Pending,iV r3.L.Ask,iV r3.L.Count,iV r3.L.Sense,iV r3.L.Deques,iV r3.L.Size,pV e4,sV b7 n36 c37,sV b8 g5 c42] 36),(eI c3 r3.C.First j9 3),(eI a4 r3.C.Head f6 3),(eI a5 r3.C.Rev f7 3),(eI a6 r3.C.Cap f8 2),(eI a7 r3.C.Arc f9 3),(eA a8 boolC r3.C.Back g0 4),(eC e4 #[sV b5 n32 c33] 95),(eI b5 r3.B.l g1 100),(eA b7 Xd a9 g2 40),(eI b8 r3.Dealt g3 3),(eA (some b1) Xj ([(Arc.mk 0 1 5),(Arc.mk 1 2 3)]) ([]) 72)]) (Tl:=Yz (Zj ((sb c3),n7,c8) ((sb a4),d8,c12) ((sb a5),d9,c16) ((sb a6),e0,c20) ((sb a7),e2,c24) ((sb a8),n27,c28)) 65 a9 r3.W) ?_;obtain rfl:=ret1 H;exact Zw Za (Res.tmp rfl) Zg ⟨rfl,rfl⟩
  ·
   refine Xs rfl (Bool.eq_false_iff.2 p4) ?_;refine T.skip ?_;refine Yk ?_;refine sR Y3 rfl ?_;refine Zes Zu Jx Jy ?_;intro u5;refine Ww Za ?_;refine aN Za ?_;refine Zn ?_;refine Zhy (fun (d3:List Int) (a2:List Evt) (h4 h5:Nat) (e6:Option Nat) (f5:List Value) (e7:List WorkerWorker)=>Zbm r3 d3 a2 e7=some r0∧d3.length=n32∧a2.length=h4∧h4≤h5∧f5.length=(h5 - h4)*7∧(e6=none→h5=0)∧a9.length=e7.length) (fun (d3:List Int) (a2:List Evt) (h4 h5:Nat) (e6:Option Nat) (f5:List Value) (e7:List WorkerWorker)=>[(1,pV f4),(4,sV e6 h4 h5)]) (fun (d3:List Int) (a2:List Evt) (h4 h5:Nat) (e6:Option Nat) (f5:List Value) (e7:List WorkerWorker)=>((some f4,.cells #[iV r3.C.N,iV r3.C.S,iV r3.C.T,sV c3 n7 c8,sV a4 d8 c12,sV a5 d9 c16,sV a6 e0 c20,sV a7 e2 c24,sV a8 n27 c28,iV r3.L.Verts,iV r3.L.Arcs,iV r3.L.Workers,iV r3.L.Room,iV r3.L.Res,iV r3.L.Ex,iV r3.L.H,iV r3.L.Flag,iV r3.L.Pending,iV r3.L.Ask,iV r3.L.Count,iV r3.L.Sense,iV r3.L.Deques,iV r3.L.Size,pV e4,sV b7 n36 c37,sV b8 g5 c42] 36 (0,0))::(eI c3 r3.C.First j9 3)::(eI a4 r3.C.Head f6 3)::(eI a5 r3.C.Rev f7 3)::(eI a6 r3.C.Cap f8 2)::(eI a7 r3.C.Arc f9 3)::(eA a8 boolC r3.C.Back g0 4)::(eC e4 #[sV b5 n32 c33] 95)::(eI b5 d3 g1 100)::(eA b7 Xd a9 g2 40)::(eI b8 r3.Dealt g3 3)::(eA e6 Vs a2 f5 63)::Yz (Zj ((sb c3),n7,c8) ((sb a4),d8,c12) ((sb a5),d9,c16) ((sb a6),e0,c20) ((sb a7),e2,c24) ((sb a8),n27,c28)) 65 a9 e7)) ?_ ?_
   ·
    refine T.block ?_;obtain ⟨u6,u7,r7⟩:=Zk H;refine T.loopE9 (fun (k5:Nat) (e8:List Int) (d7:Int) (a3:List Evt) (g4 c106:Nat) (d5:Option Nat) (e9:List Value) (d4:List WorkerWorker)=>Xz (fun s=>Zbe r3 s.1 s.2.1 s.2.2.1 s.2.2.2) k5 (e8,d7,a3,d4)=some u6∧e8.length=n32∧a3.length=g4∧g4≤c106∧e9.length=(c106 - g4)*7∧(d5=none→c106=0)∧a9.length=d4.length) (fun (k5:Nat) (e8:List Int) (d7:Int) (a3:List Evt) (g4 c106:Nat) (d5:Option Nat) (e9:List Value) (d4:List WorkerWorker)=>[(1,pV f4),(3,iV d7),(4,sV d5 g4 c106)]) (fun (k5:Nat) (e8:List Int) (d7:Int) (a3:List Evt) (g4 c106:Nat) (d5:Option Nat) (e9:List Value) (d4:List WorkerWorker)=>((some f4,.cells #[iV r3.C.N,iV r3.C.S,iV r3.C.T,sV c3 n7 c8,sV a4 d8 c12,sV a5 d9 c16,sV a6 e0 c20,sV a7 e2 c24,sV a8 n27 c28,iV r3.L.Verts,iV r3.L.Arcs,iV r3.L.Workers,iV r3.L.Room,iV r3.L.Res,iV r3.L.Ex,iV r3.L.H,iV r3.L.Flag,iV r3.L.Pending,iV r3.L.Ask,iV r3.L.Count,iV r3.L.Sense,iV r3.L.Deques,iV r3.L.Size,pV e4,sV b7 n36 c37,sV b8 g5 c42] 36 (0,0))::(eI c3 r3.C.First j9 3)::(eI a4 r3.C.Head f6 3)::(eI a5 r3.C.Rev f7 3)::(eI a6 r3.C.Cap f8 2)::(eI a7 r3.C.Arc f9 3)::(eA a8 boolC r3.C.Back g0 4)::(eC e4 #[sV b5 n32 c33] 95)::(eI b5 e8 g1 100)::(eA b7 Xd a9 g2 40)::(eI b8 r3.Dealt g3 3)::(eA d5 Vs a3 e9 63)::Yz (Zj ((sb c3),n7,c8) ((sb a4),d8,c12) ((sb a5),d9,c16) ((sb a6),e0,c20) ((sb a7),e2,c24) ((sb a8),n27,c28)) 65 a9 d4)) (fun (k5:Nat) (e8:List Int) (d7:Int) (a3:List Evt) (g4 c106:Nat) (d5:Option Nat) (e9:List Value) (d4:List WorkerWorker)=>k5) Xo r3.B.l 0 ([]:List Evt) 0 0 (some u5) ([]) r3.W ⟨u7,o7,rfl,(Nat.le_refl _),(Vm 0 _),Vx,o8⟩ (aF rfl) (Zd Zz (Zd Zz (Zd Zz (Zd Zz (Zd Zz (Zd Zz (Zd Zz (Zd Zz (Zd Zz (Zd Zz (Zd Zz (Zd Zc (Pick.skip (Pick.skip (Yb _))))))))))))))) ?_;rintro k5 e8 d7 a3 g4 c106 d5 e9 d4 ⟨H,j0,h3,h7,h8,h9,f1⟩;obtain ⟨r8,u9,rfl,H,m9⟩:=Uw H;have H:Zbe r3 e8 d7 a3 d4=some u9:=H;unfold Zbe at H;refine Zn ?_;refine Zn ?_;obtain ⟨d6,j1,H⟩:=Zk H;refine Z3l (bs:=a9) (ws:=d4) (k:=0) (Es:=[(eC f4 #[iV r3.C.N,iV r3.C.S,iV r3.C.T,sV c3 n7 c8,sV a4 d8 c12,sV a5 d9 c16,sV a6 e0 c20,sV a7 e2 c24,sV a8 n27 c28,iV r3.L.Verts,iV r3.L.Arcs,iV r3.L.Workers,iV r3.L.Room,iV r3.L.Res,iV r3.L.Ex,iV r3.L.H,iV r3.L.Flag,iV r3.L.Pending,iV r3.L.Ask,iV r3.L.Count,iV r3.L.Sense,iV r3.L.Deques,iV r3.L.Size,pV e4,sV b7 n36 c37,sV b8 g5 c42] 36),(eI c3 r3.C.First j9 3),(eI a4 r3.C.Head f6 3),(eI a5 r3.C.Rev f7 3),(eI a6 r3.C.Cap f8 2),(eI a7 r3.C.Arc f9 3),(eA a8 boolC r3.C.Back g0 4),(eC e4 #[sV b5 n32 c33] 95),(eI b5 e8 g1 100),(eA b7 Xd a9 g2 40),(eI b8 r3.Dealt g3 3),(eA d5 Vs a3 e9 63)]) f1 j1 Yt ?_;generalize g6:a9.getD (0:Int).toNat 0=k6;refine Z0y (H:=((some k6,.cells (Zj ((sb c3),n7,c8) ((sb a4),d8,c12) ((sb a5),d9,c16) ((sb a6),e0,c20) ((sb a7),e2,c24) ((sb a8),n27,c28) ({ d6 with c:=({ r3.C with N:=d6.c.N,S:=d6.c.S,T:=d6.c.T }:Csr) }:WorkerWorker)).toArray 65 (0,0))::(eC f4 #[iV r3.C.N,iV r3.C.S,iV r3.C.T,sV c3 n7 c8,sV a4 d8 c12,sV a5 d9 c16,sV a6 e0 c20,sV a7 e2 c24,sV a8 n27 c28,iV r3.L.Verts,iV r3.L.Arcs,iV r3.L.Workers,iV r3.L.Room,iV r3.L.Res,iV r3.L.Ex,iV r3.L.H,iV r3.L.Flag,iV r3.L.Pending,iV r3.L.Ask,iV r3.L.Count,iV r3.L.Sense,iV r3.L.Deques,iV r3.L.Size,pV e4,sV b7 n36 c37,sV b8 g5 c42] 36)::(eI c3 r3.C.First j9 3)::(eI a4 r3.C.Head f6 3)::(eI a5 r3.C.Rev f7 3)::(eI a6 r3.C.Cap f8 2)::(eI a7 r3.C.Arc f9 3)::(eA a8 boolC r3.C.Back g0 4)::(eC e4 #[sV b5 n32 c33] 95)::(eI b5 e8 g1 100)::(eA b7 Xd a9 g2 40)::(eI b8 r3.Dealt g3 3)::(eA d5 Vs a3 e9 63)::Yz (Zj ((sb c3),n7,c8) ((sb a4),d8,c12) ((sb a5),d9,c16) ((sb a6),e0,c20) ((sb a7),e2,c24) ((sb a8),n27,c28)) 65 (a9.eraseIdx (0:Int).toNat) (d4.eraseIdx (0:Int).toNat))) rfl ?_;rcases Zv H with ⟨j2,H⟩ | ⟨j2,H⟩
    ·
     obtain ⟨k7,H⟩:=Yh H;obtain ⟨⟨v0,d1,g8⟩,p5,H⟩:=Zk H;refine Xy 9 [0,1,2,3,4,5,6,7,8] rfl Xh (by kernel_rfl) (by kernel_rfl) rfl (by kernel_rfl) ?_;refine TQ.move Za ?_;refine Ji Zx ?_;refine TQ.move Za ?_;refine Ra (t:=27) (b':=true) rfl (decide_eq_true j2) ?_;refine Yo Za Gt ?_;refine Yr Za Nb Yu rfl ?_;refine Zcd h2 h1 h0 (Jc f1 k7) Zf Jv Ns ?_;refine TQ.ldPV g6 h2 h1 h0 (Jc f1 k7) Za Z0c Rp ?_;refine Yo Za Lu ?_;refine Yr Za Re Yu rfl ?_;refine Xx [9,10,11] Yt ?_;refine Ys Ze3 Za (Zh Zc (Zh Gu (Zh Gu (Gone.refl _)))) rfl (fun wc hwc=>Zfu (w0:=({ d6 with c:=({ r3.C with N:=d6.c.N,S:=d6.c.S,T:=d6.c.T }:Csr) }:WorkerWorker)) (b1:=(CellsBank.mk e8)) wc rfl (hwc.self (Zd Zc (Zd Gu (Zd Gu Zg))) rfl) (hwc.rsM (f:=iC) (s:=1) (xs:=r3.C.First) (j:=j9) (fun _=>rfl) (Zh Zc (Zh Gu (Zh Gu (Gone.refl _)))) rfl Yu n6 n8 n9) (hwc.rsM (f:=iC) (s:=1) (xs:=r3.C.Head) (j:=f6) (fun _=>rfl) (Zh Zc (Zh Gu (Zh Gu (Gone.refl _)))) rfl Wr o0 o1 o2) (hwc.rsM (f:=iC) (s:=1) (xs:=r3.C.Rev) (j:=f7) (fun _=>rfl) (Zh Zc (Zh Gu (Zh Gu (Gone.refl _)))) rfl Kh o3 o4 o6) j0 i4 i5 p5) ?_;rintro _ _ ⟨rfl,rfl,i6⟩;refine TO.not Za ?_;refine Xr Zf ?_;refine Zm ?_;refine Z0b (f:=(Zj ((sb c3),n7,c8) ((sb a4),d8,c12) ((sb a5),d9,c16) ((sb a6),e0,c20) ((sb a7),e2,c24) ((sb a8),n27,c28))) (T':=65) (bs:=a9) (ws:=d4) (p:=(0:Int).toNat) (y:=({ d1 with c:=({ r3.C with N:=d1.c.N,S:=d1.c.S,T:=d1.c.T }:Csr) }:WorkerWorker)) (Es:=[(eC e4 #[sV b5 n32 c33] 95),(eI b5 g8.l g1 100),(eC f4 #[iV r3.C.N,iV r3.C.S,iV r3.C.T,sV c3 n7 c8,sV a4 d8 c12,sV a5 d9 c16,sV a6 e0 c20,sV a7 e2 c24,sV a8 n27 c28,iV r3.L.Verts,iV r3.L.Arcs,iV r3.L.Workers,iV r3.L.Room,iV r3.L.Res,iV r3.L.Ex,iV r3.L.H,iV r3.L.Flag,iV r3.L.Pending,iV r3.L.Ask,iV r3.L.Count,iV r3.L.Sense,iV r3.L.Deques,iV r3.L.Size,pV e4,sV b7 n36 c37,sV b8 g5 c42] 36),(eI c3 r3.C.First j9 3),(eI a4 r3.C.Head f6 3),(eI a5 r3.C.Rev f7 3),(eI a6 r3.C.Cap f8 2),(eI a7 r3.C.Arc f9 3),(eA a8 boolC r3.C.Back g0 4),(eA b7 Xd a9 g2 40),(eI b8 r3.Dealt g3 3),(eA d5 Vs a3 e9 63)]) f1 (Np j1) g6 (Zd Zc (Zd Zc (Zd Zc (Zd Zc (Zd Zc (Zd Zc (Zd Zc (Zd Zc (Zd Zc (Zd Zc (Zd Zc (Zd Zc (Zd Zc (Yb _)))))))))))))) ?_;subst g6;refine Lp (H:=((some e4,.cells #[sV b5 n32 c33] 95 (0,0))::(eI b5 g8.l g1 100)::(eC f4 #[iV r3.C.N,iV r3.C.S,iV r3.C.T,sV c3 n7 c8,sV a4 d8 c12,sV a5 d9 c16,sV a6 e0 c20,sV a7 e2 c24,sV a8 n27 c28,iV r3.L.Verts,iV r3.L.Arcs,iV r3.L.Workers,iV r3.L.Room,iV r3.L.Res,iV r3.L.Ex,iV r3.L.H,iV r3.L.Flag,iV r3.L.Pending,iV r3.L.Ask,iV r3.L.Count,iV r3.L.Sense,iV r3.L.Deques,iV r3.L.Size,pV e4,sV b7 n36 c37,sV b8 g5 c42] 36)::(eI c3 r3.C.First j9 3)::(eI a4 r3.C.Head f6 3)::(eI a5 r3.C.Rev f7 3)::(eI a6 r3.C.Cap f8 2)::(eI a7 r3.C.Arc f9 3)::(eA a8 boolC r3.C.Back g0 4)::(eA b7 Xd a9 g2 40)::(eI b8 r3.Dealt g3 3)::(eA d5 Vs a3 e9 63)::Yz (Zj ((sb c3),n7,c8) ((sb a4),d8,c12) ((sb a5),d9,c16) ((sb a6),e0,c20) ((sb a7),e2,c24) ((sb a8),n27,c28)) 65 a9 (d4.set (0:Int).toNat ({ d1 with c:=({ r3.C with N:=d1.c.N,S:=d1.c.S,T:=d1.c.T }:Csr) }:WorkerWorker)))) rfl ?_;refine Yk ?_;rcases Zv H with ⟨j3,H⟩ | ⟨j3,H⟩
     ·
      refine Xk rfl j3 ?_;refine T.skip ?_;refine Yk ?_;refine T.block ?_;obtain ⟨p6,H⟩:=Yh H;refine sR Y3 rfl ?_;refine Ze Za ?_;refine Xl p6 Zf ?_;refine aN Za ?_;refine Zn ?_;obtain ⟨b9,k8,H⟩:=Zk H;refine Z3l (bs:=a9) (ws:=(d4.set (0:Int).toNat ({ d1 with c:=({ r3.C with N:=d1.c.N,S:=d1.c.S,T:=d1.c.T }:Csr) }:WorkerWorker))) (k:=0) (Es:=[(eC e4 #[sV b5 n32 c33] 95),(eI b5 g8.l g1 100),(eC f4 #[iV r3.C.N,iV r3.C.S,iV r3.C.T,sV c3 n7 c8,sV a4 d8 c12,sV a5 d9 c16,sV a6 e0 c20,sV a7 e2 c24,sV a8 n27 c28,iV r3.L.Verts,iV r3.L.Arcs,iV r3.L.Workers,iV r3.L.Room,iV r3.L.Res,iV r3.L.Ex,iV r3.L.H,iV r3.L.Flag,iV r3.L.Pending,iV r3.L.Ask,iV r3.L.Count,iV r3.L.Sense,iV r3.L.Deques,iV r3.L.Size,pV e4,sV b7 n36 c37,sV b8 g5 c42] 36),(eI c3 r3.C.First j9 3),(eI a4 r3.C.Head f6 3),(eI a5 r3.C.Rev f7 3),(eI a6 r3.C.Cap f8 2),(eI a7 r3.C.Arc f9 3),(eA a8 boolC r3.C.Back g0 4),(eA b7 Xd a9 g2 40),(eI b8 r3.Dealt g3 3),(eA d5 Vs a3 e9 63)]) (Ue f1) k8 Yt ?_;generalize h6:a9.getD (0:Int).toNat 0=k9;refine Z0y (H:=((some k9,.cells (Zj ((sb c3),n7,c8) ((sb a4),d8,c12) ((sb a5),d9,c16) ((sb a6),e0,c20) ((sb a7),e2,c24) ((sb a8),n27,c28) ({ b9 with c:=({ r3.C with N:=b9.c.N,S:=b9.c.S,T:=b9.c.T }:Csr) }:WorkerWorker)).toArray 65 (0,0))::(eC e4 #[sV b5 n32 c33] 95)::(eI b5 g8.l g1 100)::(eC f4 #[iV r3.C.N,iV r3.C.S,iV r3.C.T,sV c3 n7 c8,sV a4 d8 c12,sV a5 d9 c16,sV a6 e0 c20,sV a7 e2 c24,sV a8 n27 c28,iV r3.L.Verts,iV r3.L.Arcs,iV r3.L.Workers,iV r3.L.Room,iV r3.L.Res,iV r3.L.Ex,iV r3.L.H,iV r3.L.Flag,iV r3.L.Pending,iV r3.L.Ask,iV r3.L.Count,iV r3.L.Sense,iV r3.L.Deques,iV r3.L.Size,pV e4,sV b7 n36 c37,sV b8 g5 c42] 36)::(eI c3 r3.C.First j9 3)::(eI a4 r3.C.Head f6 3)::(eI a5 r3.C.Rev f7 3)::(eI a6 r3.C.Cap f8 2)::(eI a7 r3.C.Arc f9 3)::(eA a8 boolC r3.C.Back g0 4)::(eA b7 Xd a9 g2 40)::(eI b8 r3.Dealt g3 3)::(eA d5 Vs a3 e9 63)::Yz (Zj ((sb c3),n7,c8) ((sb a4),d8,c12) ((sb a5),d9,c16) ((sb a6),e0,c20) ((sb a7),e2,c24) ((sb a8),n27,c28)) 65 (a9.eraseIdx (0:Int).toNat) ((d4.set (0:Int).toNat ({ d1 with c:=({ r3.C with N:=d1.c.N,S:=d1.c.S,T:=d1.c.T }:Csr) }:WorkerWorker)).eraseIdx (0:Int).toNat))) rfl ?_;obtain ⟨l3,H⟩:=Yh H;obtain ⟨⟨r136,v4⟩,p7,H⟩:=Zk H;refine rG Y11 rfl ?_;refine Zl Za Gt ?_;refine Zr Za Nb Kh rfl ?_;refine Un h2 h1 h0 (Jc (Ue f1) l3) Zf Jv Ns ?_;refine Zd2 h6 h2 h1 h0 (Jc (Ue f1) l3) Za Z0c Rp ?_;refine Yd Zi4 Za (fun wc hwc=>Zov (w0:=({ b9 with c:=({ r3.C with N:=b9.c.N,S:=b9.c.S,T:=b9.c.T }:Csr) }:WorkerWorker)) wc (hwc.hb (cs:=(Zj ((sb c3),n7,c8) ((sb a4),d8,c12) ((sb a5),d9,c16) ((sb a6),e0,c20) ((sb a7),e2,c24) ((sb a8),n27,c28) ({ b9 with c:=({ r3.C with N:=b9.c.N,S:=b9.c.S,T:=b9.c.T }:Csr) }:WorkerWorker))) Zi) p7) ?_;rintro _ _ ⟨rfl,rfl⟩;refine Ze Za ?_;refine TO.extract Zf ?_;refine TO.extract Zf ?_;refine Wk Zu Z6p ?_;intro l4;refine Wb Za Zc Jy Zu ?_;refine Ww Za ?_;refine Zm ?_;refine Z0b (f:=(Zj ((sb c3),n7,c8) ((sb a4),d8,c12) ((sb a5),d9,c16) ((sb a6),e0,c20) ((sb a7),e2,c24) ((sb a8),n27,c28))) (T':=65) (bs:=a9) (ws:=(d4.set (0:Int).toNat ({ d1 with c:=({ r3.C with N:=d1.c.N,S:=d1.c.S,T:=d1.c.T }:Csr) }:WorkerWorker))) (p:=(0:Int).toNat) (y:=({ b9 with c:=({ r3.C with N:=b9.c.N,S:=b9.c.S,T:=b9.c.T }:Csr) }:WorkerWorker)) (Es:=[(eC l4 #[iV r136.Who,.int .u8 r136.What,iV r136.U,iV r136.Arc,iV r136.D,iV r136.H,iV r136.Low] 63),(eC e4 #[sV b5 n32 c33] 95),(eI b5 g8.l g1 100),(eC f4 #[iV r3.C.N,iV r3.C.S,iV r3.C.T,sV c3 n7 c8,sV a4 d8 c12,sV a5 d9 c16,sV a6 e0 c20,sV a7 e2 c24,sV a8 n27 c28,iV r3.L.Verts,iV r3.L.Arcs,iV r3.L.Workers,iV r3.L.Room,iV r3.L.Res,iV r3.L.Ex,iV r3.L.H,iV r3.L.Flag,iV r3.L.Pending,iV r3.L.Ask,iV r3.L.Count,iV r3.L.Sense,iV r3.L.Deques,iV r3.L.Size,pV e4,sV b7 n36 c37,sV b8 g5 c42] 36),(eI c3 r3.C.First j9 3),(eI a4 r3.C.Head f6 3),(eI a5 r3.C.Rev f7 3),(eI a6 r3.C.Cap f8 2),(eI a7 r3.C.Arc f9 3),(eA a8 boolC r3.C.Back g0 4),(eA b7 Xd a9 g2 40),(eI b8 r3.Dealt g3 3),(eA d5 Vs a3 e9 63)]) (Ue f1) (Np k8) h6 (Zd Zt (Zd Zc (Zd Zc (Zd Zc (Zd Zc (Zd Zc (Zd Zc (Zd Zc (Zd Zc (Zd Zc (Zd Zc (Zd Zc (Zd Zc (Zd Zc (Yb _))))))))))))))) ?_;subst h6;refine Lp (H:=((some l4,.cells #[iV r136.Who,.int .u8 r136.What,iV r136.U,iV r136.Arc,iV r136.D,iV r136.H,iV r136.Low] 63 (0,0))::(eC e4 #[sV b5 n32 c33] 95)::(eI b5 g8.l g1 100)::(eC f4 #[iV r3.C.N,iV r3.C.S,iV r3.C.T,sV c3 n7 c8,sV a4 d8 c12,sV a5 d9 c16,sV a6 e0 c20,sV a7 e2 c24,sV a8 n27 c28,iV r3.L.Verts,iV r3.L.Arcs,iV r3.L.Workers,iV r3.L.Room,iV r3.L.Res,iV r3.L.Ex,iV r3.L.H,iV r3.L.Flag,iV r3.L.Pending,iV r3.L.Ask,iV r3.L.Count,iV r3.L.Sense,iV r3.L.Deques,iV r3.L.Size,pV e4,sV b7 n36 c37,sV b8 g5 c42] 36)::(eI c3 r3.C.First j9 3)::(eI a4 r3.C.Head f6 3)::(eI a5 r3.C.Rev f7 3)::(eI a6 r3.C.Cap f8 2)::(eI a7 r3.C.Arc f9 3)::(eA a8 boolC r3.C.Back g0 4)::(eA b7 Xd a9 g2 40)::(eI b8 r3.Dealt g3 3)::(eA d5 Vs a3 e9 63)::Yz (Zj ((sb c3),n7,c8) ((sb a4),d8,c12) ((sb a5),d9,c16) ((sb a6),e0,c20) ((sb a7),e2,c24) ((sb a8),n27,c28)) 65 a9 ((d4.set (0:Int).toNat ({ d1 with c:=({ r3.C with N:=d1.c.N,S:=d1.c.S,T:=d1.c.T }:Csr) }:WorkerWorker)).set (0:Int).toNat ({ b9 with c:=({ r3.C with N:=b9.c.N,S:=b9.c.S,T:=b9.c.T }:Csr) }:WorkerWorker)))) rfl ?_;refine Yk ?_;refine Zq (aT [1,3,4,28,29,30,31,32,33,34,35,5,6] rfl) ?_;refine sR Y1 rfl ?_;refine Ze Za ?_;refine dN ?_;rcases Zv H with ⟨j4,H⟩ | ⟨j4,H⟩
      ·refine Xk rfl j4 ?_;obtain ⟨p8,H⟩:=Yh H;refine rG Y5 rfl ?_;refine Ze Za ?_;refine Wf Za Nd Zi rfl ?_;refine Ju [iV 0,.int .u8 0,iV 0,iV 0,iV 0,iV 0,iV 0] [0] Za Jx Jy Z6p Yt (by simp only [Yq,setCells,Value.cells,List.toList_toArray,List.getD_cons_zero,List.getD_cons_succ,List.set_cons_zero,List.set_cons_succ];rfl) (by kernel_rfl) ?_;intro v5;refine Z06 (f:=Vs) (s:=7) (xs:=a3) (ob:=d5) (j:=e9) (ys:=[r136]) (fun _=>rfl) (fun _=>rfl) Zlw p8 Zf tk13 h3 h7 h8 h9 (fun wc hwc=>(hwc.rs (f:=Vs) (s:=7) (xs:=[r136]) (j:=([])) (fun _=>rfl) Zi rfl (Nat.le_refl _) Vx)) ?_;intro l5 c146 p9 l6 l7 l8;refine Ww Za ?_;refine Zm ?_;refine Vd ?_;have H:=Vy H m9;exact Zfa r8 g8.l (d7+1) (a3++([r136])) (g4+1) c146 l5 p9 ((d4.set (0:Int).toNat ({ d1 with c:=({ r3.C with N:=d1.c.N,S:=d1.c.S,T:=d1.c.T }:Csr) }:WorkerWorker)).set (0:Int).toNat ({ b9 with c:=({ r3.C with N:=b9.c.N,S:=b9.c.S,T:=b9.c.T }:Csr) }:WorkerWorker)) ⟨H,i6,(Z0u h3 rfl),l6,l7,l8,(Ue (Ue f1))⟩ (Nat.lt_succ_self _) (aF rfl) (Zd Uy (Zd Uy (Zd Uy (Zd Uy (Zd Uy (Zd Uy (Zd Uy (Zd Xn (Zd Xn (Zd Xn (Zd Xn (Zd Zc (Pick.skip (Pick.skip (Yb _)))))))))))))))
      ·refine Xs rfl (Bool.eq_false_iff.2 j4) ?_;refine T.skip ?_;refine Vd ?_;have H:=Vy H m9;exact Zfa r8 g8.l (d7+1) a3 g4 c106 d5 e9 ((d4.set (0:Int).toNat ({ d1 with c:=({ r3.C with N:=d1.c.N,S:=d1.c.S,T:=d1.c.T }:Csr) }:WorkerWorker)).set (0:Int).toNat ({ b9 with c:=({ r3.C with N:=b9.c.N,S:=b9.c.S,T:=b9.c.T }:Csr) }:WorkerWorker)) ⟨H,i6,h3,h7,h8,h9,(Ue (Ue f1))⟩ (Nat.lt_succ_self _) (aF rfl) (Zd Xn (Zd Xn (Zd Xn (Zd Xn (Zd Xn (Zd Xn (Zd Xn (Zd Zt (Zd Zt (Zd Zt (Zd Zt (Zd Zt (Pick.skip (Yb _))))))))))))))
     ·refine Xs rfl (Bool.eq_false_iff.2 j3) ?_;refine T.exit ?_;refine Wh ?_;have H:=Wt H m9▸r7;refine Wh ?_;refine Ud ?_;exact Zfi g8.l a3 g4 c106 d5 e9 (d4.set (0:Int).toNat ({ d1 with c:=({ r3.C with N:=d1.c.N,S:=d1.c.S,T:=d1.c.T }:Csr) }:WorkerWorker)) ⟨H,i6,h3,h7,h8,h9,(Ue f1)⟩ (aF rfl) (Zd Zz (Zd Zz (Zd Zz (Zd Zz (Zd Zz (Zd Zz (Zd Zz (Zd Zc (Zd Zc (Zd Zc (Zd Zc (Zd Zc (Yb _)))))))))))))
    ·refine Xy 9 [0,1,2,3,4,5,6,7,8] rfl Xh (by kernel_rfl) (by kernel_rfl) rfl (by kernel_rfl) ?_;refine TQ.move Za ?_;refine Ji Zx ?_;refine TQ.move Za ?_;refine Ra (t:=27) (b':=false) rfl (decide_eq_false j2) ?_;refine Vg Za ?_;refine Vg Za ?_;refine Vg Za ?_;refine Vg Za ?_;refine Vg Za ?_;refine Vg Za ?_;refine Xx [9,10,11] Yt ?_;refine Zp Za ?_;refine Zp Za ?_;refine Xp Zf ?_;refine Zm ?_;refine Z0b (f:=(Zj ((sb c3),n7,c8) ((sb a4),d8,c12) ((sb a5),d9,c16) ((sb a6),e0,c20) ((sb a7),e2,c24) ((sb a8),n27,c28))) (T':=65) (bs:=a9) (ws:=d4) (p:=(0:Int).toNat) (y:=({ d6 with c:=({ r3.C with N:=d6.c.N,S:=d6.c.S,T:=d6.c.T }:Csr) }:WorkerWorker)) (Es:=[(eC f4 #[iV r3.C.N,iV r3.C.S,iV r3.C.T,sV c3 n7 c8,sV a4 d8 c12,sV a5 d9 c16,sV a6 e0 c20,sV a7 e2 c24,sV a8 n27 c28,iV r3.L.Verts,iV r3.L.Arcs,iV r3.L.Workers,iV r3.L.Room,iV r3.L.Res,iV r3.L.Ex,iV r3.L.H,iV r3.L.Flag,iV r3.L.Pending,iV r3.L.Ask,iV r3.L.Count,iV r3.L.Sense,iV r3.L.Deques,iV r3.L.Size,pV e4,sV b7 n36 c37,sV b8 g5 c42] 36),(eI c3 r3.C.First j9 3),(eI a4 r3.C.Head f6 3),(eI a5 r3.C.Rev f7 3),(eI a6 r3.C.Cap f8 2),(eI a7 r3.C.Arc f9 3),(eA a8 boolC r3.C.Back g0 4),(eC e4 #[sV b5 n32 c33] 95),(eI b5 e8 g1 100),(eA b7 Xd a9 g2 40),(eI b8 r3.Dealt g3 3),(eA d5 Vs a3 e9 63)]) f1 (Np j1) g6 (Zd Zc (Zd Zc (Zd Zc (Zd Zc (Zd Zc (Zd Zc (Zd Zc (Zd Zc (Zd Zc (Zd Zc (Zd Zc (Zd Zc (Zd Zc (Yb _)))))))))))))) ?_;subst g6;refine Lp (H:=((some f4,.cells #[iV r3.C.N,iV r3.C.S,iV r3.C.T,sV c3 n7 c8,sV a4 d8 c12,sV a5 d9 c16,sV a6 e0 c20,sV a7 e2 c24,sV a8 n27 c28,iV r3.L.Verts,iV r3.L.Arcs,iV r3.L.Workers,iV r3.L.Room,iV r3.L.Res,iV r3.L.Ex,iV r3.L.H,iV r3.L.Flag,iV r3.L.Pending,iV r3.L.Ask,iV r3.L.Count,iV r3.L.Sense,iV r3.L.Deques,iV r3.L.Size,pV e4,sV b7 n36 c37,sV b8 g5 c42] 36 (0,0))::(eI c3 r3.C.First j9 3)::(eI a4 r3.C.Head f6 3)::(eI a5 r3.C.Rev f7 3)::(eI a6 r3.C.Cap f8 2)::(eI a7 r3.C.Arc f9 3)::(eA a8 boolC r3.C.Back g0 4)::(eC e4 #[sV b5 n32 c33] 95)::(eI b5 e8 g1 100)::(eA b7 Xd a9 g2 40)::(eI b8 r3.Dealt g3 3)::(eA d5 Vs a3 e9 63)::Yz (Zj ((sb c3),n7,c8) ((sb a4),d8,c12) ((sb a5),d9,c16) ((sb a6),e0,c20) ((sb a7),e2,c24) ((sb a8),n27,c28)) 65 a9 (d4.set (0:Int).toNat ({ d6 with c:=({ r3.C with N:=d6.c.N,S:=d6.c.S,T:=d6.c.T }:Csr) }:WorkerWorker)))) rfl ?_;refine Yk ?_;refine Xs rfl rfl ?_;refine T.exit ?_;refine Wh ?_;have H:=Wt H m9▸r7;refine Wh ?_;refine Ud ?_;exact Zfi e8 a3 g4 c106 d5 e9 (d4.set (0:Int).toNat ({ d6 with c:=({ r3.C with N:=d6.c.N,S:=d6.c.S,T:=d6.c.T }:Csr) }:WorkerWorker)) ⟨H,j0,h3,h7,h8,h9,(Ue f1)⟩ (aF rfl) (Zd Zc (Zd Zc (Zd Zc (Zd Zc (Zd Zc (Zd Zc (Zd Zc (Zd Zc (Zd Zc (Zd Zc (Zd Zc (Zd Zc (Yb _)))))))))))))
   ·
    rintro d3 a2 h4 h5 e6 f5 e7 ⟨H,i0,e3,f2,r9,f3,g7⟩;unfold Zbm at H;refine Zn ?_;refine Zn ?_;rcases Zv H with ⟨i7,H⟩ | ⟨i7,H⟩
    ·refine rG Y24 rfl ?_;refine Ze Za ?_;refine Vq (xs:=a2) e3 Zf Jx ?_;refine Ye Zx ?_;refine Ze Za ?_;refine Yn (t:=55) (b':=true) rfl (decide_eq_true i7) ?_;refine Zp Za ?_;refine Zp Za ?_;refine Zp Za ?_;refine Zp Za ?_;refine Zp Za ?_;refine Xr Zf ?_;refine Ze Za ?_;refine Zp Za ?_;refine Zp Za ?_;refine Zp Za ?_;refine Zp Za ?_;refine Zp Za ?_;refine Xr Zf ?_;refine Ze Za ?_;refine Zp Za ?_;refine Zp Za ?_;refine Zp Za ?_;refine Zp Za ?_;refine Zp Za ?_;refine Xr Zf ?_;refine dN ?_;refine Zq (aT [1,75] rfl) ?_;refine Xk rfl rfl ?_;refine sR Y1 rfl ?_;refine aN Za ?_;refine T.ret ?_;refine Yg ?_;refine Lo (Hs:=[(eC f4 #[iV r3.C.N,iV r3.C.S,iV r3.C.T,sV c3 n7 c8,sV a4 d8 c12,sV a5 d9 c16,sV a6 e0 c20,sV a7 e2 c24,sV a8 n27 c28,iV r3.L.Verts,iV r3.L.Arcs,iV r3.L.Workers,iV r3.L.Room,iV r3.L.Res,iV r3.L.Ex,iV r3.L.H,iV r3.L.Flag,iV r3.L.Pending,iV r3.L.Ask,iV r3.L.Count,iV r3.L.Sense,iV r3.L.Deques,iV r3.L.Size,pV e4,sV b7 n36 c37,sV b8 g5 c42] 36),(eI c3 r3.C.First j9 3),(eI a4 r3.C.Head f6 3),(eI a5 r3.C.Rev f7 3),(eI a6 r3.C.Cap f8 2),(eI a7 r3.C.Arc f9 3),(eA a8 boolC r3.C.Back g0 4),(eC e4 #[sV b5 n32 c33] 95),(eI b5 d3 g1 100),(eA b7 Xd a9 g2 40),(eI b8 r3.Dealt g3 3),(eA e6 Vs a2 f5 63)]) (Tl:=Yz (Zj ((sb c3),n7,c8) ((sb a4),d8,c12) ((sb a5),d9,c16) ((sb a6),e0,c20) ((sb a7),e2,c24) ((sb a8),n27,c28)) 65 a9 e7) ?_;obtain rfl:=ret1 H;exact Zw Za (Res.tmp rfl) Zg ⟨rfl,rfl⟩
    ·
     obtain ⟨i2,H⟩:=Yh H;rcases Zv H with ⟨i8,H⟩ | ⟨i8,H⟩
     ·refine rG Y24 rfl ?_;refine Ze Za ?_;refine Vq (xs:=a2) e3 Zf Jx ?_;refine Ye Zx ?_;refine Ze Za ?_;refine Yn (t:=55) (b':=false) rfl (decide_eq_false i7) ?_;refine Ze Za ?_;refine Un f3 f2 e3 i2 Zf Jx Jy ?_;refine Z1x (f:=Vs) (cs:=[iV ((a2.getD (0:Int).toNat default).Who),.int .u8 ((a2.getD (0:Int).toNat default).What),iV ((a2.getD (0:Int).toNat default).U),iV ((a2.getD (0:Int).toNat default).Arc),iV ((a2.getD (0:Int).toNat default).D),iV ((a2.getD (0:Int).toNat default).H),iV ((a2.getD (0:Int).toNat default).Low)]) default (fun _=>rfl) f3 f2 e3 i2 Zf Nd Kn ?_;refine Yx (t:=63) [iV 0,.int .u8 0,iV 0,iV 0,iV 0,iV 0,iV 0] [0,1,2,3,4,5,6] Za (by simp only [Yq,setCells,Value.cells,List.toList_toArray,List.getD_cons_zero,List.getD_cons_succ,List.set_cons_zero,List.set_cons_succ];rfl) (by kernel_rfl) ?_;refine Z3t (us:=[(a2.getD (0:Int).toNat default).Who,(a2.getD (0:Int).toNat default).What,(a2.getD (0:Int).toNat default).U,(a2.getD (0:Int).toNat default).Arc,(a2.getD (0:Int).toNat default).D,(a2.getD (0:Int).toNat default).H,(a2.getD (0:Int).toNat default).Low]) (ws:=[0,2,1,0,0,1,0]) [.i64,.u8,.i64,.i64,.i64,.i64,.i64] Z29 rr9 ?_;refine Xp Zf ?_;refine Ze Za ?_;refine Yn (t:=62) (b':=true) rfl i8 ?_;refine Zp Za ?_;refine Zp Za ?_;refine Zp Za ?_;refine Zp Za ?_;refine Zp Za ?_;refine Xr Zf ?_;refine Ze Za ?_;refine Zp Za ?_;refine Zp Za ?_;refine Zp Za ?_;refine Zp Za ?_;refine Zp Za ?_;refine Xr Zf ?_;refine dN ?_;refine Zq (aT [1,75] rfl) ?_;refine Xk rfl rfl ?_;refine sR Y1 rfl ?_;refine aN Za ?_;refine T.ret ?_;refine Yg ?_;refine Lo (Hs:=[(eC f4 #[iV r3.C.N,iV r3.C.S,iV r3.C.T,sV c3 n7 c8,sV a4 d8 c12,sV a5 d9 c16,sV a6 e0 c20,sV a7 e2 c24,sV a8 n27 c28,iV r3.L.Verts,iV r3.L.Arcs,iV r3.L.Workers,iV r3.L.Room,iV r3.L.Res,iV r3.L.Ex,iV r3.L.H,iV r3.L.Flag,iV r3.L.Pending,iV r3.L.Ask,iV r3.L.Count,iV r3.L.Sense,iV r3.L.Deques,iV r3.L.Size,pV e4,sV b7 n36 c37,sV b8 g5 c42] 36),(eI c3 r3.C.First j9 3),(eI a4 r3.C.Head f6 3),(eI a5 r3.C.Rev f7 3),(eI a6 r3.C.Cap f8 2),(eI a7 r3.C.Arc f9 3),(eA a8 boolC r3.C.Back g0 4),(eC e4 #[sV b5 n32 c33] 95),(eI b5 d3 g1 100),(eA b7 Xd a9 g2 40),(eI b8 r3.Dealt g3 3),(eA e6 Vs a2 f5 63)]) (Tl:=Yz (Zj ((sb c3),n7,c8) ((sb a4),d8,c12) ((sb a5),d9,c16) ((sb a6),e0,c20) ((sb a7),e2,c24) ((sb a8),n27,c28)) 65 a9 e7) ?_;obtain rfl:=ret1 H;exact Zw Za (Res.tmp rfl) Zg ⟨rfl,rfl⟩
     ·
      obtain ⟨i9,H⟩:=Yh H;rcases Zv H with ⟨j5,H⟩ | ⟨j5,H⟩
      ·refine rG Y24 rfl ?_;refine Ze Za ?_;refine Vq (xs:=a2) e3 Zf Jx ?_;refine Ye Zx ?_;refine Ze Za ?_;refine Yn (t:=55) (b':=false) rfl (decide_eq_false i7) ?_;refine Ze Za ?_;refine Un f3 f2 e3 i2 Zf Jx Jy ?_;refine Z1x (f:=Vs) (cs:=[iV ((a2.getD (0:Int).toNat default).Who),.int .u8 ((a2.getD (0:Int).toNat default).What),iV ((a2.getD (0:Int).toNat default).U),iV ((a2.getD (0:Int).toNat default).Arc),iV ((a2.getD (0:Int).toNat default).D),iV ((a2.getD (0:Int).toNat default).H),iV ((a2.getD (0:Int).toNat default).Low)]) default (fun _=>rfl) f3 f2 e3 i2 Zf Nd Kn ?_;refine Yx (t:=63) [iV 0,.int .u8 0,iV 0,iV 0,iV 0,iV 0,iV 0] [0,1,2,3,4,5,6] Za (by simp only [Yq,setCells,Value.cells,List.toList_toArray,List.getD_cons_zero,List.getD_cons_succ,List.set_cons_zero,List.set_cons_succ];rfl) (by kernel_rfl) ?_;refine Z3t (us:=[(a2.getD (0:Int).toNat default).Who,(a2.getD (0:Int).toNat default).What,(a2.getD (0:Int).toNat default).U,(a2.getD (0:Int).toNat default).Arc,(a2.getD (0:Int).toNat default).D,(a2.getD (0:Int).toNat default).H,(a2.getD (0:Int).toNat default).Low]) (ws:=[0,2,1,0,0,1,0]) [.i64,.u8,.i64,.i64,.i64,.i64,.i64] Z29 rr9 ?_;refine Xp Zf ?_;refine Ze Za ?_;refine Yn (t:=62) (b':=false) rfl (Bool.eq_false_iff.2 i8) ?_;refine Ze Za ?_;refine Un f3 f2 e3 i9 Zf Jx Jy ?_;refine Z1x (f:=Vs) (cs:=[iV ((a2.getD (1:Int).toNat default).Who),.int .u8 ((a2.getD (1:Int).toNat default).What),iV ((a2.getD (1:Int).toNat default).U),iV ((a2.getD (1:Int).toNat default).Arc),iV ((a2.getD (1:Int).toNat default).D),iV ((a2.getD (1:Int).toNat default).H),iV ((a2.getD (1:Int).toNat default).Low)]) default (fun _=>rfl) f3 f2 e3 i9 Zf Nd Kn ?_;refine Yx (t:=63) [iV 0,.int .u8 0,iV 0,iV 0,iV 0,iV 0,iV 0] [0,1,2,3,4,5,6] Za (by simp only [Yq,setCells,Value.cells,List.toList_toArray,List.getD_cons_zero,List.getD_cons_succ,List.set_cons_zero,List.set_cons_succ];rfl) (by kernel_rfl) ?_;refine Z3t (us:=[(a2.getD (1:Int).toNat default).Who,(a2.getD (1:Int).toNat default).What,(a2.getD (1:Int).toNat default).U,(a2.getD (1:Int).toNat default).Arc,(a2.getD (1:Int).toNat default).D,(a2.getD (1:Int).toNat default).H,(a2.getD (1:Int).toNat default).Low]) (ws:=[0,1,1,2,3,1,0]) [.i64,.u8,.i64,.i64,.i64,.i64,.i64] Z29 rr9 ?_;refine Xp Zf ?_;refine Ze Za ?_;refine Yn (t:=69) (b':=true) rfl j5 ?_;refine Zp Za ?_;refine Zp Za ?_;refine Zp Za ?_;refine Zp Za ?_;refine Zp Za ?_;refine Xr Zf ?_;refine dN ?_;refine Zq (aT [1,75] rfl) ?_;refine Xk rfl rfl ?_;refine sR Y1 rfl ?_;refine aN Za ?_;refine T.ret ?_;refine Yg ?_;refine Lo (Hs:=[(eC f4 #[iV r3.C.N,iV r3.C.S,iV r3.C.T,sV c3 n7 c8,sV a4 d8 c12,sV a5 d9 c16,sV a6 e0 c20,sV a7 e2 c24,sV a8 n27 c28,iV r3.L.Verts,iV r3.L.Arcs,iV r3.L.Workers,iV r3.L.Room,iV r3.L.Res,iV r3.L.Ex,iV r3.L.H,iV r3.L.Flag,iV r3.L.Pending,iV r3.L.Ask,iV r3.L.Count,iV r3.L.Sense,iV r3.L.Deques,iV r3.L.Size,pV e4,sV b7 n36 c37,sV b8 g5 c42] 36),(eI c3 r3.C.First j9 3),(eI a4 r3.C.Head f6 3),(eI a5 r3.C.Rev f7 3),(eI a6 r3.C.Cap f8 2),(eI a7 r3.C.Arc f9 3),(eA a8 boolC r3.C.Back g0 4),(eC e4 #[sV b5 n32 c33] 95),(eI b5 d3 g1 100),(eA b7 Xd a9 g2 40),(eI b8 r3.Dealt g3 3),(eA e6 Vs a2 f5 63)]) (Tl:=Yz (Zj ((sb c3),n7,c8) ((sb a4),d8,c12) ((sb a5),d9,c16) ((sb a6),e0,c20) ((sb a7),e2,c24) ((sb a8),n27,c28)) 65 a9 e7) ?_;obtain rfl:=ret1 H;exact Zw Za (Res.tmp rfl) Zg ⟨rfl,rfl⟩
      ·
       obtain ⟨l9,H⟩:=Yh H;refine rG Y24 rfl ?_;refine Ze Za ?_;refine Vq (xs:=a2) e3 Zf Jx ?_;refine Ye Zx ?_;refine Ze Za ?_;refine Yn (t:=55) (b':=false) rfl (decide_eq_false i7) ?_;refine Ze Za ?_;refine Un f3 f2 e3 i2 Zf Jx Jy ?_;refine Z1x (f:=Vs) (cs:=[iV ((a2.getD (0:Int).toNat default).Who),.int .u8 ((a2.getD (0:Int).toNat default).What),iV ((a2.getD (0:Int).toNat default).U),iV ((a2.getD (0:Int).toNat default).Arc),iV ((a2.getD (0:Int).toNat default).D),iV ((a2.getD (0:Int).toNat default).H),iV ((a2.getD (0:Int).toNat default).Low)]) default (fun _=>rfl) f3 f2 e3 i2 Zf Nd Kn ?_;refine Yx (t:=63) [iV 0,.int .u8 0,iV 0,iV 0,iV 0,iV 0,iV 0] [0,1,2,3,4,5,6] Za (by simp only [Yq,setCells,Value.cells,List.toList_toArray,List.getD_cons_zero,List.getD_cons_succ,List.set_cons_zero,List.set_cons_succ];rfl) (by kernel_rfl) ?_;refine Z3t (us:=[(a2.getD (0:Int).toNat default).Who,(a2.getD (0:Int).toNat default).What,(a2.getD (0:Int).toNat default).U,(a2.getD (0:Int).toNat default).Arc,(a2.getD (0:Int).toNat default).D,(a2.getD (0:Int).toNat default).H,(a2.getD (0:Int).toNat default).Low]) (ws:=[0,2,1,0,0,1,0]) [.i64,.u8,.i64,.i64,.i64,.i64,.i64] Z29 rr9 ?_;refine Xp Zf ?_;refine Ze Za ?_;refine Yn (t:=62) (b':=false) rfl (Bool.eq_false_iff.2 i8) ?_;refine Ze Za ?_;refine Un f3 f2 e3 i9 Zf Jx Jy ?_;refine Z1x (f:=Vs) (cs:=[iV ((a2.getD (1:Int).toNat default).Who),.int .u8 ((a2.getD (1:Int).toNat default).What),iV ((a2.getD (1:Int).toNat default).U),iV ((a2.getD (1:Int).toNat default).Arc),iV ((a2.getD (1:Int).toNat default).D),iV ((a2.getD (1:Int).toNat default).H),iV ((a2.getD (1:Int).toNat default).Low)]) default (fun _=>rfl) f3 f2 e3 i9 Zf Nd Kn ?_;refine Yx (t:=63) [iV 0,.int .u8 0,iV 0,iV 0,iV 0,iV 0,iV 0] [0,1,2,3,4,5,6] Za (by simp only [Yq,setCells,Value.cells,List.toList_toArray,List.getD_cons_zero,List.getD_cons_succ,List.set_cons_zero,List.set_cons_succ];rfl) (by kernel_rfl) ?_;refine Z3t (us:=[(a2.getD (1:Int).toNat default).Who,(a2.getD (1:Int).toNat default).What,(a2.getD (1:Int).toNat default).U,(a2.getD (1:Int).toNat default).Arc,(a2.getD (1:Int).toNat default).D,(a2.getD (1:Int).toNat default).H,(a2.getD (1:Int).toNat default).Low]) (ws:=[0,1,1,2,3,1,0]) [.i64,.u8,.i64,.i64,.i64,.i64,.i64] Z29 rr9 ?_;refine Xp Zf ?_;refine Ze Za ?_;refine Yn (t:=69) (b':=false) rfl (Bool.eq_false_iff.2 j5) ?_;refine Ze Za ?_;refine Un f3 f2 e3 l9 Zf Jx Jy ?_;refine Z1x (f:=Vs) (cs:=[iV ((a2.getD (2:Int).toNat default).Who),.int .u8 ((a2.getD (2:Int).toNat default).What),iV ((a2.getD (2:Int).toNat default).U),iV ((a2.getD (2:Int).toNat default).Arc),iV ((a2.getD (2:Int).toNat default).D),iV ((a2.getD (2:Int).toNat default).H),iV ((a2.getD (2:Int).toNat default).Low)]) default (fun _=>rfl) f3 f2 e3 l9 Zf Nd Kn ?_;refine Yx (t:=63) [iV 0,.int .u8 0,iV 0,iV 0,iV 0,iV 0,iV 0] [0,1,2,3,4,5,6] Za (by simp only [Yq,setCells,Value.cells,List.toList_toArray,List.getD_cons_zero,List.getD_cons_succ,List.set_cons_zero,List.set_cons_succ];rfl) (by kernel_rfl) ?_;refine Z3t (us:=[(a2.getD (2:Int).toNat default).Who,(a2.getD (2:Int).toNat default).What,(a2.getD (2:Int).toNat default).U,(a2.getD (2:Int).toNat default).Arc,(a2.getD (2:Int).toNat default).D,(a2.getD (2:Int).toNat default).H,(a2.getD (2:Int).toNat default).Low]) (ws:=[0,2,1,0,0,3,3]) [.i64,.u8,.i64,.i64,.i64,.i64,.i64] Z29 rr9 ?_;refine Xp Zf ?_;refine dN ?_;refine Zq (aT [1,75] rfl) ?_;rcases Zv H with ⟨j6,H⟩ | ⟨j6,H⟩
       ·refine Xk rfl j6 ?_;refine sR Y1 rfl ?_;refine aN Za ?_;refine T.ret ?_;refine Yg ?_;refine Lo (Hs:=[(eC f4 #[iV r3.C.N,iV r3.C.S,iV r3.C.T,sV c3 n7 c8,sV a4 d8 c12,sV a5 d9 c16,sV a6 e0 c20,sV a7 e2 c24,sV a8 n27 c28,iV r3.L.Verts,iV r3.L.Arcs,iV r3.L.Workers,iV r3.L.Room,iV r3.L.Res,iV r3.L.Ex,iV r3.L.H,iV r3.L.Flag,iV r3.L.Pending,iV r3.L.Ask,iV r3.L.Count,iV r3.L.Sense,iV r3.L.Deques,iV r3.L.Size,pV e4,sV b7 n36 c37,sV b8 g5 c42] 36),(eI c3 r3.C.First j9 3),(eI a4 r3.C.Head f6 3),(eI a5 r3.C.Rev f7 3),(eI a6 r3.C.Cap f8 2),(eI a7 r3.C.Arc f9 3),(eA a8 boolC r3.C.Back g0 4),(eC e4 #[sV b5 n32 c33] 95),(eI b5 d3 g1 100),(eA b7 Xd a9 g2 40),(eI b8 r3.Dealt g3 3),(eA e6 Vs a2 f5 63)]) (Tl:=Yz (Zj ((sb c3),n7,c8) ((sb a4),d8,c12) ((sb a5),d9,c16) ((sb a6),e0,c20) ((sb a7),e2,c24) ((sb a8),n27,c28)) 65 a9 e7) ?_;obtain rfl:=ret1 H;exact Zw Za (Res.tmp rfl) Zg ⟨rfl,rfl⟩
       ·
        refine Xs rfl (Bool.eq_false_iff.2 j6) ?_;refine T.skip ?_;refine Yk ?_;refine Zn ?_;obtain ⟨b6,m0,H⟩:=Zk H;refine Z3l (bs:=a9) (ws:=e7) (k:=0) (Es:=[(eC f4 #[iV r3.C.N,iV r3.C.S,iV r3.C.T,sV c3 n7 c8,sV a4 d8 c12,sV a5 d9 c16,sV a6 e0 c20,sV a7 e2 c24,sV a8 n27 c28,iV r3.L.Verts,iV r3.L.Arcs,iV r3.L.Workers,iV r3.L.Room,iV r3.L.Res,iV r3.L.Ex,iV r3.L.H,iV r3.L.Flag,iV r3.L.Pending,iV r3.L.Ask,iV r3.L.Count,iV r3.L.Sense,iV r3.L.Deques,iV r3.L.Size,pV e4,sV b7 n36 c37,sV b8 g5 c42] 36),(eI c3 r3.C.First j9 3),(eI a4 r3.C.Head f6 3),(eI a5 r3.C.Rev f7 3),(eI a6 r3.C.Cap f8 2),(eI a7 r3.C.Arc f9 3),(eA a8 boolC r3.C.Back g0 4),(eC e4 #[sV b5 n32 c33] 95),(eI b5 d3 g1 100),(eA b7 Xd a9 g2 40),(eI b8 r3.Dealt g3 3),(eA e6 Vs a2 f5 63)]) g7 m0 Yt ?_;generalize g9:a9.getD (0:Int).toNat 0=m1;refine Z0y (H:=((some m1,.cells (Zj ((sb c3),n7,c8) ((sb a4),d8,c12) ((sb a5),d9,c16) ((sb a6),e0,c20) ((sb a7),e2,c24) ((sb a8),n27,c28) ({ b6 with c:=({ r3.C with N:=b6.c.N,S:=b6.c.S,T:=b6.c.T }:Csr) }:WorkerWorker)).toArray 65 (0,0))::(eC f4 #[iV r3.C.N,iV r3.C.S,iV r3.C.T,sV c3 n7 c8,sV a4 d8 c12,sV a5 d9 c16,sV a6 e0 c20,sV a7 e2 c24,sV a8 n27 c28,iV r3.L.Verts,iV r3.L.Arcs,iV r3.L.Workers,iV r3.L.Room,iV r3.L.Res,iV r3.L.Ex,iV r3.L.H,iV r3.L.Flag,iV r3.L.Pending,iV r3.L.Ask,iV r3.L.Count,iV r3.L.Sense,iV r3.L.Deques,iV r3.L.Size,pV e4,sV b7 n36 c37,sV b8 g5 c42] 36)::(eI c3 r3.C.First j9 3)::(eI a4 r3.C.Head f6 3)::(eI a5 r3.C.Rev f7 3)::(eI a6 r3.C.Cap f8 2)::(eI a7 r3.C.Arc f9 3)::(eA a8 boolC r3.C.Back g0 4)::(eC e4 #[sV b5 n32 c33] 95)::(eI b5 d3 g1 100)::(eA b7 Xd a9 g2 40)::(eI b8 r3.Dealt g3 3)::(eA e6 Vs a2 f5 63)::Yz (Zj ((sb c3),n7,c8) ((sb a4),d8,c12) ((sb a5),d9,c16) ((sb a6),e0,c20) ((sb a7),e2,c24) ((sb a8),n27,c28)) 65 (a9.eraseIdx (0:Int).toNat) (e7.eraseIdx (0:Int).toNat))) rfl ?_;obtain ⟨m2,H⟩:=Yh H;obtain ⟨v6,q0,H⟩:=Zk H;refine rG Y53 rfl ?_;refine Zl Za Gt ?_;refine Zr Za Nb Yu rfl ?_;refine Un h2 h1 h0 (Jc g7 m2) Zf Jv Ns ?_;refine Zd2 g9 h2 h1 h0 (Jc g7 m2) Za Z0c Rp ?_;refine Yd Vt Za (fun wc hwc=>Vr (w0:=({ b6 with c:=({ r3.C with N:=b6.c.N,S:=b6.c.S,T:=b6.c.T }:Csr) }:WorkerWorker)) wc (hwc.hb (cs:=(Zj ((sb c3),n7,c8) ((sb a4),d8,c12) ((sb a5),d9,c16) ((sb a6),e0,c20) ((sb a7),e2,c24) ((sb a8),n27,c28) ({ b6 with c:=({ r3.C with N:=b6.c.N,S:=b6.c.S,T:=b6.c.T }:Csr) }:WorkerWorker))) Zi) q0) ?_;rintro _ _ ⟨rfl,rfl⟩;refine Ze Za ?_;refine TO.join [6,7,8,9,10,11,12] [13,14,15,16,17,18,19,20,21,22,23,24,25,26,27,28,29,30,31,32,33,34,35,36,37,38,39,40,41,42,43,44,45,46,47,48,49,50,51,52] rfl 88 (fun m3=>Z80 r3 d3 m3=some r0) [(1,pV f4)] ?_ ?_
        ·
         rcases Zv H with ⟨j7,H⟩ | ⟨j7,H⟩
         ·obtain ⟨m4,H⟩:=Yh H;obtain ⟨q1,q2,H⟩:=Zk H;refine Yn (t:=81) (b':=true) rfl j7 ?_;refine Zl Za Gt ?_;refine Zr Za Nb Yu rfl ?_;refine Un h2 h1 h0 (Jc g7 m4) Zf Jv Ns ?_;refine Zd2 g9 h2 h1 h0 (Jc g7 m4) Za Z0c Rp ?_;refine Yd Znm Za (fun wc hwc=>Zou (w0:=({ b6 with c:=({ r3.C with N:=b6.c.N,S:=b6.c.S,T:=b6.c.T }:Csr) }:WorkerWorker)) wc (hwc.hb (cs:=(Zj ((sb c3),n7,c8) ((sb a4),d8,c12) ((sb a5),d9,c16) ((sb a6),e0,c20) ((sb a7),e2,c24) ((sb a8),n27,c28) ({ b6 with c:=({ r3.C with N:=b6.c.N,S:=b6.c.S,T:=b6.c.T }:Csr) }:WorkerWorker))) Zi) q2) ?_;rintro _ _ ⟨rfl,rfl⟩;refine Ye Zx ?_;refine Xr Zf ?_;refine Zm ?_;exact Vi (b:=(decide (q1=2))) H (aF rfl)
         ·refine Yn (t:=81) (b':=false) rfl (Bool.eq_false_iff.2 j7) ?_;refine Zp Za ?_;refine Zp Za ?_;refine Zp Za ?_;refine Zp Za ?_;refine Zp Za ?_;refine Zp Za ?_;refine Xp Zf ?_;refine Zm ?_;exact Vi (b:=false) H (aF rfl)
        ·
         rintro m3 H;unfold Z80 at H;refine Ze Za ?_;refine TO.join [14,15,16,17,18,19,20,21,22] [23,24,25,26,27,28,29,30,31,32,33,34,35,36,37,38,39,40,41,42,43,44,45,46,47,48,49,50,51,52] rfl 98 (fun m5=>Z81 r3 d3 m5=some r0) [(1,pV f4)] ?_ ?_
         ·
          rcases Zv H with ⟨j8,H⟩ | ⟨j8,H⟩
          ·obtain ⟨q3,H⟩:=Yh H;obtain ⟨q4,q5,H⟩:=Zk H;refine Yn (t:=89) (b':=true) rfl j8 ?_;refine Zl Za Lu ?_;refine Zr Za Re Yu rfl ?_;refine Zl Za Z19 ?_;refine TO.fieldAddr Za Nt ?_;refine Zr Za Zs Yu rfl ?_;refine Xl q3 Zf ?_;refine Yd Vu Za (fun wc hwc=>Vp (b0:=(CellsBank.mk d3)) (i1:=(r3.L.Ex+2)) wc (Kg hwc Ga i0 i4 i5) (hwc.hb (cs:=[sV b5 n32 c33]) mm8) q5) ?_;rintro _ _ ⟨rfl,rfl⟩;refine Ye Zx ?_;refine Xr Zf ?_;refine Zm ?_;exact Vi (b:=(decide (q4=3))) H (aF rfl)
          ·refine Yn (t:=89) (b':=false) rfl (Bool.eq_false_iff.2 j8) ?_;refine Zp Za ?_;refine Zp Za ?_;refine Zp Za ?_;refine Zp Za ?_;refine Zp Za ?_;refine Zp Za ?_;refine Zp Za ?_;refine Zp Za ?_;refine Xp Zf ?_;refine Zm ?_;exact Vi (b:=false) H (aF rfl)
         ·
          rintro m5 H;unfold Z81 at H;refine Ze Za ?_;refine TO.join [24,25,26,27,28,29,30,31,32] [33,34,35,36,37,38,39,40,41,42,43,44,45,46,47,48,49,50,51,52] rfl 108 (fun m6=>Za4 r3 d3 m6=some r0) [(1,pV f4)] ?_ ?_
          ·
           rcases Zv H with ⟨k2,H⟩ | ⟨k2,H⟩
           ·obtain ⟨q6,H⟩:=Yh H;obtain ⟨q7,q8,H⟩:=Zk H;refine Yn (t:=99) (b':=true) rfl k2 ?_;refine Zl Za Lu ?_;refine Zr Za Re Yu rfl ?_;refine Zl Za Z19 ?_;refine TO.fieldAddr Za Nt ?_;refine Zr Za Zs Yu rfl ?_;refine Xl q6 Zf ?_;refine Yd Vu Za (fun wc hwc=>Vp (b0:=(CellsBank.mk d3)) (i1:=(r3.L.Ex+1)) wc (Kg hwc Ga i0 i4 i5) (hwc.hb (cs:=[sV b5 n32 c33]) mm8) q8) ?_;rintro _ _ ⟨rfl,rfl⟩;refine Ye Zx ?_;refine Xr Zf ?_;refine Zm ?_;exact Vi (b:=(decide (q7=2))) H (aF rfl)
           ·refine Yn (t:=99) (b':=false) rfl (Bool.eq_false_iff.2 k2) ?_;refine Zp Za ?_;refine Zp Za ?_;refine Zp Za ?_;refine Zp Za ?_;refine Zp Za ?_;refine Zp Za ?_;refine Zp Za ?_;refine Zp Za ?_;refine Xp Zf ?_;refine Zm ?_;exact Vi (b:=false) H (aF rfl)
          ·
           rintro m6 H;unfold Za4 at H;refine Ze Za ?_;refine TO.join [34,35,36,37,38,39,40,41] [42,43,44,45,46,47,48,49,50,51,52] rfl 117 (fun m7=>Zb3 r3 d3 m7=some r0) [(1,pV f4)] ?_ ?_
           ·
            rcases Zv H with ⟨k3,H⟩ | ⟨k3,H⟩
            ·obtain ⟨q9,r1,H⟩:=Zk H;refine Yn (t:=109) (b':=true) rfl k3 ?_;refine Zl Za Lu ?_;refine Zr Za Re Yu rfl ?_;refine Zl Za Z19 ?_;refine TO.fieldAddr Za Z4d ?_;refine Zr Za Zs Yu rfl ?_;refine Yd Vu Za (fun wc hwc=>Vp (b0:=(CellsBank.mk d3)) (i1:=r3.L.Pending) wc (Kg hwc Ga i0 i4 i5) (hwc.hb (cs:=[sV b5 n32 c33]) mm8) r1) ?_;rintro _ _ ⟨rfl,rfl⟩;refine Ye Zx ?_;refine Xr Zf ?_;refine Zm ?_;exact Vi (b:=(decide (q9=0))) H (aF rfl)
            ·refine Yn (t:=109) (b':=false) rfl (Bool.eq_false_iff.2 k3) ?_;refine Zp Za ?_;refine Zp Za ?_;refine Zp Za ?_;refine Zp Za ?_;refine Zp Za ?_;refine Zp Za ?_;refine Zp Za ?_;refine Xp Zf ?_;refine Zm ?_;exact Vi (b:=false) H (aF rfl)
           ·
            rintro m7 H;unfold Zb3 at H;refine Ze Za ?_;refine TO.join [43,44,45,46,47,48,49,50,51] [52] rfl 127 (fun m8=>Z7b m8=some r0) [] ?_ ?_
            ·
             rcases Zv H with ⟨k4,H⟩ | ⟨k4,H⟩
             ·obtain ⟨r2,H⟩:=Yh H;obtain ⟨r5,r6,H⟩:=Zk H;refine Yn (t:=118) (b':=true) rfl k4 ?_;refine Zl Za Lu ?_;refine Zr Za Re Yu rfl ?_;refine Zl Za Z19 ?_;refine TO.fieldAddr Za Z1i ?_;refine Zr Za Zs Yu rfl ?_;refine Xl r2 Zf ?_;refine Yd Vu Za (fun wc hwc=>Vp (b0:=(CellsBank.mk d3)) (i1:=(r3.L.Flag+1)) wc (Kg hwc Ga i0 i4 i5) (hwc.hb (cs:=[sV b5 n32 c33]) mm8) r6) ?_;rintro _ _ ⟨rfl,rfl⟩;refine Ye Zx ?_;refine Xr Zf ?_;refine Zm ?_;exact Vi (b:=(decide (r5=0))) H (aF rfl)
             ·refine Yn (t:=118) (b':=false) rfl (Bool.eq_false_iff.2 k4) ?_;refine Zp Za ?_;refine Zp Za ?_;refine Zp Za ?_;refine Zp Za ?_;refine Zp Za ?_;refine Zp Za ?_;refine Zp Za ?_;refine Zp Za ?_;refine Xp Zf ?_;refine Zm ?_;exact Vi (b:=false) H (aF rfl)
            ·rintro m8 H;unfold Z7b at H;refine Ww Za ?_;refine Zm ?_;refine Z0b (f:=(Zj ((sb c3),n7,c8) ((sb a4),d8,c12) ((sb a5),d9,c16) ((sb a6),e0,c20) ((sb a7),e2,c24) ((sb a8),n27,c28))) (T':=65) (bs:=a9) (ws:=e7) (p:=(0:Int).toNat) (y:=({ b6 with c:=({ r3.C with N:=b6.c.N,S:=b6.c.S,T:=b6.c.T }:Csr) }:WorkerWorker)) (Es:=[(eC f4 #[iV r3.C.N,iV r3.C.S,iV r3.C.T,sV c3 n7 c8,sV a4 d8 c12,sV a5 d9 c16,sV a6 e0 c20,sV a7 e2 c24,sV a8 n27 c28,iV r3.L.Verts,iV r3.L.Arcs,iV r3.L.Workers,iV r3.L.Room,iV r3.L.Res,iV r3.L.Ex,iV r3.L.H,iV r3.L.Flag,iV r3.L.Pending,iV r3.L.Ask,iV r3.L.Count,iV r3.L.Sense,iV r3.L.Deques,iV r3.L.Size,pV e4,sV b7 n36 c37,sV b8 g5 c42] 36),(eI c3 r3.C.First j9 3),(eI a4 r3.C.Head f6 3),(eI a5 r3.C.Rev f7 3),(eI a6 r3.C.Cap f8 2),(eI a7 r3.C.Arc f9 3),(eA a8 boolC r3.C.Back g0 4),(eC e4 #[sV b5 n32 c33] 95),(eI b5 d3 g1 100),(eA b7 Xd a9 g2 40),(eI b8 r3.Dealt g3 3),(eA e6 Vs a2 f5 63)]) g7 (Np m0) g9 (Zd Zc (Zd Zc (Zd Zc (Zd Zc (Zd Zc (Zd Zc (Zd Zc (Zd Zc (Zd Zc (Zd Zc (Zd Zc (Zd Zc (Zd Zc (Yb _)))))))))))))) ?_;subst g9;refine Lp (H:=((some f4,.cells #[iV r3.C.N,iV r3.C.S,iV r3.C.T,sV c3 n7 c8,sV a4 d8 c12,sV a5 d9 c16,sV a6 e0 c20,sV a7 e2 c24,sV a8 n27 c28,iV r3.L.Verts,iV r3.L.Arcs,iV r3.L.Workers,iV r3.L.Room,iV r3.L.Res,iV r3.L.Ex,iV r3.L.H,iV r3.L.Flag,iV r3.L.Pending,iV r3.L.Ask,iV r3.L.Count,iV r3.L.Sense,iV r3.L.Deques,iV r3.L.Size,pV e4,sV b7 n36 c37,sV b8 g5 c42] 36 (0,0))::(eI c3 r3.C.First j9 3)::(eI a4 r3.C.Head f6 3)::(eI a5 r3.C.Rev f7 3)::(eI a6 r3.C.Cap f8 2)::(eI a7 r3.C.Arc f9 3)::(eA a8 boolC r3.C.Back g0 4)::(eC e4 #[sV b5 n32 c33] 95)::(eI b5 d3 g1 100)::(eA b7 Xd a9 g2 40)::(eI b8 r3.Dealt g3 3)::(eA e6 Vs a2 f5 63)::Yz (Zj ((sb c3),n7,c8) ((sb a4),d8,c12) ((sb a5),d9,c16) ((sb a6),e0,c20) ((sb a7),e2,c24) ((sb a8),n27,c28)) 65 a9 (e7.set (0:Int).toNat ({ b6 with c:=({ r3.C with N:=b6.c.N,S:=b6.c.S,T:=b6.c.T }:Csr) }:WorkerWorker)))) rfl ?_;refine Yk ?_;refine T.ret ?_;refine Lo (Hs:=[(eC f4 #[iV r3.C.N,iV r3.C.S,iV r3.C.T,sV c3 n7 c8,sV a4 d8 c12,sV a5 d9 c16,sV a6 e0 c20,sV a7 e2 c24,sV a8 n27 c28,iV r3.L.Verts,iV r3.L.Arcs,iV r3.L.Workers,iV r3.L.Room,iV r3.L.Res,iV r3.L.Ex,iV r3.L.H,iV r3.L.Flag,iV r3.L.Pending,iV r3.L.Ask,iV r3.L.Count,iV r3.L.Sense,iV r3.L.Deques,iV r3.L.Size,pV e4,sV b7 n36 c37,sV b8 g5 c42] 36),(eI c3 r3.C.First j9 3),(eI a4 r3.C.Head f6 3),(eI a5 r3.C.Rev f7 3),(eI a6 r3.C.Cap f8 2),(eI a7 r3.C.Arc f9 3),(eA a8 boolC r3.C.Back g0 4),(eC e4 #[sV b5 n32 c33] 95),(eI b5 d3 g1 100),(eA b7 Xd a9 g2 40),(eI b8 r3.Dealt g3 3),(eA e6 Vs a2 f5 63)]) (Tl:=Yz (Zj ((sb c3),n7,c8) ((sb a4),d8,c12) ((sb a5),d9,c16) ((sb a6),e0,c20) ((sb a7),e2,c24) ((sb a8),n27,c28)) 65 a9 (e7.set (0:Int).toNat ({ b6 with c:=({ r3.C with N:=b6.c.N,S:=b6.c.S,T:=b6.c.T }:Csr) }:WorkerWorker))) ?_;obtain rfl:=ret1 H;exact Zw Za (Res.tmp rfl) Zg ⟨rfl,rfl⟩
end Go.Proofs.YtcopaajoahfilaaGreat.Ax
namespace Go.Proofs.YtcopaajoahfilaaGreat.Ax
open Go Go.Acq Go.RowKit Go.Proofs
set_option maxHeartbeats 8000000
set_option maxRecDepth 20000
theorem Zpa:Yc Tryz.prog 10=true:=by kernel_rfl
theorem Zm7:Yc Tryz.prog 4=true:=by kernel_rfl
theorem Zeh:Yc Tryz.prog 5=true:=by kernel_rfl
theorem w_acequialaw16_WorkerOwns {n0:Net}{workers1 limit2:Int}{picks3:List Int}{f5 f4:Option Addr}{f3 f1 f2 f6:Nat}(w:World)(g2:RS w [] Xj 3 f5 f3 f1 n0.Arcs)(b7:RS w [] (intC .u8) 1 f4 f2 f6 picks3){r0:Bool}(H:Z6v n0 workers1 limit2 picks3=some r0):Fnc Tryz.prog 3 #[.agg #[iV n0.N,iV n0.S,iV n0.T,.slice f5 f3 f1],.int .u8 workers1,.int .u8 limit2,.slice f4 f2 f6] w [] (fun v N=>v=.bool r0∧N=[]):=by
 unfold Z6v at H;refine Zy (vs:=[.agg #[iV n0.N,iV n0.S,iV n0.T,.slice f5 f3 f1],.int .u8 workers1,.int .u8 limit2,.slice f4 f2 f6]) Tryz.func3 rfl rfl (Inv.refl w) ?_;refine sR Y2 rfl ?_;refine Wy Za ?_;intro b1;refine aN Za ?_;refine Zn ?_;obtain ⟨⟨r3,r4,r5⟩,e6,H⟩:=Zk H;refine rG Y12 rfl ?_;refine Wf Za Ua Zi rfl ?_;refine Ze Za ?_;refine Ze Za ?_;refine Yd Zm7 Za (fun wc hwc=>Zhz (n0:=n0) (workers1:=workers1) (limit2:=limit2) wc (g2.mono hwc) e6) ?_;rintro _ _ ⟨b8,n8,c9,d9,a2,b9,c13,d5,a3,c3,c17,d6,a4,d1,c21,d7,a5,n24,c25,e0,a6,n28,c29,e2,a7,n32,c33,e3,d3,a9,e4,c38,e5,b5,e7,c42,d8,a8,b6,e8,c47,e9,rfl,rfl,i5,i6,i7,i8,g3,g4,i9,g5,g6,g7,j0,g8,g9,h0,j1,h1,j2,j3,j4,j5,j6,j7,j8,j9,k2,k3,k4,k5,h2,h3,k6,h4,h5,h6,k7,h7,h8,k8,k9,l3,l4⟩;refine Z50 (Hs:=[(eA b8 Xj r3.Arcs d9 72),(eI a2 r4.C.First d5 3),(eI a3 r4.C.Head d6 3),(eI a4 r4.C.Rev d7 3),(eI a5 r4.C.Cap e0 2),(eI a6 r4.C.Arc e2 3),(eA a7 boolC r4.C.Back e3 4),(eC d3 #[sV a9 e4 c38] 95),(eI a9 r4.B.l e5 100),(eA b5 Xd a8 d8 40),(eI b6 r4.Dealt e9 3)]) (HE:=[(eC b1 #[iV n0.N,iV n0.S,iV n0.T,.slice f5 f3 f1] 24)]) (Tl:=Yz (Zj ((sb a2),b9,c13) ((sb a3),c3,c17) ((sb a4),d1,c21) ((sb a5),n24,c25) ((sb a6),n28,c29) ((sb a7),n32,c33)) 65 a8 r4.W) ?_;refine Ux (H:=((eA b8 Xj r3.Arcs d9 72)::(eI a2 r4.C.First d5 3)::(eI a3 r4.C.Head d6 3)::(eI a4 r4.C.Rev d7 3)::(eI a5 r4.C.Cap e0 2)::(eI a6 r4.C.Arc e2 3)::(eA a7 boolC r4.C.Back e3 4)::(eC d3 #[sV a9 e4 c38] 95)::(eI a9 r4.B.l e5 100)::(eA b5 Xd a8 d8 40)::(eI b6 r4.Dealt e9 3)::(eC b1 #[iV n0.N,iV n0.S,iV n0.T,.slice f5 f3 f1] 24)::Yz (Zj ((sb a2),b9,c13) ((sb a3),c3,c17) ((sb a4),d1,c21) ((sb a5),n24,c25) ((sb a6),n28,c29) ((sb a7),n32,c33)) 65 a8 r4.W)) rfl ?_;refine Ze Za ?_;refine TO.extract Zf ?_;refine TO.extract Zf ?_;refine TO.extract Zf ?_;refine Wk Zu Z1t ?_;intro d4;refine Wb Za tk12 Z4h Zu ?_;refine Wb Za Zt Z2c Zu ?_;refine aN Za ?_;refine Zq (aT [3,4,9,10] rfl) ?_;refine Zn ?_;refine sR Y2 rfl ?_;refine Ze Za ?_;refine TO.not Za ?_;refine dN ?_;rcases Zv H with ⟨g0,H⟩ | ⟨g0,H⟩
 ·refine Xk rfl g0 ?_;refine sR Y1 rfl ?_;refine aN Za ?_;refine T.ret ?_;refine Yg ?_;refine Lo (Hs:=[(eC d4 #[iV r4.C.N,iV r4.C.S,iV r4.C.T,sV a2 b9 c13,sV a3 c3 c17,sV a4 d1 c21,sV a5 n24 c25,sV a6 n28 c29,sV a7 n32 c33,iV r4.L.Verts,iV r4.L.Arcs,iV r4.L.Workers,iV r4.L.Room,iV r4.L.Res,iV r4.L.Ex,iV r4.L.H,iV r4.L.Flag,iV r4.L.Pending,iV r4.L.Ask,iV r4.L.Count,iV r4.L.Sense,iV r4.L.Deques,iV r4.L.Size,pV d3,sV b5 e7 c42,sV b6 e8 c47] 36),(eC b1 #[iV r3.N,iV r3.S,iV r3.T,sV b8 n8 c9] 24),(eA b8 Xj r3.Arcs d9 72),(eI a2 r4.C.First d5 3),(eI a3 r4.C.Head d6 3),(eI a4 r4.C.Rev d7 3),(eI a5 r4.C.Cap e0 2),(eI a6 r4.C.Arc e2 3),(eA a7 boolC r4.C.Back e3 4),(eC d3 #[sV a9 e4 c38] 95),(eI a9 r4.B.l e5 100),(eA b5 Xd a8 d8 40),(eI b6 r4.Dealt e9 3)]) (Tl:=Yz (Zj ((sb a2),b9,c13) ((sb a3),c3,c17) ((sb a4),d1,c21) ((sb a5),n24,c25) ((sb a6),n28,c29) ((sb a7),n32,c33)) 65 a8 r4.W) ?_;obtain rfl:=ret1 H;exact Zw Za (Res.tmp rfl) Zg ⟨rfl,rfl⟩
 ·
  refine Xs rfl (Bool.eq_false_iff.2 g0) ?_;refine T.skip ?_;refine Yk ?_;refine Zn ?_;obtain ⟨f9,H⟩:=Yh H;obtain ⟨⟨l5,f7,f8⟩,h9,H⟩:=Zk H;rcases Zv H with ⟨g1,H⟩ | ⟨g1,H⟩
  ·obtain ⟨l6,i4,H⟩:=Zk H;refine Xy 7 [0,1,2,3,4,5,6] rfl Xh (by kernel_rfl) (by kernel_rfl) rfl (by kernel_rfl) ?_;refine Zby Za Z26 Zi rfl ?_;refine TQ.move Za ?_;refine TQ.move Za ?_;refine Zbz (xs:=picks3) b7.len Zf Z3m ?_;refine TQ.min2 Zf ?_;refine TQ.slH (xs:=picks3) b7.len b7.cap f9 Zf Z3m Zcm ?_;refine TQ.makeFunc Zf ?_;refine Xx [7,8,9,10,11] Yt ?_;refine Ys Zeh Za (Kz (Es:=[(eC d4 #[iV r4.C.N,iV r4.C.S,iV r4.C.T,sV a2 b9 c13,sV a3 c3 c17,sV a4 d1 c21,sV a5 n24 c25,sV a6 n28 c29,sV a7 n32 c33,iV r4.L.Verts,iV r4.L.Arcs,iV r4.L.Workers,iV r4.L.Room,iV r4.L.Res,iV r4.L.Ex,iV r4.L.H,iV r4.L.Flag,iV r4.L.Pending,iV r4.L.Ask,iV r4.L.Count,iV r4.L.Sense,iV r4.L.Deques,iV r4.L.Size,pV d3,sV b5 e7 c42,sV b6 e8 c47] 36),(eC b1 #[iV r3.N,iV r3.S,iV r3.T,sV b8 n8 c9] 24),(eA b8 Xj r3.Arcs d9 72),(eI a2 r4.C.First d5 3),(eI a3 r4.C.Head d6 3),(eI a4 r4.C.Rev d7 3),(eI a5 r4.C.Cap e0 2),(eI a6 r4.C.Arc e2 3),(eA a7 boolC r4.C.Back e3 4),(eC d3 #[sV a9 e4 c38] 95),(eI a9 r4.B.l e5 100),(eA b5 Xd a8 d8 40),(eI b6 r4.Dealt e9 3)]) (Tl:=Yz (Zj ((sb a2),b9,c13) ((sb a3),c3,c17) ((sb a4),d1,c21) ((sb a5),n24,c25) ((sb a6),n28,c29) ((sb a7),n32,c33)) 65 a8 r4.W) (Zh Wi (Zh Wi (Gone.refl _)))) rfl (fun wc hwc=>Zg2 (p0:=r4) (picks1:=(picks3.take (min (picks3.length:Int) 1000).toNat)) (most2:=6000) (each3_0:=r3) (each3_1:=r4) wc rfl (hwc.self (Zd Wi (Zd Wi (Pick.skip (Pick.skip (Pick.skip (Pick.skip (Pick.skip (Pick.skip (Pick.skip (Pick.skip (Pick.skip (Pick.skip (Pick.skip (Yb _)))))))))))))) rfl) (hwc.rsM (f:=iC) (s:=1) (xs:=r4.C.First) (j:=d5) (fun _=>rfl) (Kz (Es:=[(eC d4 #[iV r4.C.N,iV r4.C.S,iV r4.C.T,sV a2 b9 c13,sV a3 c3 c17,sV a4 d1 c21,sV a5 n24 c25,sV a6 n28 c29,sV a7 n32 c33,iV r4.L.Verts,iV r4.L.Arcs,iV r4.L.Workers,iV r4.L.Room,iV r4.L.Res,iV r4.L.Ex,iV r4.L.H,iV r4.L.Flag,iV r4.L.Pending,iV r4.L.Ask,iV r4.L.Count,iV r4.L.Sense,iV r4.L.Deques,iV r4.L.Size,pV d3,sV b5 e7 c42,sV b6 e8 c47] 36),(eC b1 #[iV r3.N,iV r3.S,iV r3.T,sV b8 n8 c9] 24),(eA b8 Xj r3.Arcs d9 72),(eI a2 r4.C.First d5 3),(eI a3 r4.C.Head d6 3),(eI a4 r4.C.Rev d7 3),(eI a5 r4.C.Cap e0 2),(eI a6 r4.C.Arc e2 3),(eA a7 boolC r4.C.Back e3 4),(eC d3 #[sV a9 e4 c38] 95),(eI a9 r4.B.l e5 100),(eA b5 Xd a8 d8 40),(eI b6 r4.Dealt e9 3)]) (Tl:=Yz (Zj ((sb a2),b9,c13) ((sb a3),c3,c17) ((sb a4),d1,c21) ((sb a5),n24,c25) ((sb a6),n28,c29) ((sb a7),n32,c33)) 65 a8 r4.W) (Zh Wi (Zh Wi (Gone.refl _)))) rfl Kh g3 g4 g5) (hwc.rsM (f:=iC) (s:=1) (xs:=r4.C.Head) (j:=d6) (fun _=>rfl) (Kz (Es:=[(eC d4 #[iV r4.C.N,iV r4.C.S,iV r4.C.T,sV a2 b9 c13,sV a3 c3 c17,sV a4 d1 c21,sV a5 n24 c25,sV a6 n28 c29,sV a7 n32 c33,iV r4.L.Verts,iV r4.L.Arcs,iV r4.L.Workers,iV r4.L.Room,iV r4.L.Res,iV r4.L.Ex,iV r4.L.H,iV r4.L.Flag,iV r4.L.Pending,iV r4.L.Ask,iV r4.L.Count,iV r4.L.Sense,iV r4.L.Deques,iV r4.L.Size,pV d3,sV b5 e7 c42,sV b6 e8 c47] 36),(eC b1 #[iV r3.N,iV r3.S,iV r3.T,sV b8 n8 c9] 24),(eA b8 Xj r3.Arcs d9 72),(eI a2 r4.C.First d5 3),(eI a3 r4.C.Head d6 3),(eI a4 r4.C.Rev d7 3),(eI a5 r4.C.Cap e0 2),(eI a6 r4.C.Arc e2 3),(eA a7 boolC r4.C.Back e3 4),(eC d3 #[sV a9 e4 c38] 95),(eI a9 r4.B.l e5 100),(eA b5 Xd a8 d8 40),(eI b6 r4.Dealt e9 3)]) (Tl:=Yz (Zj ((sb a2),b9,c13) ((sb a3),c3,c17) ((sb a4),d1,c21) ((sb a5),n24,c25) ((sb a6),n28,c29) ((sb a7),n32,c33)) 65 a8 r4.W) (Zh Wi (Zh Wi (Gone.refl _)))) rfl Gz g6 g7 g8) (hwc.rsM (f:=iC) (s:=1) (xs:=r4.C.Rev) (j:=d7) (fun _=>rfl) (Kz (Es:=[(eC d4 #[iV r4.C.N,iV r4.C.S,iV r4.C.T,sV a2 b9 c13,sV a3 c3 c17,sV a4 d1 c21,sV a5 n24 c25,sV a6 n28 c29,sV a7 n32 c33,iV r4.L.Verts,iV r4.L.Arcs,iV r4.L.Workers,iV r4.L.Room,iV r4.L.Res,iV r4.L.Ex,iV r4.L.H,iV r4.L.Flag,iV r4.L.Pending,iV r4.L.Ask,iV r4.L.Count,iV r4.L.Sense,iV r4.L.Deques,iV r4.L.Size,pV d3,sV b5 e7 c42,sV b6 e8 c47] 36),(eC b1 #[iV r3.N,iV r3.S,iV r3.T,sV b8 n8 c9] 24),(eA b8 Xj r3.Arcs d9 72),(eI a2 r4.C.First d5 3),(eI a3 r4.C.Head d6 3),(eI a4 r4.C.Rev d7 3),(eI a5 r4.C.Cap e0 2),(eI a6 r4.C.Arc e2 3),(eA a7 boolC r4.C.Back e3 4),(eC d3 #[sV a9 e4 c38] 95),(eI a9 r4.B.l e5 100),(eA b5 Xd a8 d8 40),(eI b6 r4.Dealt e9 3)]) (Tl:=Yz (Zj ((sb a2),b9,c13) ((sb a3),c3,c17) ((sb a4),d1,c21) ((sb a5),n24,c25) ((sb a6),n28,c29) ((sb a7),n32,c33)) 65 a8 r4.W) (Zh Wi (Zh Wi (Gone.refl _)))) rfl mm5 g9 h0 h1) h2 h3 h4 (hwc.rsM (f:=Xd) (s:=1) (xs:=a8) (j:=d8) (fun _=>rfl) (Kz (Es:=[(eC d4 #[iV r4.C.N,iV r4.C.S,iV r4.C.T,sV a2 b9 c13,sV a3 c3 c17,sV a4 d1 c21,sV a5 n24 c25,sV a6 n28 c29,sV a7 n32 c33,iV r4.L.Verts,iV r4.L.Arcs,iV r4.L.Workers,iV r4.L.Room,iV r4.L.Res,iV r4.L.Ex,iV r4.L.H,iV r4.L.Flag,iV r4.L.Pending,iV r4.L.Ask,iV r4.L.Count,iV r4.L.Sense,iV r4.L.Deques,iV r4.L.Size,pV d3,sV b5 e7 c42,sV b6 e8 c47] 36),(eC b1 #[iV r3.N,iV r3.S,iV r3.T,sV b8 n8 c9] 24),(eA b8 Xj r3.Arcs d9 72),(eI a2 r4.C.First d5 3),(eI a3 r4.C.Head d6 3),(eI a4 r4.C.Rev d7 3),(eI a5 r4.C.Cap e0 2),(eI a6 r4.C.Arc e2 3),(eA a7 boolC r4.C.Back e3 4),(eC d3 #[sV a9 e4 c38] 95),(eI a9 r4.B.l e5 100),(eA b5 Xd a8 d8 40),(eI b6 r4.Dealt e9 3)]) (Tl:=Yz (Zj ((sb a2),b9,c13) ((sb a3),c3,c17) ((sb a4),d1,c21) ((sb a5),n24,c25) ((sb a6),n28,c29) ((sb a7),n32,c33)) 65 a8 r4.W) (Zh Wi (Zh Wi (Gone.refl _)))) rfl Ga h5 h6 h7) h8 ((RS.take b7 f9).monoM (by decide) hwc (Kz (Es:=[(eC d4 #[iV r4.C.N,iV r4.C.S,iV r4.C.T,sV a2 b9 c13,sV a3 c3 c17,sV a4 d1 c21,sV a5 n24 c25,sV a6 n28 c29,sV a7 n32 c33,iV r4.L.Verts,iV r4.L.Arcs,iV r4.L.Workers,iV r4.L.Room,iV r4.L.Res,iV r4.L.Ex,iV r4.L.H,iV r4.L.Flag,iV r4.L.Pending,iV r4.L.Ask,iV r4.L.Count,iV r4.L.Sense,iV r4.L.Deques,iV r4.L.Size,pV d3,sV b5 e7 c42,sV b6 e8 c47] 36),(eC b1 #[iV r3.N,iV r3.S,iV r3.T,sV b8 n8 c9] 24),(eA b8 Xj r3.Arcs d9 72),(eI a2 r4.C.First d5 3),(eI a3 r4.C.Head d6 3),(eI a4 r4.C.Rev d7 3),(eI a5 r4.C.Cap e0 2),(eI a6 r4.C.Arc e2 3),(eA a7 boolC r4.C.Back e3 4),(eC d3 #[sV a9 e4 c38] 95),(eI a9 r4.B.l e5 100),(eA b5 Xd a8 d8 40),(eI b6 r4.Dealt e9 3)]) (Tl:=Yz (Zj ((sb a2),b9,c13) ((sb a3),c3,c17) ((sb a4),d1,c21) ((sb a5),n24,c25) ((sb a6),n28,c29) ((sb a7),n32,c33)) 65 a8 r4.W) (Zh Wi (Zh Wi (Gone.refl _)))) rfl) (hwc.hbM (cs:=[iV r3.N,iV r3.S,iV r3.T,sV b8 n8 c9]) (Kz (Es:=[(eC d4 #[iV r4.C.N,iV r4.C.S,iV r4.C.T,sV a2 b9 c13,sV a3 c3 c17,sV a4 d1 c21,sV a5 n24 c25,sV a6 n28 c29,sV a7 n32 c33,iV r4.L.Verts,iV r4.L.Arcs,iV r4.L.Workers,iV r4.L.Room,iV r4.L.Res,iV r4.L.Ex,iV r4.L.H,iV r4.L.Flag,iV r4.L.Pending,iV r4.L.Ask,iV r4.L.Count,iV r4.L.Sense,iV r4.L.Deques,iV r4.L.Size,pV d3,sV b5 e7 c42,sV b6 e8 c47] 36),(eC b1 #[iV r3.N,iV r3.S,iV r3.T,sV b8 n8 c9] 24),(eA b8 Xj r3.Arcs d9 72),(eI a2 r4.C.First d5 3),(eI a3 r4.C.Head d6 3),(eI a4 r4.C.Rev d7 3),(eI a5 r4.C.Cap e0 2),(eI a6 r4.C.Arc e2 3),(eA a7 boolC r4.C.Back e3 4),(eC d3 #[sV a9 e4 c38] 95),(eI a9 r4.B.l e5 100),(eA b5 Xd a8 d8 40),(eI b6 r4.Dealt e9 3)]) (Tl:=Yz (Zj ((sb a2),b9,c13) ((sb a3),c3,c17) ((sb a4),d1,c21) ((sb a5),n24,c25) ((sb a6),n28,c29) ((sb a7),n32,c33)) 65 a8 r4.W) (Zh Wi (Zh Wi (Gone.refl _)))) rfl Yu) (hwc.hbM (cs:=[iV r4.C.N,iV r4.C.S,iV r4.C.T,sV a2 b9 c13,sV a3 c3 c17,sV a4 d1 c21,sV a5 n24 c25,sV a6 n28 c29,sV a7 n32 c33,iV r4.L.Verts,iV r4.L.Arcs,iV r4.L.Workers,iV r4.L.Room,iV r4.L.Res,iV r4.L.Ex,iV r4.L.H,iV r4.L.Flag,iV r4.L.Pending,iV r4.L.Ask,iV r4.L.Count,iV r4.L.Sense,iV r4.L.Deques,iV r4.L.Size,pV d3,sV b5 e7 c42,sV b6 e8 c47]) (Kz (Es:=[(eC d4 #[iV r4.C.N,iV r4.C.S,iV r4.C.T,sV a2 b9 c13,sV a3 c3 c17,sV a4 d1 c21,sV a5 n24 c25,sV a6 n28 c29,sV a7 n32 c33,iV r4.L.Verts,iV r4.L.Arcs,iV r4.L.Workers,iV r4.L.Room,iV r4.L.Res,iV r4.L.Ex,iV r4.L.H,iV r4.L.Flag,iV r4.L.Pending,iV r4.L.Ask,iV r4.L.Count,iV r4.L.Sense,iV r4.L.Deques,iV r4.L.Size,pV d3,sV b5 e7 c42,sV b6 e8 c47] 36),(eC b1 #[iV r3.N,iV r3.S,iV r3.T,sV b8 n8 c9] 24),(eA b8 Xj r3.Arcs d9 72),(eI a2 r4.C.First d5 3),(eI a3 r4.C.Head d6 3),(eI a4 r4.C.Rev d7 3),(eI a5 r4.C.Cap e0 2),(eI a6 r4.C.Arc e2 3),(eA a7 boolC r4.C.Back e3 4),(eC d3 #[sV a9 e4 c38] 95),(eI a9 r4.B.l e5 100),(eA b5 Xd a8 d8 40),(eI b6 r4.Dealt e9 3)]) (Tl:=Yz (Zj ((sb a2),b9,c13) ((sb a3),c3,c17) ((sb a4),d1,c21) ((sb a5),n24,c25) ((sb a6),n28,c29) ((sb a7),n32,c33)) 65 a8 r4.W) (Zh Wi (Zh Wi (Gone.refl _)))) rfl Zi) h9) ?_;rintro _ _ ⟨rfl,rfl,i0,i2⟩;refine Z50 (Hs:=[(eC d3 #[sV a9 e4 c38] 95),(eI a9 f7.l e5 100)]) (HE:=[(eC d4 #[iV r4.C.N,iV r4.C.S,iV r4.C.T,sV a2 b9 c13,sV a3 c3 c17,sV a4 d1 c21,sV a5 n24 c25,sV a6 n28 c29,sV a7 n32 c33,iV r4.L.Verts,iV r4.L.Arcs,iV r4.L.Workers,iV r4.L.Room,iV r4.L.Res,iV r4.L.Ex,iV r4.L.H,iV r4.L.Flag,iV r4.L.Pending,iV r4.L.Ask,iV r4.L.Count,iV r4.L.Sense,iV r4.L.Deques,iV r4.L.Size,pV d3,sV b5 e7 c42,sV b6 e8 c47] 36),(eC b1 #[iV r3.N,iV r3.S,iV r3.T,sV b8 n8 c9] 24),(eA b8 Xj r3.Arcs d9 72),(eI a2 r4.C.First d5 3),(eI a3 r4.C.Head d6 3),(eI a4 r4.C.Rev d7 3),(eI a5 r4.C.Cap e0 2),(eI a6 r4.C.Arc e2 3),(eA a7 boolC r4.C.Back e3 4),(eA b5 Xd a8 d8 40),(eI b6 r4.Dealt e9 3)]) (Tl:=Yz (Zj ((sb a2),b9,c13) ((sb a3),c3,c17) ((sb a4),d1,c21) ((sb a5),n24,c25) ((sb a6),n28,c29) ((sb a7),n32,c33)) 65 a8 f8) ?_;refine Ux (H:=((some d3,.cells #[sV a9 e4 c38] 95 (0,0))::(eI a9 f7.l e5 100)::(eC d4 #[iV r4.C.N,iV r4.C.S,iV r4.C.T,sV a2 b9 c13,sV a3 c3 c17,sV a4 d1 c21,sV a5 n24 c25,sV a6 n28 c29,sV a7 n32 c33,iV r4.L.Verts,iV r4.L.Arcs,iV r4.L.Workers,iV r4.L.Room,iV r4.L.Res,iV r4.L.Ex,iV r4.L.H,iV r4.L.Flag,iV r4.L.Pending,iV r4.L.Ask,iV r4.L.Count,iV r4.L.Sense,iV r4.L.Deques,iV r4.L.Size,pV d3,sV b5 e7 c42,sV b6 e8 c47] 36)::(eC b1 #[iV r3.N,iV r3.S,iV r3.T,sV b8 n8 c9] 24)::(eA b8 Xj r3.Arcs d9 72)::(eI a2 r4.C.First d5 3)::(eI a3 r4.C.Head d6 3)::(eI a4 r4.C.Rev d7 3)::(eI a5 r4.C.Cap e0 2)::(eI a6 r4.C.Arc e2 3)::(eA a7 boolC r4.C.Back e3 4)::(eA b5 Xd a8 d8 40)::(eI b6 r4.Dealt e9 3)::Yz (Zj ((sb a2),b9,c13) ((sb a3),c3,c17) ((sb a4),d1,c21) ((sb a5),n24,c25) ((sb a6),n28,c29) ((sb a7),n32,c33)) 65 a8 f8)) rfl ?_;refine Ze Za ?_;refine Yn (t:=29) (b':=true) rfl g1 ?_;refine Yd Zpa Za (fun wc hwc=>Zoe  wc  i4) ?_;rintro _ _ ⟨rfl,rfl⟩;refine Xr Zf ?_;refine aN Za ?_;refine Zq (aT [8] rfl) ?_;refine T.ret ?_;refine Lo (Hs:=[(eC d3 #[sV a9 e4 c38] 95),(eI a9 f7.l e5 100),(eC d4 #[iV r4.C.N,iV r4.C.S,iV r4.C.T,sV a2 b9 c13,sV a3 c3 c17,sV a4 d1 c21,sV a5 n24 c25,sV a6 n28 c29,sV a7 n32 c33,iV r4.L.Verts,iV r4.L.Arcs,iV r4.L.Workers,iV r4.L.Room,iV r4.L.Res,iV r4.L.Ex,iV r4.L.H,iV r4.L.Flag,iV r4.L.Pending,iV r4.L.Ask,iV r4.L.Count,iV r4.L.Sense,iV r4.L.Deques,iV r4.L.Size,pV d3,sV b5 e7 c42,sV b6 e8 c47] 36),(eC b1 #[iV r3.N,iV r3.S,iV r3.T,sV b8 n8 c9] 24),(eA b8 Xj r3.Arcs d9 72),(eI a2 r4.C.First d5 3),(eI a3 r4.C.Head d6 3),(eI a4 r4.C.Rev d7 3),(eI a5 r4.C.Cap e0 2),(eI a6 r4.C.Arc e2 3),(eA a7 boolC r4.C.Back e3 4),(eA b5 Xd a8 d8 40),(eI b6 r4.Dealt e9 3)]) (Tl:=Yz (Zj ((sb a2),b9,c13) ((sb a3),c3,c17) ((sb a4),d1,c21) ((sb a5),n24,c25) ((sb a6),n28,c29) ((sb a7),n32,c33)) 65 a8 f8) ?_;obtain rfl:=ret1 H;exact Zw Za (Res.tmp rfl) Zg ⟨rfl,rfl⟩
  ·refine Xy 7 [0,1,2,3,4,5,6] rfl Xh (by kernel_rfl) (by kernel_rfl) rfl (by kernel_rfl) ?_;refine Zby Za Z26 Zi rfl ?_;refine TQ.move Za ?_;refine TQ.move Za ?_;refine Zbz (xs:=picks3) b7.len Zf Z3m ?_;refine TQ.min2 Zf ?_;refine TQ.slH (xs:=picks3) b7.len b7.cap f9 Zf Z3m Zcm ?_;refine TQ.makeFunc Zf ?_;refine Xx [7,8,9,10,11] Yt ?_;refine Ys Zeh Za (Kz (Es:=[(eC d4 #[iV r4.C.N,iV r4.C.S,iV r4.C.T,sV a2 b9 c13,sV a3 c3 c17,sV a4 d1 c21,sV a5 n24 c25,sV a6 n28 c29,sV a7 n32 c33,iV r4.L.Verts,iV r4.L.Arcs,iV r4.L.Workers,iV r4.L.Room,iV r4.L.Res,iV r4.L.Ex,iV r4.L.H,iV r4.L.Flag,iV r4.L.Pending,iV r4.L.Ask,iV r4.L.Count,iV r4.L.Sense,iV r4.L.Deques,iV r4.L.Size,pV d3,sV b5 e7 c42,sV b6 e8 c47] 36),(eC b1 #[iV r3.N,iV r3.S,iV r3.T,sV b8 n8 c9] 24),(eA b8 Xj r3.Arcs d9 72),(eI a2 r4.C.First d5 3),(eI a3 r4.C.Head d6 3),(eI a4 r4.C.Rev d7 3),(eI a5 r4.C.Cap e0 2),(eI a6 r4.C.Arc e2 3),(eA a7 boolC r4.C.Back e3 4),(eC d3 #[sV a9 e4 c38] 95),(eI a9 r4.B.l e5 100),(eA b5 Xd a8 d8 40),(eI b6 r4.Dealt e9 3)]) (Tl:=Yz (Zj ((sb a2),b9,c13) ((sb a3),c3,c17) ((sb a4),d1,c21) ((sb a5),n24,c25) ((sb a6),n28,c29) ((sb a7),n32,c33)) 65 a8 r4.W) (Zh Wi (Zh Wi (Gone.refl _)))) rfl (fun wc hwc=>Zg2 (p0:=r4) (picks1:=(picks3.take (min (picks3.length:Int) 1000).toNat)) (most2:=6000) (each3_0:=r3) (each3_1:=r4) wc rfl (hwc.self (Zd Wi (Zd Wi (Pick.skip (Pick.skip (Pick.skip (Pick.skip (Pick.skip (Pick.skip (Pick.skip (Pick.skip (Pick.skip (Pick.skip (Pick.skip (Yb _)))))))))))))) rfl) (hwc.rsM (f:=iC) (s:=1) (xs:=r4.C.First) (j:=d5) (fun _=>rfl) (Kz (Es:=[(eC d4 #[iV r4.C.N,iV r4.C.S,iV r4.C.T,sV a2 b9 c13,sV a3 c3 c17,sV a4 d1 c21,sV a5 n24 c25,sV a6 n28 c29,sV a7 n32 c33,iV r4.L.Verts,iV r4.L.Arcs,iV r4.L.Workers,iV r4.L.Room,iV r4.L.Res,iV r4.L.Ex,iV r4.L.H,iV r4.L.Flag,iV r4.L.Pending,iV r4.L.Ask,iV r4.L.Count,iV r4.L.Sense,iV r4.L.Deques,iV r4.L.Size,pV d3,sV b5 e7 c42,sV b6 e8 c47] 36),(eC b1 #[iV r3.N,iV r3.S,iV r3.T,sV b8 n8 c9] 24),(eA b8 Xj r3.Arcs d9 72),(eI a2 r4.C.First d5 3),(eI a3 r4.C.Head d6 3),(eI a4 r4.C.Rev d7 3),(eI a5 r4.C.Cap e0 2),(eI a6 r4.C.Arc e2 3),(eA a7 boolC r4.C.Back e3 4),(eC d3 #[sV a9 e4 c38] 95),(eI a9 r4.B.l e5 100),(eA b5 Xd a8 d8 40),(eI b6 r4.Dealt e9 3)]) (Tl:=Yz (Zj ((sb a2),b9,c13) ((sb a3),c3,c17) ((sb a4),d1,c21) ((sb a5),n24,c25) ((sb a6),n28,c29) ((sb a7),n32,c33)) 65 a8 r4.W) (Zh Wi (Zh Wi (Gone.refl _)))) rfl Kh g3 g4 g5) (hwc.rsM (f:=iC) (s:=1) (xs:=r4.C.Head) (j:=d6) (fun _=>rfl) (Kz (Es:=[(eC d4 #[iV r4.C.N,iV r4.C.S,iV r4.C.T,sV a2 b9 c13,sV a3 c3 c17,sV a4 d1 c21,sV a5 n24 c25,sV a6 n28 c29,sV a7 n32 c33,iV r4.L.Verts,iV r4.L.Arcs,iV r4.L.Workers,iV r4.L.Room,iV r4.L.Res,iV r4.L.Ex,iV r4.L.H,iV r4.L.Flag,iV r4.L.Pending,iV r4.L.Ask,iV r4.L.Count,iV r4.L.Sense,iV r4.L.Deques,iV r4.L.Size,pV d3,sV b5 e7 c42,sV b6 e8 c47] 36),(eC b1 #[iV r3.N,iV r3.S,iV r3.T,sV b8 n8 c9] 24),(eA b8 Xj r3.Arcs d9 72),(eI a2 r4.C.First d5 3),(eI a3 r4.C.Head d6 3),(eI a4 r4.C.Rev d7 3),(eI a5 r4.C.Cap e0 2),(eI a6 r4.C.Arc e2 3),(eA a7 boolC r4.C.Back e3 4),(eC d3 #[sV a9 e4 c38] 95),(eI a9 r4.B.l e5 100),(eA b5 Xd a8 d8 40),(eI b6 r4.Dealt e9 3)]) (Tl:=Yz (Zj ((sb a2),b9,c13) ((sb a3),c3,c17) ((sb a4),d1,c21) ((sb a5),n24,c25) ((sb a6),n28,c29) ((sb a7),n32,c33)) 65 a8 r4.W) (Zh Wi (Zh Wi (Gone.refl _)))) rfl Gz g6 g7 g8) (hwc.rsM (f:=iC) (s:=1) (xs:=r4.C.Rev) (j:=d7) (fun _=>rfl) (Kz (Es:=[(eC d4 #[iV r4.C.N,iV r4.C.S,iV r4.C.T,sV a2 b9 c13,sV a3 c3 c17,sV a4 d1 c21,sV a5 n24 c25,sV a6 n28 c29,sV a7 n32 c33,iV r4.L.Verts,iV r4.L.Arcs,iV r4.L.Workers,iV r4.L.Room,iV r4.L.Res,iV r4.L.Ex,iV r4.L.H,iV r4.L.Flag,iV r4.L.Pending,iV r4.L.Ask,iV r4.L.Count,iV r4.L.Sense,iV r4.L.Deques,iV r4.L.Size,pV d3,sV b5 e7 c42,sV b6 e8 c47] 36),(eC b1 #[iV r3.N,iV r3.S,iV r3.T,sV b8 n8 c9] 24),(eA b8 Xj r3.Arcs d9 72),(eI a2 r4.C.First d5 3),(eI a3 r4.C.Head d6 3),(eI a4 r4.C.Rev d7 3),(eI a5 r4.C.Cap e0 2),(eI a6 r4.C.Arc e2 3),(eA a7 boolC r4.C.Back e3 4),(eC d3 #[sV a9 e4 c38] 95),(eI a9 r4.B.l e5 100),(eA b5 Xd a8 d8 40),(eI b6 r4.Dealt e9 3)]) (Tl:=Yz (Zj ((sb a2),b9,c13) ((sb a3),c3,c17) ((sb a4),d1,c21) ((sb a5),n24,c25) ((sb a6),n28,c29) ((sb a7),n32,c33)) 65 a8 r4.W) (Zh Wi (Zh Wi (Gone.refl _)))) rfl mm5 g9 h0 h1) h2 h3 h4 (hwc.rsM (f:=Xd) (s:=1) (xs:=a8) (j:=d8) (fun _=>rfl) (Kz (Es:=[(eC d4 #[iV r4.C.N,iV r4.C.S,iV r4.C.T,sV a2 b9 c13,sV a3 c3 c17,sV a4 d1 c21,sV a5 n24 c25,sV a6 n28 c29,sV a7 n32 c33,iV r4.L.Verts,iV r4.L.Arcs,iV r4.L.Workers,iV r4.L.Room,iV r4.L.Res,iV r4.L.Ex,iV r4.L.H,iV r4.L.Flag,iV r4.L.Pending,iV r4.L.Ask,iV r4.L.Count,iV r4.L.Sense,iV r4.L.Deques,iV r4.L.Size,pV d3,sV b5 e7 c42,sV b6 e8 c47] 36),(eC b1 #[iV r3.N,iV r3.S,iV r3.T,sV b8 n8 c9] 24),(eA b8 Xj r3.Arcs d9 72),(eI a2 r4.C.First d5 3),(eI a3 r4.C.Head d6 3),(eI a4 r4.C.Rev d7 3),(eI a5 r4.C.Cap e0 2),(eI a6 r4.C.Arc e2 3),(eA a7 boolC r4.C.Back e3 4),(eC d3 #[sV a9 e4 c38] 95),(eI a9 r4.B.l e5 100),(eA b5 Xd a8 d8 40),(eI b6 r4.Dealt e9 3)]) (Tl:=Yz (Zj ((sb a2),b9,c13) ((sb a3),c3,c17) ((sb a4),d1,c21) ((sb a5),n24,c25) ((sb a6),n28,c29) ((sb a7),n32,c33)) 65 a8 r4.W) (Zh Wi (Zh Wi (Gone.refl _)))) rfl Ga h5 h6 h7) h8 ((RS.take b7 f9).monoM (by decide) hwc (Kz (Es:=[(eC d4 #[iV r4.C.N,iV r4.C.S,iV r4.C.T,sV a2 b9 c13,sV a3 c3 c17,sV a4 d1 c21,sV a5 n24 c25,sV a6 n28 c29,sV a7 n32 c33,iV r4.L.Verts,iV r4.L.Arcs,iV r4.L.Workers,iV r4.L.Room,iV r4.L.Res,iV r4.L.Ex,iV r4.L.H,iV r4.L.Flag,iV r4.L.Pending,iV r4.L.Ask,iV r4.L.Count,iV r4.L.Sense,iV r4.L.Deques,iV r4.L.Size,pV d3,sV b5 e7 c42,sV b6 e8 c47] 36),(eC b1 #[iV r3.N,iV r3.S,iV r3.T,sV b8 n8 c9] 24),(eA b8 Xj r3.Arcs d9 72),(eI a2 r4.C.First d5 3),(eI a3 r4.C.Head d6 3),(eI a4 r4.C.Rev d7 3),(eI a5 r4.C.Cap e0 2),(eI a6 r4.C.Arc e2 3),(eA a7 boolC r4.C.Back e3 4),(eC d3 #[sV a9 e4 c38] 95),(eI a9 r4.B.l e5 100),(eA b5 Xd a8 d8 40),(eI b6 r4.Dealt e9 3)]) (Tl:=Yz (Zj ((sb a2),b9,c13) ((sb a3),c3,c17) ((sb a4),d1,c21) ((sb a5),n24,c25) ((sb a6),n28,c29) ((sb a7),n32,c33)) 65 a8 r4.W) (Zh Wi (Zh Wi (Gone.refl _)))) rfl) (hwc.hbM (cs:=[iV r3.N,iV r3.S,iV r3.T,sV b8 n8 c9]) (Kz (Es:=[(eC d4 #[iV r4.C.N,iV r4.C.S,iV r4.C.T,sV a2 b9 c13,sV a3 c3 c17,sV a4 d1 c21,sV a5 n24 c25,sV a6 n28 c29,sV a7 n32 c33,iV r4.L.Verts,iV r4.L.Arcs,iV r4.L.Workers,iV r4.L.Room,iV r4.L.Res,iV r4.L.Ex,iV r4.L.H,iV r4.L.Flag,iV r4.L.Pending,iV r4.L.Ask,iV r4.L.Count,iV r4.L.Sense,iV r4.L.Deques,iV r4.L.Size,pV d3,sV b5 e7 c42,sV b6 e8 c47] 36),(eC b1 #[iV r3.N,iV r3.S,iV r3.T,sV b8 n8 c9] 24),(eA b8 Xj r3.Arcs d9 72),(eI a2 r4.C.First d5 3),(eI a3 r4.C.Head d6 3),(eI a4 r4.C.Rev d7 3),(eI a5 r4.C.Cap e0 2),(eI a6 r4.C.Arc e2 3),(eA a7 boolC r4.C.Back e3 4),(eC d3 #[sV a9 e4 c38] 95),(eI a9 r4.B.l e5 100),(eA b5 Xd a8 d8 40),(eI b6 r4.Dealt e9 3)]) (Tl:=Yz (Zj ((sb a2),b9,c13) ((sb a3),c3,c17) ((sb a4),d1,c21) ((sb a5),n24,c25) ((sb a6),n28,c29) ((sb a7),n32,c33)) 65 a8 r4.W) (Zh Wi (Zh Wi (Gone.refl _)))) rfl Yu) (hwc.hbM (cs:=[iV r4.C.N,iV r4.C.S,iV r4.C.T,sV a2 b9 c13,sV a3 c3 c17,sV a4 d1 c21,sV a5 n24 c25,sV a6 n28 c29,sV a7 n32 c33,iV r4.L.Verts,iV r4.L.Arcs,iV r4.L.Workers,iV r4.L.Room,iV r4.L.Res,iV r4.L.Ex,iV r4.L.H,iV r4.L.Flag,iV r4.L.Pending,iV r4.L.Ask,iV r4.L.Count,iV r4.L.Sense,iV r4.L.Deques,iV r4.L.Size,pV d3,sV b5 e7 c42,sV b6 e8 c47]) (Kz (Es:=[(eC d4 #[iV r4.C.N,iV r4.C.S,iV r4.C.T,sV a2 b9 c13,sV a3 c3 c17,sV a4 d1 c21,sV a5 n24 c25,sV a6 n28 c29,sV a7 n32 c33,iV r4.L.Verts,iV r4.L.Arcs,iV r4.L.Workers,iV r4.L.Room,iV r4.L.Res,iV r4.L.Ex,iV r4.L.H,iV r4.L.Flag,iV r4.L.Pending,iV r4.L.Ask,iV r4.L.Count,iV r4.L.Sense,iV r4.L.Deques,iV r4.L.Size,pV d3,sV b5 e7 c42,sV b6 e8 c47] 36),(eC b1 #[iV r3.N,iV r3.S,iV r3.T,sV b8 n8 c9] 24),(eA b8 Xj r3.Arcs d9 72),(eI a2 r4.C.First d5 3),(eI a3 r4.C.Head d6 3),(eI a4 r4.C.Rev d7 3),(eI a5 r4.C.Cap e0 2),(eI a6 r4.C.Arc e2 3),(eA a7 boolC r4.C.Back e3 4),(eC d3 #[sV a9 e4 c38] 95),(eI a9 r4.B.l e5 100),(eA b5 Xd a8 d8 40),(eI b6 r4.Dealt e9 3)]) (Tl:=Yz (Zj ((sb a2),b9,c13) ((sb a3),c3,c17) ((sb a4),d1,c21) ((sb a5),n24,c25) ((sb a6),n28,c29) ((sb a7),n32,c33)) 65 a8 r4.W) (Zh Wi (Zh Wi (Gone.refl _)))) rfl Zi) h9) ?_;rintro _ _ ⟨rfl,rfl,i0,i2⟩;refine Z50 (Hs:=[(eC d3 #[sV a9 e4 c38] 95),(eI a9 f7.l e5 100)]) (HE:=[(eC d4 #[iV r4.C.N,iV r4.C.S,iV r4.C.T,sV a2 b9 c13,sV a3 c3 c17,sV a4 d1 c21,sV a5 n24 c25,sV a6 n28 c29,sV a7 n32 c33,iV r4.L.Verts,iV r4.L.Arcs,iV r4.L.Workers,iV r4.L.Room,iV r4.L.Res,iV r4.L.Ex,iV r4.L.H,iV r4.L.Flag,iV r4.L.Pending,iV r4.L.Ask,iV r4.L.Count,iV r4.L.Sense,iV r4.L.Deques,iV r4.L.Size,pV d3,sV b5 e7 c42,sV b6 e8 c47] 36),(eC b1 #[iV r3.N,iV r3.S,iV r3.T,sV b8 n8 c9] 24),(eA b8 Xj r3.Arcs d9 72),(eI a2 r4.C.First d5 3),(eI a3 r4.C.Head d6 3),(eI a4 r4.C.Rev d7 3),(eI a5 r4.C.Cap e0 2),(eI a6 r4.C.Arc e2 3),(eA a7 boolC r4.C.Back e3 4),(eA b5 Xd a8 d8 40),(eI b6 r4.Dealt e9 3)]) (Tl:=Yz (Zj ((sb a2),b9,c13) ((sb a3),c3,c17) ((sb a4),d1,c21) ((sb a5),n24,c25) ((sb a6),n28,c29) ((sb a7),n32,c33)) 65 a8 f8) ?_;refine Ux (H:=((some d3,.cells #[sV a9 e4 c38] 95 (0,0))::(eI a9 f7.l e5 100)::(eC d4 #[iV r4.C.N,iV r4.C.S,iV r4.C.T,sV a2 b9 c13,sV a3 c3 c17,sV a4 d1 c21,sV a5 n24 c25,sV a6 n28 c29,sV a7 n32 c33,iV r4.L.Verts,iV r4.L.Arcs,iV r4.L.Workers,iV r4.L.Room,iV r4.L.Res,iV r4.L.Ex,iV r4.L.H,iV r4.L.Flag,iV r4.L.Pending,iV r4.L.Ask,iV r4.L.Count,iV r4.L.Sense,iV r4.L.Deques,iV r4.L.Size,pV d3,sV b5 e7 c42,sV b6 e8 c47] 36)::(eC b1 #[iV r3.N,iV r3.S,iV r3.T,sV b8 n8 c9] 24)::(eA b8 Xj r3.Arcs d9 72)::(eI a2 r4.C.First d5 3)::(eI a3 r4.C.Head d6 3)::(eI a4 r4.C.Rev d7 3)::(eI a5 r4.C.Cap e0 2)::(eI a6 r4.C.Arc e2 3)::(eA a7 boolC r4.C.Back e3 4)::(eA b5 Xd a8 d8 40)::(eI b6 r4.Dealt e9 3)::Yz (Zj ((sb a2),b9,c13) ((sb a3),c3,c17) ((sb a4),d1,c21) ((sb a5),n24,c25) ((sb a6),n28,c29) ((sb a7),n32,c33)) 65 a8 f8)) rfl ?_;refine Ze Za ?_;refine Yn (t:=29) (b':=false) rfl (Bool.eq_false_iff.2 g1) ?_;refine Zp Za ?_;refine Xp Zf ?_;refine aN Za ?_;refine Zq (aT [8] rfl) ?_;refine T.ret ?_;refine Lo (Hs:=[(eC d3 #[sV a9 e4 c38] 95),(eI a9 f7.l e5 100),(eC d4 #[iV r4.C.N,iV r4.C.S,iV r4.C.T,sV a2 b9 c13,sV a3 c3 c17,sV a4 d1 c21,sV a5 n24 c25,sV a6 n28 c29,sV a7 n32 c33,iV r4.L.Verts,iV r4.L.Arcs,iV r4.L.Workers,iV r4.L.Room,iV r4.L.Res,iV r4.L.Ex,iV r4.L.H,iV r4.L.Flag,iV r4.L.Pending,iV r4.L.Ask,iV r4.L.Count,iV r4.L.Sense,iV r4.L.Deques,iV r4.L.Size,pV d3,sV b5 e7 c42,sV b6 e8 c47] 36),(eC b1 #[iV r3.N,iV r3.S,iV r3.T,sV b8 n8 c9] 24),(eA b8 Xj r3.Arcs d9 72),(eI a2 r4.C.First d5 3),(eI a3 r4.C.Head d6 3),(eI a4 r4.C.Rev d7 3),(eI a5 r4.C.Cap e0 2),(eI a6 r4.C.Arc e2 3),(eA a7 boolC r4.C.Back e3 4),(eA b5 Xd a8 d8 40),(eI b6 r4.Dealt e9 3)]) (Tl:=Yz (Zj ((sb a2),b9,c13) ((sb a3),c3,c17) ((sb a4),d1,c21) ((sb a5),n24,c25) ((sb a6),n28,c29) ((sb a7),n32,c33)) 65 a8 f8) ?_;obtain rfl:=ret1 H;exact Zw Za (Res.tmp rfl) Zg ⟨rfl,rfl⟩
end Go.Proofs.YtcopaajoahfilaaGreat.Ax
namespace Go.Acq
open Go
def Gy (a:Arc)(v:Nat):Nat:=if a.fr=a.to then 0 else if a.fr=v∨a.to=v then 1 else 0
def Uk (al:List Arc)(v:Nat):Nat→Nat
  | 0=>0
  | k+1=>Uk al v k+Gy (al.getD k default) v
def Xq (al:List Arc):Nat→Nat
  | 0=>0
  | v+1=>Xq al v+Uk al v al.length
def Ve (a:Arc)(s:Bool):Int:=if s then a.to else a.fr
def Zo (al:List Arc)(i:Nat)(s:Bool):Nat:=Xq al (Ve (al.getD i default) s).toNat+Uk al (Ve (al.getD i default) s).toNat i
def Nj (n:Nat)(al:List Arc):Prop:=∀ i,i<al.length→∀ s,0≤Ve (al.getD i default) s∧Ve (al.getD i default) s<n
theorem lset {α:Type}(xs:List α)(i j:Nat)(v d:α):(xs.set i v).getD j d=if i=j∧i<xs.length then v else xs.getD j d:=by
 rw [List.getD_eq_getElem?_getD,List.getD_eq_getElem?_getD,List.getElem?_set]
 split
 ·
  rename_i h;subst h
  split
  ·rename_i h2;simp [h2]
  ·rename_i h2;simp [h2]
 ·rename_i h;simp [h]
theorem Xw {α:Type}{xs:List α}{i j:Nat}{v d:α}(h:i≠j):(xs.set i v).getD j d=xs.getD j d:=by
 rw [lset,if_neg (fun e=>h e.1)]
theorem Rq {α:Type}{xs:List α}{i:Nat}{v d:α}(h:i<xs.length):(xs.set i v).getD i d=v:=by
 rw [lset,if_pos ⟨rfl,h⟩]
theorem Z7f {α:Type}(n j:Nat)(v:α):(List.replicate n v).getD j v=v:=by
 rw [List.getD_eq_getElem?_getD,List.getElem?_replicate];split <;> simp
theorem hit_le (a:Arc)(v:Nat):Gy a v≤1:=by unfold Gy;split;omega;split <;> omega
theorem cnt_mono {al:List Arc}{v i j:Nat}(h:i≤j):Uk al v i≤Uk al v j:=by
 induction h with
 | refl=>exact Nat.le_refl _
 | step _ ih=>exact Nat.le_trans ih (Nat.le_add_right _ _)
theorem Zal (al:List Arc)(v k:Nat):Uk al v k≤k:=by
 induction k with
 | zero=>exact Nat.le_refl _
 | succ k ih=>have:=hit_le (al.getD k default) v;simp only [Uk];omega
theorem Z4t {al:List Arc}{u v:Nat}(h:u≤v):Xq al u≤Xq al v:=by
 induction h with
 | refl=>exact Nat.le_refl _
 | step _ ih=>exact Nat.le_trans ih (Nat.le_add_right _ _)
theorem Zqf (al:List Arc)(v:Nat):Xq al v≤v*al.length:=by
 induction v with
 | zero=>exact Nat.zero_le _
 | succ v ih=>have:=Zal al v al.length;simp only [Xq,Nat.succ_mul];omega
theorem hit_vtx {a:Arc}{s:Bool}(h:a.fr≠a.to)(h0:0≤Ve a s):Gy a (Ve a s).toNat=1:=by
 unfold Gy;rw [if_neg h,if_pos]
 cases s
 ·left;simp only [Ve] at h0 ⊢;simp only [Bool.false_eq_true,if_false] at h0 ⊢;omega
 ·right;simp only [Ve] at h0 ⊢;simp only [if_true] at h0 ⊢;omega
theorem Z65 {al:List Arc}{i j:Nat}{s:Bool}(hij:i<j)(h:(al.getD i default).fr≠(al.getD i default).to)(h0:0≤Ve (al.getD i default) s) :
    Uk al (Ve (al.getD i default) s).toNat i<Uk al (Ve (al.getD i default) s).toNat j:=by
  have h1:=cnt_mono (al:=al) (v:=(Ve (al.getD i default) s).toNat) (i:=i+1) (j:=j) hij
  have h2:=hit_vtx h h0
  simp only [Uk] at h1
  omega
theorem Z1g {al:List Arc}{n i:Nat}{s:Bool}(hi:i<al.length)(h:(al.getD i default).fr≠(al.getD i default).to)(he:Nj n al):Zo al i s<Xq al n:=by
 have h1:=Z65 (s:=s) hi h (he i hi s).1
 have h2:=Z4t (al:=al) (u:=(Ve (al.getD i default) s).toNat+1) (v:=n) (by have:=he i hi s;omega)
 simp only [Xq] at h2
 unfold Zo;omega
theorem Z0m {al:List Arc}{n i j:Nat}{s t:Bool}(he:Nj n al)(hi:i<al.length)(hj:j<al.length)(h:(al.getD i default).fr≠(al.getD i default).to)(g:(al.getD j default).fr≠(al.getD j default).to)
    (e:Zo al i s=Zo al j t):i=j∧s=t:=by
  have hi1:=Z65 (s:=s) hi h (he i hi s).1
  have hj1:=Z65 (s:=t) hj g (he j hj t).1
  have hv:(Ve (al.getD i default) s).toNat=(Ve (al.getD j default) t).toNat:=by
    rcases Nat.lt_trichotomy (Ve (al.getD i default) s).toNat (Ve (al.getD j default) t).toNat with h1 | h1 | h1
    · have := Z4t (al := al) (u := (Ve (al.getD i default) s).toNat + 1) h1
      simp only [Xq] at this
      unfold Zo at e;omega
    ·exact h1
    · have := Z4t (al := al) (u := (Ve (al.getD j default) t).toNat + 1) h1
      simp only [Xq] at this
      unfold Zo at e;omega
  have hij:i=j:=by
    rcases Nat.lt_trichotomy i j with h1 | h1 | h1
    · have h2 := Z65 (s := s) h1 h (he i hi s).1
      unfold Zo at e;rw [hv] at e h2;omega
    ·exact h1
    · have h2 := Z65 (s := t) h1 g (he j hj t).1
      unfold Zo at e;rw [hv] at e;omega
  refine ⟨hij,?_⟩
  subst hij
  have h1:=(he i hi s).1
  have h2:=(he i hi t).1
  cases s <;> cases t <;> first | rfl | (simp only [Ve,Bool.false_eq_true,if_false,if_true] at hv h1 h2;omega)
theorem Zdw {al:List Arc}{v r:Nat}:∀ {k:Nat},r<Uk al v k→∃ i,i<k∧Uk al v i=r∧Gy (al.getD i default) v=1
 | 0,h=>by simp [Uk] at h
 | k+1,h=>by
  by_cases h1:r<Uk al v k
  ·obtain ⟨i,h2,h3⟩:=Zdw h1;exact ⟨i,by omega,h3⟩
  ·
   have:=hit_le (al.getD k default) v
   simp only [Uk] at h
   exact ⟨k,by omega,by omega,by omega⟩
theorem Zfd {al:List Arc}{p:Nat}:∀ {n:Nat},p<Xq al n→∃ v,v<n∧Xq al v≤p∧p<Xq al (v+1)
 | 0,h=>by simp [Xq] at h
 | n+1,h=>by
  by_cases h1:p<Xq al n
  ·obtain ⟨v,h2,h3⟩:=Zfd h1;exact ⟨v,by omega,h3⟩
  ·exact ⟨n,by omega,by omega,h⟩
theorem Zfe {al:List Arc}{n p:Nat}(h:p<Xq al n):∃ i s,i<al.length∧(al.getD i default).fr≠(al.getD i default).to∧Zo al i s=p∧0≤Ve (al.getD i default) s∧Ve (al.getD i default) s<n ∧
    Xq al (Ve (al.getD i default) s).toNat≤p∧p<Xq al ((Ve (al.getD i default) s).toNat+1):=by
  obtain ⟨v,hv,h1,h2⟩:=Zfd h
  simp only [Xq] at h2
  obtain ⟨i,hi,h3,h4⟩:=Zdw (al:=al) (v:=v) (r:=p - Xq al v) (k:=al.length) (by omega)
  unfold Gy at h4
  split at h4
  ·omega
  · rename_i hne
    split at h4
    · rename_i ho
      rcases ho with ho | ho
      ·refine ⟨i,false,hi,hne,?_,?_,?_,?_,?_⟩ <;> simp only [Zo,Ve,Bool.false_eq_true,if_false,ho,Int.toNat_natCast,Xq] <;> omega
      ·refine ⟨i,true,hi,hne,?_,?_,?_,?_,?_⟩ <;> simp only [Zo,Ve,if_true,ho,Int.toNat_natCast,Xq] <;> omega
    ·omega
def CsrAt (al:List Arc)(hs rs cs aa:List Int)(bs:List Bool)(k:Nat):Prop :=
  ∀ i,i<k→(al.getD i default).fr≠(al.getD i default).to→∀ s,
    hs.getD (Zo al i s) 0=Ve (al.getD i default) (!s)∧rs.getD (Zo al i s) 0=Zo al i (!s)∧cs.getD (Zo al i s) 0=(if s then 0 else (al.getD i default).cap) ∧
    aa.getD (Zo al i s) 0=i∧bs.getD (Zo al i s) false=s
structure CsrOK (al:List Arc)(n:Nat)(fs hs rs cs aa:List Int)(bs:List Bool):Prop where
  lf:fs.length=n+1
  lh:hs.length=Xq al n
  lr:rs.length=Xq al n
  lc:cs.length=Xq al n
  la:aa.length=Xq al n
  lb:bs.length=Xq al n
  hf:∀ v,v≤n→fs.getD v 0=Xq al v
  hat:CsrAt al hs rs cs aa bs al.length
theorem CsrAt.skip {al:List Arc}{hs rs cs aa:List Int}{bs:List Bool}{k:Nat}(h:CsrAt al hs rs cs aa bs k)(e:(al.getD k default).fr=(al.getD k default).to):CsrAt al hs rs cs aa bs (k+1):=by
 intro i hi hne s
 rcases Nat.lt_succ_iff_lt_or_eq.1 hi with h1 | h1
 ·exact h i h1 hne s
 ·subst h1;exact absurd e hne
theorem set2 {α:Type}{xs:List α}{p q j:Nat}{u v d:α}(hp:p<xs.length)(hq:q<xs.length)(hpq:p≠q) :
    ((xs.set p u).set q v).getD j d=if j=p then u else if j=q then v else xs.getD j d:=by
  rw [lset,lset]
  by_cases h1:j=p
  ·subst h1;rw [if_pos rfl,if_neg (fun e=>hpq e.1.symm),if_pos ⟨rfl,hp⟩]
  · rw [if_neg h1]
    by_cases h2:j=q
    ·subst h2;rw [if_pos rfl,if_pos ⟨rfl,by simpa using hq⟩]
    ·rw [if_neg h2,if_neg (fun e=>h2 e.1.symm),if_neg (fun e=>h1 e.1.symm)]
theorem CsrAt.put {al:List Arc}{n:Nat}{hs rs cs aa:List Int}{bs:List Bool}{k:Nat}(h:CsrAt al hs rs cs aa bs k)(he:Nj n al)(hk:k<al.length)(hne:(al.getD k default).fr≠(al.getD k default).to)
    (lh:hs.length=Xq al n)(lr:rs.length=Xq al n)(lc:cs.length=Xq al n)(la:aa.length=Xq al n)(lb:bs.length=Xq al n) :
    CsrAt al ((hs.set (Zo al k false) (al.getD k default).to).set (Zo al k true) (al.getD k default).fr) ((rs.set (Zo al k false) (Zo al k true)).set (Zo al k true) (Zo al k false))
      ((cs.set (Zo al k false) (al.getD k default).cap).set (Zo al k true) 0) ((aa.set (Zo al k false) k).set (Zo al k true) k) ((bs.set (Zo al k false) false).set (Zo al k true) true) (k+1):=by
  have hp:Zo al k false<Xq al n:=Z1g hk hne he
  have hq:Zo al k true<Xq al n:=Z1g hk hne he
  have hpq:Zo al k false≠Zo al k true:=fun e=>by have:=(Z0m he hk hk hne hne e).2;cases this
  intro i hi hni s
  have hil:i<al.length:=by omega
  rw [set2 (by omega) (by omega) hpq,set2 (by omega) (by omega) hpq,set2 (by omega) (by omega) hpq,set2 (by omega) (by omega) hpq,set2 (by omega) (by omega) hpq]
  by_cases hik:i=k
  · subst hik
    cases s
    ·simp [Ve]
    ·simp [Ve,hpq.symm]
  · have h1 : Zo al i s ≠ Zo al k false := fun e => hik (Z0m he hil hk hni hne e).1
    have h2:Zo al i s≠Zo al k true:=fun e=>hik (Z0m he hil hk hni hne e).1
    simp only [if_neg h1,if_neg h2]
    exact h i (by omega) hni s
def Counted (al:List Arc)(m k:Nat)(fs:List Int):Prop:=fs.length=m+1∧fs.getD 0 0=0∧∀ v:Int,0≤v→v<m→fs.getD (v+1).toNat 0=Uk al v.toNat k
def Summed (al:List Arc)(m k:Nat)(fs:List Int):Prop:=fs.length=m+1∧(∀ u,u≤k→fs.getD u 0=Xq al u)∧∀ u,k≤u→u<m→fs.getD (u+1) 0=Uk al u al.length
theorem Zch {al:List Arc}{v:Nat}(hv:v≤4096)(hl:al.length≤16384):Xq al v≤67108864 :=
 Nat.le_trans (Zqf al v) (Nat.mul_le_mul hv hl)
theorem Zkk (al:List Arc)(m:Nat){p:Nat}(h:p=m+1):Counted al m 0 (List.replicate p 0) :=
 ⟨by simp [h],Z7f _ _ _,fun v _ _=>by rw [Z7f];rfl⟩
theorem Counted.skip {al:List Arc}{m k:Nat}{fs:List Int}(h:Counted al m k fs)(e:(al.getD k default).fr=(al.getD k default).to):Counted al m (k+1) fs :=
 ⟨h.1,h.2.1,fun v h0 h1=>by rw [h.2.2 v h0 h1];simp only [Uk,Gy,if_pos e,Nat.add_zero]⟩
theorem Counted.put {al:List Arc}{m k:Nat}{fs:List Int}(h:Counted al m k fs)(he:Nj m al)(hk:k<al.length)(hne:(al.getD k default).fr≠(al.getD k default).to) :
    Counted al m (k+1) ((fs.set ((al.getD k default).fr+1).toNat (fs.getD ((al.getD k default).fr+1).toNat 0+1)).set ((al.getD k default).to+1).toNat
      ((fs.set ((al.getD k default).fr+1).toNat (fs.getD ((al.getD k default).fr+1).toNat 0+1)).getD ((al.getD k default).to+1).toNat 0+1)):=by
  have e0:=he k hk false
  have e1:=he k hk true
  simp only [Ve,Bool.false_eq_true,if_false,if_true] at e0 e1
  obtain ⟨hl,hz,hv⟩:=h
  refine ⟨by simpa using hl,?_,?_⟩
  ·rw [Xw (by omega),Xw (by omega)];exact hz
  · intro v h0 h1
    have hvv:=hv v h0 h1
    rw [Xw (i:=((al.getD k default).fr+1).toNat) (j:=((al.getD k default).to+1).toNat) (by omega),set2 (by omega) (by omega) (by omega)]
    simp only [Uk,Gy,if_neg hne]
    by_cases a1:v=(al.getD k default).fr
    ·rw [if_pos (by omega),if_pos (by omega),←a1,hvv];omega
    · rw [if_neg (by omega)]
      by_cases a2:v=(al.getD k default).to
      ·rw [if_pos (by omega),if_pos (by omega),←a2,hvv];omega
      ·rw [if_neg (by omega),if_neg (by omega),hvv];omega
theorem Counted.summed {al:List Arc}{m:Nat}{fs:List Int}(h:Counted al m al.length fs):Summed al m 0 fs :=
 ⟨h.1,fun u hu=>by rw [Nat.le_zero.1 hu];exact h.2.1,fun u _ hu=>by have:=h.2.2 u (by omega) (by omega);rw [show ((u:Int)+1).toNat=u+1 by omega] at this;simpa using this⟩
theorem Summed.put {al:List Arc}{m k:Nat}{fs:List Int}(h:Summed al m k fs)(hk:k<m){i:Nat}(hi:i=k+1):Summed al m (k+1) (fs.set i (fs.getD i 0+fs.getD k 0)):=by
 subst hi
 obtain ⟨hl,h1,h2⟩:=h
 refine ⟨by simpa using hl,fun u hu=>?_,fun u h3 h4=>?_⟩
 ·
  by_cases e:u=k+1
  ·subst e;rw [Rq (by omega),h1 k (Nat.le_refl _),h2 k (Nat.le_refl _) hk];simp [Xq];omega
  ·rw [Xw (by omega)];exact h1 u (by omega)
 ·rw [Xw (by omega)];exact h2 u (by omega) h4
theorem Z8t {N S T:Int}{al:List Arc}(h:Rb N S T al=0):(2≤N∧N≤4096)∧(al.length:Int)≤16384∧(Kb N S=true∧Kb N T=true∧S≠T)∧al.all (Gb N)=true∧al.all Nz=true∧(Kp 4611686018427387904 al).isSome=true:=by
 unfold Rb at h
 split at h
 ·omega
 ·
  rename_i h1
  split at h
  ·omega
  ·
   rename_i h2
   split at h
   ·omega
   ·
    rename_i h3
    split at h
    ·omega
    ·
     rename_i h4
     split at h
     ·omega
     ·
      rename_i h5
      split at h
      ·omega
      ·
       rename_i h6
       refine ⟨Classical.not_not.1 h1,Classical.not_not.1 h2,Classical.not_not.1 h3,by simpa using h4,by simpa using h5,?_⟩
       cases e:Kp 4611686018427387904 al <;> simp_all
theorem Zhn {m:Nat}{al:List Arc}(h:al.all (Gb (m:Int))=true):Nj m al:=by
 intro i hi s
 have h1:=List.all_eq_true.1 h _ (Z6g hi default)
 simp only [Gb,Kb,Bool.and_eq_true,decide_eq_true_eq] at h1
 cases s
 ·simp only [Ve,Bool.false_eq_true,if_false];exact h1.1
 ·simp only [Ve,if_true];exact h1.2
def MakeAt (al:List Arc)(m k:Nat)(nx hs rs cs aa:List Int)(bs:List Bool):Prop :=
  (nx.length=m+1∧hs.length=Xq al m∧rs.length=Xq al m∧cs.length=Xq al m∧aa.length=Xq al m∧bs.length=Xq al m) ∧
  CsrAt al hs rs cs aa bs k∧∀ v:Int,0≤v→v<m→nx.getD v.toNat 0=Xq al v.toNat+Uk al v.toNat k
theorem Znh {al:List Arc}{m:Nat}{fs:List Int}(hl:fs.length=m+1)(hf:∀ u,u≤m→fs.getD u 0=Xq al u) :
    MakeAt al m 0 fs (List.replicate (Xq al m) 0) (List.replicate (Xq al m) 0) (List.replicate (Xq al m) 0) (List.replicate (Xq al m) 0) (List.replicate (Xq al m) false):=by
  refine ⟨⟨hl,by simp,by simp,by simp,by simp,by simp⟩,fun i hi=>by omega,fun v h0 h1=>?_⟩
  rw [hf _ (by omega)];simp [Uk]
theorem MakeAt.skip {al:List Arc}{m k:Nat}{nx hs rs cs aa:List Int}{bs:List Bool}(h:MakeAt al m k nx hs rs cs aa bs)(e:(al.getD k default).fr=(al.getD k default).to):MakeAt al m (k+1) nx hs rs cs aa bs :=
 ⟨h.1,h.2.1.skip e,fun v h0 h1=>by rw [h.2.2 v h0 h1];simp only [Uk,Gy,if_pos e,Nat.add_zero]⟩
theorem MakeAt.at {al:List Arc}{m k:Nat}{nx hs rs cs aa:List Int}{bs:List Bool}(h:MakeAt al m k nx hs rs cs aa bs)(he:Nj m al)(hk:k<al.length)(s:Bool):nx.getD (Ve (al.getD k default) s).toNat 0=(Zo al k s:Nat):=by
 rw [h.2.2 _ (he k hk s).1 (he k hk s).2];simp only [Zo];omega
theorem MakeAt.put {al:List Arc}{m k:Nat}{nx hs rs cs aa:List Int}{bs:List Bool}(h:MakeAt al m k nx hs rs cs aa bs)(he:Nj m al)(hk:k<al.length)(hne:(al.getD k default).fr≠(al.getD k default).to) :
    MakeAt al m (k+1) ((nx.set (al.getD k default).fr.toNat ((Zo al k false:Nat)+1)).set (al.getD k default).to.toNat ((Zo al k true:Nat)+1))
      ((hs.set (Zo al k false) (al.getD k default).to).set (Zo al k true) (al.getD k default).fr) ((rs.set (Zo al k false) (Zo al k true)).set (Zo al k true) (Zo al k false))
      ((cs.set (Zo al k false) (al.getD k default).cap).set (Zo al k true) 0) ((aa.set (Zo al k false) k).set (Zo al k true) k) ((bs.set (Zo al k false) false).set (Zo al k true) true):=by
  have g0:=h.at he hk false
  have g1:=h.at he hk true
  obtain ⟨⟨l0,l1,l2,l3,l4,l5⟩,hA,hv⟩:=h
  have e0:=he k hk false
  have e1:=he k hk true
  simp only [Ve,Bool.false_eq_true,if_false,if_true] at e0 e1 g0 g1
  refine ⟨⟨by simpa using l0,by simpa using l1,by simpa using l2,by simpa using l3,by simpa using l4,by simpa using l5⟩,hA.put he hk hne l1 l2 l3 l4 l5,fun v h0 h1=>?_⟩
  have hvv:=hv v h0 h1
  rw [set2 (by omega) (by omega) (by omega)]
  simp only [Uk,Gy,if_neg hne]
  by_cases a1:v=(al.getD k default).fr
  ·rw [if_pos (by omega),if_pos (by omega),←g0,←a1,hvv];omega
  · rw [if_neg (by omega)]
    by_cases a2:v=(al.getD k default).to
    ·rw [if_pos (by omega),if_pos (by omega),←g1,←a2,hvv];omega
    ·rw [if_neg (by omega),if_neg (by omega),hvv];omega
theorem MakeAt.done {al:List Arc}{m:Nat}{fs nx hs rs cs aa:List Int}{bs:List Bool}(h:MakeAt al m al.length nx hs rs cs aa bs)(hl:fs.length=m+1)(hf:∀ u,u≤m→fs.getD u 0=Xq al u):CsrOK al m fs hs rs cs aa bs :=
 ⟨hl,h.1.2.1,h.1.2.2.1,h.1.2.2.2.1,h.1.2.2.2.2.1,h.1.2.2.2.2.2,hf,h.2.1⟩
end Go.Acq
namespace Go.Acq
open Go
theorem next_ne {S m:Int}(h0:0≤S)(h1:S<m)(h2:2≤m):0≤(S+1).tmod m∧(S+1).tmod m<m∧(S+1).tmod m≠S:=by
 rw [Int.tmod_eq_emod_of_nonneg (by omega)]
 refine ⟨Int.emod_nonneg _ (by omega),Int.emod_lt_of_pos _ (by omega),?_⟩
 by_cases h:S+1<m
 ·rw [Int.emod_eq_of_lt (by omega) h];omega
 ·rw [show S+1=m by omega,Int.emod_self];omega
theorem Zik {x n:Int}(h:0≤x)(hn:0<n):0≤x.tmod n∧x.tmod n<n:=by
 rw [Int.tmod_eq_emod_of_nonneg h]
 exact ⟨Int.emod_nonneg _ (by omega),Int.emod_lt_of_pos _ hn⟩
def SomeAt (m:Nat)(ol:List Arc):Prop:=∀ a,a∈ol→Gb m a=true∧0≤a.cap∧a.cap<1125899906842624
theorem SomeAt.put {m:Nat}{ol:List Arc}{a:Arc}(h:SomeAt m ol)(h1:0≤a.fr∧a.fr<m)(h2:0≤a.to∧a.to<m)(h3:0≤a.cap∧a.cap<1125899906842624):SomeAt m (ol++[a]):=by
 intro b hb
 rcases List.mem_append.1 hb with hb | hb
 ·exact h b hb
 ·
  simp only [List.mem_singleton] at hb
  subst hb
  exact ⟨by simp [Gb,Kb,h1,h2],h3⟩
theorem Zmd {m:Nat}{ol:List Arc}{left:Int}(h:SomeAt m ol)(hl:(ol.length:Int)*1125899906842624≤left):(Kp left ol).isSome=true:=by
 induction ol generalizing left with
 | nil=>simp [Kp]
 | cons a ol ih =>
  have ha:=(h a (.head _)).2
  simp only [List.length_cons] at hl
  have h2:(0:Int)≤(ol.length:Int)*1125899906842624:=by omega
  simp only [Kp]
  rw [if_neg (by omega)]
  exact ih (fun b hb=>h b (.tail _ hb)) (by omega)
theorem Zja {m:Nat}{S T:Int}{ol:List Arc}(hm:2≤m)(hm2:m≤4096)(hS:0≤S∧S<m)(hT:0≤T∧T<m)(hST:T≠S)(h:SomeAt m ol)(hl:ol.length≤4096):Rb m S T ol=0:=by
 have h1:ol.all (Gb m)=true:=List.all_eq_true.2 fun a ha=>(h a ha).1
 have h2:ol.all Nz=true:=List.all_eq_true.2 fun a ha=>by simp [Nz,(h a ha).2.1]
 have h3:(Kp 4611686018427387904 ol).isSome=true:=Zmd h (by omega)
 unfold Rb
 rw [if_neg (by omega),if_neg (by omega),if_neg (by simp [Kb,hS,hT,Ne.symm hST]),if_neg (by simp [h1]),if_neg (by simp [h2]),if_neg (by
  cases e:Kp 4611686018427387904 ol with
  | none=>rw [e] at h3;cases h3
  | some x=>simp)]
end Go.Acq
namespace Go.Acq
open Go
def turn (a:Arc):Arc:=⟨a.to,a.fr,a.cap⟩
theorem CsrOK.place {al:List Arc}{m:Nat}{fs hs rs cs aa:List Int}{bs:List Bool}(h:CsrOK al m fs hs rs cs aa bs){j:Nat}(hj:j<Xq al m) :
    ∃ i s,i<al.length∧(al.getD i default).fr≠(al.getD i default).to∧Zo al i s=j∧hs.getD j 0=Ve (al.getD i default) (!s)∧rs.getD j 0=Zo al i (!s)∧cs.getD j 0=(if s then 0 else (al.getD i default).cap)∧aa.getD j 0=i∧bs.getD j false=s:=by
  obtain ⟨i,s,hi,hne,hp,_⟩:=Zfe hj
  have:=h.hat i hi hne s
  rw [hp] at this
  exact ⟨i,s,hi,hne,hp,this⟩
end Go.Acq
namespace Go.Acq
open Go
theorem Z25 {α:Type}{m:Option α}{v:α}(h:Ok m (fun a=>a=v)):m=some v:=by obtain ⟨a,h1,h2⟩:=h;rw [h1,h2]
theorem Wn {α:Type}{m:Option α}{v:α}{Q:α→Prop}(h:m=some v)(q:Q v):Ok m Q:=⟨v,h,q⟩
abbrev lenok (n:Nat):Prop:=n≤9223372036854775807
theorem Z67 {x n:Int}(h1:n≤4611686018427387904):Ru x n=some (Nc x n):=by
 unfold Ru Nc
 by_cases h:n<1
 ·rw [if_pos h,if_pos h]
 ·
  have a1:=Int.tmod_lt_of_pos x (show 0<n by omega)
  have a2:=Zgx x (show 0<n by omega)
  rw [if_neg h,if_neg h,Xb (by omega),Xb (by constructor <;> omega),Xb (by omega)]
theorem Za8 (n:Net)(v:Int):Z0p n v=some (Kb n.N v):=by
 unfold Z0p Kb
 by_cases h:0≤v <;> simp [h]
theorem s_rules4 (n:Net)(a:Arc):Z6m n a=some (Gb n.N a):=by
 unfold Z6m Gb
 rw [Za8,Za8]
 simp only [Option.bind_some]
 cases Kb n.N a.fr <;> simp
theorem s_of4 (n:Net)(h:lenok n.Arcs.length):Z5o n=some (n.Arcs.all (Gb n.N)):=by
 refine Z25 ?_
 unfold Z5o Z8q Za6
 refine Ok.bind.2 (Ok.bind.2 (Ok.bind.2 (Zax (fun x=>0≤x∧x≤n.Arcs.length∧∀ i,i<x.toNat→Gb n.N (n.Arcs.getD i default)=true) (fun x=>(n.Arcs.length-x).toNat) ⟨by omega,by omega,fun i hi=>by omega⟩ (by unfold Xo;omega) ?_)))
 rintro x ⟨h0,h1,h2⟩
 unfold Z43 Z83
 refine Ok.ite.2 ⟨fun hx=>?_,fun hx=>?_⟩
 ·
  refine Ok.gd.2 ⟨(by omega),Ok.bind.2 (Ok.bind.2 (Wn (s_rules4 _ _) (Ok.some.2 (Ok.ite.2 ⟨fun hb=>?_,fun hb=>?_⟩))))⟩
  ·
   refine Ok.some.2 (Ok.some.2 (Ok.some.2 (Ok.some.2 ?_)))
   simp only [h0,decide_true,Bool.not_true]
   refine Eq.symm (Bool.eq_false_iff.2 fun hall=>?_)
   have:=List.all_eq_true.1 hall _ (Z6g (show x.toNat<n.Arcs.length by omega) default)
   rw [this] at hb;cases hb
  ·
   refine Ok.gd.2 ⟨(by omega),Ok.some.2 ⟨⟨by omega,by omega,fun i hi=>?_⟩,by omega⟩⟩
   rcases Nat.lt_or_ge i x.toNat with h3 | h3
   ·exact h2 i h3
   ·rw [show i=x.toNat by omega];simpa using hb
 ·
  refine Ok.some.2 (Ok.some.2 (Ok.some.2 (Ok.some.2 ?_)))
  refine Eq.symm (List.all_eq_true.2 fun a ha=>?_)
  obtain ⟨i,hi,rfl⟩:=List.getElem_of_mem ha
  have:=h2 i (by omega)
  rwa [List.getD_eq_getElem?_getD,List.getElem?_eq_getElem hi] at this
theorem s_of5 (n:Net)(h:lenok n.Arcs.length):Z4q n=some (n.Arcs.all Nz):=by
 refine Z25 ?_
 unfold Z4q Z7l Za2
 refine Ok.bind.2 (Ok.bind.2 (Ok.bind.2 (Zax (fun x=>0≤x∧x≤n.Arcs.length∧∀ i,i<x.toNat→Nz (n.Arcs.getD i default)=true) (fun x=>(n.Arcs.length-x).toNat) ⟨by omega,by omega,fun i hi=>by omega⟩ (by unfold Xo;omega) ?_)))
 rintro x ⟨h0,h1,h2⟩
 unfold Z61 Z6w Z91
 refine Ok.ite.2 ⟨fun hx=>?_,fun hx=>?_⟩
 ·
  refine Ok.gd.2 ⟨(by omega),Ok.bind.2 (Ok.bind.2 (Ok.some.2 (Ok.some.2 (Ok.ite.2 ⟨fun hb=>?_,fun hb=>?_⟩))))⟩
  ·
   refine Ok.some.2 (Ok.some.2 (Ok.some.2 (Ok.some.2 ?_)))
   simp only [h0,decide_true,Bool.not_true]
   refine Eq.symm (Bool.eq_false_iff.2 fun hall=>?_)
   have:=List.all_eq_true.1 hall _ (Z6g (show x.toNat<n.Arcs.length by omega) default)
   simp only [Nz] at this
   rw [this] at hb;cases hb
  ·
   refine Ok.gd.2 ⟨(by omega),Ok.some.2 ⟨⟨by omega,by omega,fun i hi=>?_⟩,by omega⟩⟩
   rcases Nat.lt_or_ge i x.toNat with h3 | h3
   ·exact h2 i h3
   ·rw [show i=x.toNat by omega];simpa [Nz] using hb
 ·
  refine Ok.some.2 (Ok.some.2 (Ok.some.2 (Ok.some.2 ?_)))
  refine Eq.symm (List.all_eq_true.2 fun a ha=>?_)
  obtain ⟨i,hi,rfl⟩:=List.getElem_of_mem ha
  have:=h2 i (by omega)
  rwa [List.getD_eq_getElem?_getD,List.getElem?_eq_getElem hi] at this
theorem s_Sum (n:Net)(h:lenok n.Arcs.length):Z68 n=some (match Kp 4611686018427387904 n.Arcs with | some l=>(4611686018427387904-l,true) | none=>(0,false)):=by
 refine Z25 ?_
 unfold Z68
 refine Ok.bind.2 (Zax (fun s=>0≤s.2∧s.2≤n.Arcs.length∧0≤s.1∧s.1≤4611686018427387904∧Kp 4611686018427387904 n.Arcs=Kp s.1 (n.Arcs.drop s.2.toNat)) (fun s=>(n.Arcs.length-s.2).toNat) ⟨by simp,by simp,by simp,by simp,by simp⟩ (by unfold Xo;simp;omega) ?_)
 rintro ⟨left,x⟩ ⟨h0,h1,h2,h3,h4⟩
 simp only at h0 h1 h2 h3 h4 ⊢
 unfold Z4l Z48
 refine Ok.ite.2 ⟨fun hx=>?_,fun hx=>?_⟩
 ·
  rw [Zpj (by omega)] at h4
  refine Ok.gd.2 ⟨(by omega),Ok.ite.2 ⟨fun hb=>?_,fun hb=>?_⟩⟩
  ·
   rw [if_pos rfl]
   refine Ok.some.2 (Ok.some.2 ?_)
   rw [h4,if_pos (.inl hb)]
  ·
   by_cases hc:left<(n.Arcs.getD x.toNat default).cap
   ·
    rw [if_pos (decide_eq_true hc)]
    refine Ok.some.2 (Ok.some.2 ?_)
    rw [h4,if_pos (.inr hc)]
   ·
    rw [if_neg (by simpa using hc)]
    refine Ok.gd.2 ⟨(by omega),Ok.gd.2 ⟨(by omega),Ok.some.2 ⟨⟨by simp only;omega,by simp only;omega,by simp only;omega,by simp only;omega,?_⟩,by simp only;omega⟩⟩⟩
    rw [h4,if_neg (by omega)]
    simp only
    rw [show (x+1).toNat=x.toNat+1 by omega]
 ·
  unfold Z6n
  refine Ok.some.2 (Ok.gd.2 ⟨(by omega),Ok.some.2 ?_⟩)
  rw [h4,List.drop_eq_nil_of_le (by omega)]
  rfl
theorem s_Check (n:Net)(h:lenok n.Arcs.length):Z41 n=some (Rb n.N n.S n.T n.Arcs):=by
 unfold Z41 Z8p Z8h Z88 Z9c Za1 Zar Z8x Z9y
 rw [Za8,Za8,s_of4 n h,s_of5 n h,s_Sum n h]
 unfold Rb
 simp only [Option.bind_some]
 by_cases h1:2≤n.N∧n.N≤4096
 ·
  rw [if_pos h1.1,if_neg (not_not_intro h1)]
  simp only [Option.bind_some,decide_eq_true h1.2,Bool.not_true,Bool.false_eq_true,if_false]
  by_cases h2:(n.Arcs.length:Int)≤16384
  ·
   rw [if_neg (by simp [h2]),if_neg (not_not_intro h2)]
   by_cases h3:Kb n.N n.S=true∧Kb n.N n.T=true∧n.S≠n.T
   ·
    rw [if_pos h3.1,if_pos h3.2.1,if_neg (not_not_intro h3)]
    simp only [Option.bind_some,decide_eq_true h3.2.2,Bool.not_true,Bool.false_eq_true,if_false]
    cases h4:n.Arcs.all (Gb n.N)
    ·simp
    ·
     cases h5:n.Arcs.all Nz
     ·simp
     ·cases h6:Kp 4611686018427387904 n.Arcs <;> simp
   ·
    rw [if_pos h3]
    by_cases a1:Kb n.N n.S=true
    ·
     by_cases a2:Kb n.N n.T=true
     ·
      have a3:¬n.S≠n.T:=fun e=>h3 ⟨a1,a2,e⟩
      simp [a1,a2,a3]
     ·simp [a1,a2]
    ·simp [a1]
  ·rw [if_pos (by simp [h2]),if_pos h2]
 ·
  rw [if_pos h1]
  by_cases a1:2≤n.N
  ·
   have a2:¬n.N≤4096:=fun e=>h1 ⟨a1,e⟩
   simp [a1,a2]
  ·simp [a1]
end Go.Acq
namespace Go.Acq
open Go
structure NetIn (n:Net):Prop where
  nN:i64ok n.N
  nS:i64ok n.S
  nT:i64ok n.T
  arcs:∀ a,a∈n.Arcs→i64ok a.fr∧i64ok a.to∧i64ok a.cap
  len:n.Arcs.length≤9223372036854775807
structure Made (n:Net)(v a:Int):Prop where
  check:Rb n.N n.S n.T n.Arcs=0
  rows:SomeAt n.N.toNat n.Arcs
  verts:n.N≤v
  arcs:(n.Arcs.length:Int)≤a
  ends:2≤n.N∧0≤n.S∧n.S<n.N∧0≤n.T∧n.T<n.N∧n.S≠n.T
theorem Made.nat {n:Net}{v a:Int}(h:Made n v a):∃ m:Nat,n.N=m∧SomeAt m n.Arcs:=⟨n.N.toNat,by have:=h.ends.1;omega,h.rows⟩
theorem s_Some {n:Net}{v a:Int}(h:NetIn n)(hv0:2≤v)(hv1:v≤4096)(ha0:0≤a)(ha1:a≤4096):Ok (Z4o n v a) (fun r=>Made r v a):=by
 have hN:=Z5v (x:=n.N) (n:=v-1) (by omega)
 unfold Z4o
 refine Ok.gd.2 ⟨(by omega),Ok.bind.2 (Wn (Z67 (by omega)) (Ok.gd.2 ⟨(by omega),?_⟩))⟩
 obtain ⟨m,hm⟩:∃ m:Nat,2+Nc n.N (v - 1)=m:=⟨(2+Nc n.N (v - 1)).toNat,by omega⟩
 rw [hm]
 have hS:=Z5v (x:=n.S) (n:=(m:Int)) (by omega)
 have hT:=Z5v (x:=n.T) (n:=(m:Int)) (by omega)
 refine Ok.bind.2 (Wn (Z67 (by omega)) (Ok.bind.2 (Wn (Z67 (by omega)) ?_)))
 have key:∀ t:Int,0≤t→t<m→t≠Nc n.S m→Ok (Z3u n a (Nc n.N (v-1)) (Nc n.S m) t) (fun r=>Made r v a):=by
  intro t t0 t1 t2
  unfold Z3u
  refine Ok.gd.2 ⟨(by omega),Ok.bind.2 ?_⟩
  obtain ⟨q,hq⟩:∃ q:Nat,min (n.Arcs.length:Int) a=q:=⟨(min (n.Arcs.length:Int) a).toNat,by omega⟩
  obtain ⟨al,hal⟩:∃ l,l=n.Arcs.take (q:Int).toNat:=⟨_,rfl⟩
  have hlen:al.length=q:=by rw [hal,List.length_take];omega
  have hcap:∀ b,b∈al→i64ok b.cap:=fun b hb=>(h.arcs b (List.mem_of_mem_take (by rw [←hal];exact hb))).2.2
  refine Jj (fun s=>∃ k:Nat,s.2=k∧k≤q∧s.1.length=k∧SomeAt m s.1) (fun s=>(q-s.2).toNat) ⟨0,rfl,by omega,rfl,fun b hb=>by cases hb⟩ (by unfold Xo;simp only;omega) ?_
  rintro ⟨ol,x⟩ ⟨k,h1,h2,h3,h4⟩ P next exit
  simp only at h1 h2 h3 h4 next ⊢
  subst h1
  unfold Z5g
  rw [hq,←hal]
  simp only [Int.toNat_natCast]
  refine Ok.ite.2 ⟨fun hx=>?_,fun hx=>?_⟩
  ·
   have hkl:k<al.length:=by omega
   have hc:=hcap _ (Z6g hkl default)
   have hj:∀ c:Int,0≤c→Ok (Z1s n a (Nc n.N (v-1)) ol k c) P:=by
    intro c hc0
    unfold Z1s
    rw [hq,←hal,hm]
    refine Ok.bind.2 (Wn (Z67 (by omega)) (Ok.bind.2 (Wn (Z67 (by omega)) (Ok.gd.2 ⟨?_,Ok.gd.2 ⟨(by omega),Ok.some.2 (next _ ⟨k+1,by simp,by omega,by simp [h3],?_⟩ (by simp only;omega))⟩⟩))))
    ·rw [List.length_append,h3];simp only [List.length_cons,List.length_nil];constructor <;> omega
    ·exact h4.put (Z5v (by omega)) (Z5v (by omega)) (Zik hc0 (by omega))
   refine Ok.gd.2 ⟨(by omega),Ok.ite.2 ⟨fun hn=>?_,fun hn=>?_⟩⟩
   ·exact Ok.gd.2 ⟨by constructor <;> omega,Ok.gd.2 ⟨by constructor <;> omega,hj (-((al.getD k default).cap+1)) (by omega)⟩⟩
   ·exact hj (al.getD k default).cap (by omega)
  ·
   refine Ok.some.2 (exit _ ?_)
   unfold Z7c
   refine Ok.some.2 ?_
   rw [hm]
   exact ⟨Zja (by omega) (by omega) hS ⟨t0,t1⟩ t2 h4 (show ol.length≤4096 by omega),by simpa using h4,by simp only;omega,by show (ol.length:Int)≤a;omega,⟨by simp only;omega,hS.1,hS.2,t0,t1,fun e=>t2 e.symm⟩⟩
 refine Ok.ite.2 ⟨fun he=>?_,fun he=>?_⟩
 ·
  refine Ok.gd.2 ⟨(by omega),Ok.gd.2 ⟨by omega,?_⟩⟩
  obtain ⟨n1,n2,n3⟩:=next_ne hS.1 hS.2 (by omega)
  exact key _ n1 n2 n3
 ·exact key _ hT.1 hT.2 (fun e=>he e.symm)
theorem Zkm {n:Net}{m:Nat}(hN:n.N=m)(hm:m≤4096)(hl:n.Arcs.length≤16384)(he:Nj m n.Arcs) :
    Ok (Z5f n) (fun fs=>fs.length=m+1∧∀ u,u≤m→fs.getD u 0=Xq n.Arcs u):=by
  unfold Z5f
  simp only [hN]
  refine Ok.gd.2 ⟨(by omega),Ok.gd.2 ⟨(by omega),Ok.bind.2 (Jj (fun s=>∃ k:Nat,s.2=k∧k≤n.Arcs.length∧Counted n.Arcs m k s.1) (fun s=>(n.Arcs.length-s.2).toNat) ⟨0,rfl,by omega,Zkk n.Arcs m (by omega)⟩ (by unfold Xo;simp only;omega) ?_)⟩⟩
  rintro ⟨fs,x⟩ ⟨k,h1,h2,h3⟩ P next exit
  simp only at h1 h2 h3 next ⊢
  subst h1
  unfold Z58
  simp only [Int.toNat_natCast]
  refine Ok.ite.2 ⟨fun hx=>?_,fun hx=>?_⟩
  · have hkl : k < n.Arcs.length := by omega
    have hfl:=h3.1
    have e0:=he k hkl false
    have e1:=he k hkl true
    simp only [Ve,Bool.false_eq_true,if_false,if_true] at e0 e1
    have c0:=h3.2.2 _ e0.1 e0.2
    have c1:=h3.2.2 _ e1.1 e1.2
    have d0:=Zal n.Arcs (n.Arcs.getD k default).fr.toNat k
    have d1:=Zal n.Arcs (n.Arcs.getD k default).to.toNat k
    refine Ok.gd.2 ⟨(by omega),Ok.ite.2 ⟨fun hne=>?_,fun hne=>?_⟩⟩
    · have c2 : (fs.set ((n.Arcs.getD k default).fr + 1).toNat (fs.getD ((n.Arcs.getD k default).fr + 1).toNat 0 + 1)).getD ((n.Arcs.getD k default).to + 1).toNat 0 = Uk n.Arcs (n.Arcs.getD k default).to.toNat k := by rw [Xw (by omega)]; exact c1
      refine Ok.gd.2 ⟨(by omega),Ok.gd.2 ⟨(by omega),Ok.gd.2 ⟨(by omega),Ok.gd.2 ⟨(by omega),Ok.gd.2 ⟨(by omega),Ok.gd.2 ⟨(by simp only [List.length_set,List.length_replicate];omega),Ok.gd.2 ⟨(by omega),Ok.gd.2 ⟨(by simp only [List.length_set,List.length_replicate];omega),Ok.gd.2 ⟨(by omega),Ok.some.2 (next _ ⟨k+1,by simp,by omega,?_⟩ (by simp only;omega))⟩⟩⟩⟩⟩⟩⟩⟩⟩
      exact h3.put he hkl hne
    ·refine Ok.gd.2 ⟨(by omega),Ok.some.2 (next _ ⟨k+1,by simp,by omega,h3.skip (Classical.not_not.1 hne)⟩ (by simp only;omega))⟩
  · refine Ok.some.2 (exit _ ?_)
    have hk:k=n.Arcs.length:=by omega
    subst hk
    unfold Zau
    refine Ok.bind.2 (Jj (fun s=>∃ v:Nat,s.2=v∧v≤m∧Summed n.Arcs m v s.1) (fun s=>(m-s.2).toNat) ⟨0,rfl,by omega,h3.summed⟩ (by unfold Xo;simp only;omega) ?_)
    rintro ⟨gs,y⟩ ⟨v,g1,g2,g3⟩ P2 next2 exit2
    simp only at g1 g2 g3 next2 ⊢
    subst g1
    unfold Z3w
    simp only [hN,Int.toNat_natCast]
    have hgl:=g3.1
    have b0:=g3.2.1 v (Nat.le_refl _)
    refine Ok.ite.2 ⟨fun hv=>?_,fun hv=>?_⟩
    · have b1 := g3.2.2 v (Nat.le_refl _) (by omega)
      have b2:=Zch (al:=n.Arcs) (v:=v) (by omega) hl
      have b3:=Zal n.Arcs v n.Arcs.length
      have b5:((v:Int)+1).toNat=v+1:=by omega
      simp only [b5]
      refine Ok.gd.2 ⟨(by omega),Ok.gd.2 ⟨(by omega),Ok.gd.2 ⟨(by omega),Ok.gd.2 ⟨(by omega),Ok.gd.2 ⟨(by omega),Ok.gd.2 ⟨(by omega),Ok.some.2 (next2 _ ⟨v+1,by simp,by omega,?_⟩ (by simp only;omega))⟩⟩⟩⟩⟩⟩
      exact g3.put (by omega) rfl
    · refine Ok.some.2 (exit2 _ ?_)
      unfold Z7n
      have:v=m:=by omega
      subst this
      exact Ok.some.2 ⟨hgl,g3.2.1⟩
structure CsrIs (n:Net)(m:Nat)(c:Csr):Prop where
  hN:c.N=m
  hS:c.S=n.S
  hT:c.T=n.T
  ok:CsrOK n.Arcs m c.First c.Head c.Rev c.Cap c.Arc c.Back
theorem s_Make {n:Net}{m:Nat}(hN:n.N=m)(hc:Rb n.N n.S n.T n.Arcs=0)(hl:lenok n.Arcs.length) :
    Ok (Z5z n) (fun r=>CsrIs n m r.1∧r.2=0):=by
  have hz:=Z8t hc
  have hm:m≤4096:=by omega
  have he:Nj m n.Arcs:=Zhn (by rw [←hN];exact hz.2.2.2.1)
  unfold Z5z
  refine Ok.bind.2 (Wn (s_Check n hl) (Ok.ite.2 ⟨fun h=>absurd hc h,fun _=>Ok.bind.2 (Ok.mono (Zkm hN hm (by omega) he) ?_)⟩))
  rintro fs ⟨hfl,hfs⟩
  simp only [hN,Int.toNat_natCast,hfs m (Nat.le_refl _)]
  have hbs:=Zch (al:=n.Arcs) (v:=m) hm (by omega)
  unfold Z9o
  refine Ok.gd.2 ⟨(by omega),Ok.gd.2 ⟨(by omega),Ok.gd.2 ⟨(by omega),Ok.gd.2 ⟨(by omega),Ok.gd.2 ⟨(by omega),Ok.gd.2 ⟨(by omega),Ok.bind.2 (Ok.gd.2 ⟨(by omega),Ok.some.2 (Ok.bind.2 ?_)⟩)⟩⟩⟩⟩⟩⟩
  refine Jj (fun s=>∃ k:Nat,s.2.2.2.2.2.2=k∧k≤n.Arcs.length∧MakeAt n.Arcs m k s.2.2.2.2.2.1 s.1 s.2.1 s.2.2.1 s.2.2.2.1 s.2.2.2.2.1) (fun s=>(n.Arcs.length-s.2.2.2.2.2.2).toNat) ⟨0,rfl,by omega,Znh hfl hfs⟩ (by unfold Xo;simp only;omega) ?_
  rintro ⟨hs,rs,cs,aa,bs,nx,x⟩ ⟨k,h1,h2,h3⟩ P next exit
  simp only at h1 h2 h3 next ⊢
  subst h1
  unfold Z6f
  simp only [Int.toNat_natCast]
  refine Ok.ite.2 ⟨fun hx=>?_,fun hx=>?_⟩
  · have hkl : k < n.Arcs.length := by omega
    refine Ok.gd.2 ⟨(by omega),Ok.ite.2 ⟨fun heq=>?_,fun hne=>?_⟩⟩
    ·exact Ok.gd.2 ⟨(by omega),Ok.some.2 (next _ ⟨k+1,by simp,by omega,h3.skip heq⟩ (by simp only;omega))⟩
    · have e0 := he k hkl false
      have e1:=he k hkl true
      have n0:=h3.at he hkl false
      have n1:=h3.at he hkl true
      have p0:Zo n.Arcs k false<Xq n.Arcs m:=Z1g hkl hne he
      have p1:Zo n.Arcs k true<Xq n.Arcs m:=Z1g hkl hne he
      simp only [Ve,Bool.false_eq_true,if_false,if_true] at e0 e1 n0 n1
      have hh:=h3
      obtain ⟨⟨l0,l1,l2,l3,l4,l5⟩,_,_⟩:=h3
      unfold Z4r
      simp only [n0,Int.toNat_natCast]
      have n2:(nx.set (n.Arcs.getD k default).fr.toNat ((Zo n.Arcs k false:Int)+1)).getD (n.Arcs.getD k default).to.toNat 0=(Zo n.Arcs k true:Nat):=by rw [Xw (by omega)];exact n1
      refine Ok.bind.2 (Ok.gd.2 ⟨(by omega),Ok.gd.2 ⟨(by omega),Ok.gd.2 ⟨(by omega),Ok.gd.2 ⟨(by omega),Ok.gd.2 ⟨(by omega),Ok.gd.2 ⟨(by omega),Ok.gd.2 ⟨(by omega),Ok.gd.2 ⟨(by omega),Ok.some.2 (Ok.bind.2 ?_)⟩⟩⟩⟩⟩⟩⟩⟩)
      simp only [n2,Int.toNat_natCast]
      refine Ok.gd.2 ⟨(by simp only [List.length_set,List.length_replicate];omega),Ok.gd.2 ⟨(by simp only [List.length_set,List.length_replicate];omega),Ok.gd.2 ⟨(by omega),Ok.gd.2 ⟨(by simp only [List.length_set,List.length_replicate];omega),Ok.gd.2 ⟨(by simp only [List.length_set,List.length_replicate];omega),Ok.gd.2 ⟨(by simp only [List.length_set,List.length_replicate];omega),Ok.gd.2 ⟨(by simp only [List.length_set,List.length_replicate];omega),Ok.gd.2 ⟨(by simp only [List.length_set,List.length_replicate];omega),Ok.some.2 (Ok.gd.2 ⟨(by omega),Ok.gd.2 ⟨(by simp only [List.length_set,List.length_replicate];omega),Ok.gd.2 ⟨(by omega),Ok.some.2 (next _ ⟨k+1,by simp,by omega,?_⟩ (by simp only;omega))⟩⟩⟩)⟩⟩⟩⟩⟩⟩⟩⟩
      exact hh.put he hkl hne
  · refine Ok.some.2 (exit _ ?_)
    unfold Zaj
    have hk:k=n.Arcs.length:=by omega
    subst hk
    exact Ok.some.2 ⟨⟨hN,rfl,rfl,h3.done hfl hfs⟩,rfl⟩
end Go.Acq
namespace Go.Acq
open Go
end Go.Acq
namespace Go.Acq
open Go
def part (al:List Arc)(f:List Int)(j:Int):Nat→Int
  | 0=>0
  | k+1=>part al f j k-(if (al.getD k default).fr<j then f.getD k 0 else 0)+(if (al.getD k default).to<j then f.getD k 0 else 0)
end Go.Acq
namespace Go.Acq
open Go
end Go.Acq
namespace Go.Acq
open Go
end Go.Acq
namespace Go.Acq
open Go
end Go.Acq
namespace Go.Acq
open Go
end Go.Acq
namespace Go.Acq
open Go
structure Pre where
  Res:List Int
  Ex:List Int
  H:List Int
  deriving DecidableEq
instance:Inhabited Pre:=⟨⟨default,default,default⟩⟩
end Go.Acq
namespace Go.Acq
open Go
def Vn (g:Nat→Int):Nat→Int
  | 0=>0
  | k+1=>Vn g k+g k
theorem Z9s {g h:Nat→Int}:∀ {k:Nat},(∀ i,i<k→g i=h i)→Vn g k=Vn h k
 | 0,_=>rfl
 | k+1,e=>by simp only [Vn];rw [Z9s fun i hi=>e i (by omega),e k (by omega)]
theorem Z92 (g h:Nat→Int):∀ k,Vn (fun i=>g i+h i) k=Vn g k+Vn h k
 | 0=>rfl
 | k+1=>by simp only [Vn,Z92 g h k];omega
theorem Zbq {g:Nat→Int}{k:Nat}(h:∀ i,i<k→g i=0):Vn g k=0:=by
 induction k with
 | zero=>rfl
 | succ k ih=>simp only [Vn];rw [ih fun i hi=>h i (by omega),h k (by omega)];rfl
theorem Zb1 {g:Nat→Int}{i:Nat}:∀ {k:Nat},i<k→(∀ j,j<k→j≠i→g j=0)→Vn g k=g i
 | 0,h,_=>by omega
 | k+1,h,e=>by
  simp only [Vn]
  by_cases c:i=k
  ·subst c;rw [Zbq fun j hj=>e j (by omega) (by omega)];omega
  ·rw [Zb1 (show i<k by omega) fun j hj hne=>e j (by omega) hne,e k (by omega) (fun h=>c h.symm)];omega
theorem Zfr (F:Nat→Nat→Int)(K:Nat):∀ L,Vn (fun j=>Vn (fun i=>F i j) K) L=Vn (fun i=>Vn (fun j=>F i j) L) K
 | 0=>(Zbq fun _ _=>rfl).symm
 | L+1=>by
  simp only [Vn]
  rw [Zfr F K L,←Z92]
theorem Zhb {g h:Nat→Int}:∀ {k:Nat},(∀ i,i<k→g i≤h i)→Vn g k≤Vn h k
 | 0,_=>Int.le_refl _
 | k+1,e=>by
  have:=Zhb (k:=k) fun i hi=>e i (by omega)
  have:=e k (by omega)
  simp only [Vn];omega
theorem posSum {al:List Arc}{m:Nat}(he:Nj m al)(g:Nat→Int):Vn g (Xq al m)=Vn (fun i=>if (al.getD i default).fr=(al.getD i default).to then 0 else g (Zo al i false)+g (Zo al i true)) al.length:=by
 let F:Nat→Nat→Int:=fun i j=>if (al.getD i default).fr=(al.getD i default).to then 0 else (if Zo al i false=j then g j else 0)+(if Zo al i true=j then g j else 0)
 have e1:Vn g (Xq al m)=Vn (fun j=>Vn (fun i=>F i j) al.length) (Xq al m):=by
  refine Z9s fun j hj=>?_
  obtain ⟨i,s,hi,hne,hp,_⟩:=Zfe (al:=al) hj
  rw [Zb1 (i:=i) hi]
  ·
   simp only [F]
   rw [if_neg hne]
   cases s
   ·
    have h2:Zo al i true≠j:=fun e=>by have:=(Z0m he hi hi hne hne (hp.trans e.symm)).2;cases this
    rw [if_pos hp,if_neg h2];omega
   ·
    have h2:Zo al i false≠j:=fun e=>by have:=(Z0m he hi hi hne hne (hp.trans e.symm)).2;cases this
    rw [if_neg h2,if_pos hp];omega
  ·
   intro i' hi' hii
   simp only [F]
   by_cases c:(al.getD i' default).fr=(al.getD i' default).to
   ·rw [if_pos c]
   ·rw [if_neg c,if_neg fun e=>hii (Z0m he hi' hi c hne (e.trans hp.symm)).1,if_neg fun e=>hii (Z0m he hi' hi c hne (e.trans hp.symm)).1];rfl
 rw [e1,Zfr]
 refine Z9s fun i hi=>?_
 by_cases c:(al.getD i default).fr=(al.getD i default).to
 ·
  rw [if_pos c]
  exact Zbq fun j _=>by simp only [F];rw [if_pos c]
 ·
  rw [if_neg c]
  have e2:Vn (fun j=>F i j) (Xq al m)=Vn (fun j=>(if Zo al i false=j then g j else 0)+(if Zo al i true=j then g j else 0)) (Xq al m):=Z9s fun j _=>by simp only [F];rw [if_neg c]
  rw [e2,Z92,Zb1 (i:=Zo al i false) (Z1g hi c he) fun j _ hj=>if_neg fun e=>hj e.symm,Zb1 (i:=Zo al i true) (Z1g hi c he) fun j _ hj=>if_neg fun e=>hj e.symm,if_pos rfl,if_pos rfl]
def hd (c:Csr)(j:Nat):Nat:=(c.Head.getD j 0).toNat
def rv (c:Csr)(j:Nat):Nat:=(c.Rev.getD j 0).toNat
def fs (c:Csr)(v:Nat):Nat:=(c.First.getD v 0).toNat
def tl (c:Csr)(j:Nat):Nat:=hd c (rv c j)
def bk (c:Csr)(j:Nat):Bool:=c.Back.getD j false
structure Row (n:Net)(m L:Nat)(c:Csr):Prop where
  is:CsrIs n m c
  chk:Rb n.N n.S n.T n.Arcs=0
  hm:n.N=m
  hL:Xq n.Arcs m=L
section row
variable {n : Net} {m L : Nat} {c : Csr}
theorem Row.he (r:Row n m L c):Nj m n.Arcs:=Zhn (by rw [←r.hm];exact (Z8t r.chk).2.2.2.1)
theorem Row.bd (r:Row n m L c):2≤m∧m≤4096∧n.Arcs.length≤16384∧L≤67108864:=by
 have hz:=Z8t r.chk
 have:=r.hm
 have hb:=Zch (al:=n.Arcs) (v:=m) (by omega) (by omega)
 have:=r.hL
 omega
theorem Row.ends (r:Row n m L c):(∃ S:Nat,n.S=S∧c.S=S∧S<m)∧(∃ T:Nat,n.T=T∧c.T=T∧T<m)∧n.S≠n.T∧c.N=m:=by
 have hz:=Z8t r.chk
 simp only [Kb,decide_eq_true_eq] at hz
 have h1:=r.hm
 have h2:=r.is.hS
 have h3:=r.is.hT
 exact ⟨⟨n.S.toNat,by omega,by omega,by omega⟩,⟨n.T.toNat,by omega,by omega,by omega⟩,hz.2.2.1.2.2,r.is.hN⟩
theorem Row.lens (r:Row n m L c):c.First.length=m+1∧c.Head.length=L∧c.Rev.length=L∧c.Cap.length=L∧c.Arc.length=L∧c.Back.length=L:=by
 have h:=r.is.ok
 rw [←r.hL]
 exact ⟨h.lf,h.lh,h.lr,h.lc,h.la,h.lb⟩
theorem Row.at (r:Row n m L c){j:Nat}(hj:j<L):∃ i s,i<n.Arcs.length∧(n.Arcs.getD i default).fr≠(n.Arcs.getD i default).to∧Zo n.Arcs i s=j∧c.Head.getD j 0=(hd c j:Nat)∧(hd c j:Int)=Ve (n.Arcs.getD i default) (!s)∧(tl c j:Int)=Ve (n.Arcs.getD i default) s ∧
    c.Rev.getD j 0=(rv c j:Nat)∧rv c j=Zo n.Arcs i (!s)∧c.Cap.getD j 0=(if s then 0 else (n.Arcs.getD i default).cap)∧c.Arc.getD j 0=i∧bk c j=s:=by
  obtain ⟨i,s,hi,hne,hp,q1,q2,q3,q4,q5⟩:=r.is.ok.place (by rw [r.hL];exact hj)
  have hv:=r.he i hi (!s)
  have hv2:=r.he i hi s
  have hr:rv c j=Zo n.Arcs i (!s):=by unfold rv;rw [q2,Int.toNat_natCast]
  refine ⟨i,s,hi,hne,hp,by unfold hd;omega,by unfold hd;omega,?_,by unfold rv;omega,hr,q3,q4,q5⟩
  unfold tl hd
  rw [hr,(r.is.ok.hat i hi hne (!s)).1,Bool.not_not];omega
theorem Row.head (r:Row n m L c){j:Nat}(hj:j<L):c.Head.getD j 0=(hd c j:Nat)∧hd c j<m:=by
 obtain ⟨i,s,hi,hne,hp,q1,q2,q3,q4,q5,q6,q7,q8⟩:=r.at hj
 have hv:=r.he i hi (!s)
 exact ⟨q1,by omega⟩
theorem Row.rev (r:Row n m L c){j:Nat}(hj:j<L):c.Rev.getD j 0=(rv c j:Nat)∧rv c j<L∧rv c (rv c j)=j∧rv c j≠j:=by
 obtain ⟨i,s,hi,hne,hp,q1,q2,q3,q4,q5,q6,q7,q8⟩:=r.at hj
 have hq:Zo n.Arcs i (!s)<L:=by rw [←r.hL];exact Z1g hi hne r.he
 refine ⟨q4,by rw [q5];exact hq,?_,fun e=>?_⟩
 ·
  have:=(r.is.ok.hat i hi hne (!s)).2.1
  rw [q5];unfold rv;rw [this,Int.toNat_natCast,Bool.not_not,hp]
 ·
  have:=(Z0m r.he hi hi hne hne (q5.symm.trans (e.trans hp.symm))).2
  cases s <;> cases this
theorem Row.first (r:Row n m L c):(∀ v,v≤m→c.First.getD v 0=(fs c v:Nat)∧fs c v=Xq n.Arcs v)∧fs c 0=0∧fs c m=L∧∀ v,v<m→fs c v≤fs c (v+1)∧fs c (v+1)≤L:=by
 have h:∀ v,v≤m→c.First.getD v 0=(fs c v:Nat)∧fs c v=Xq n.Arcs v:=fun v hv=>by
  have:=r.is.ok.hf v hv
  unfold fs;rw [this,Int.toNat_natCast];exact ⟨rfl,rfl⟩
 refine ⟨h,by rw [(h 0 (by omega)).2];rfl,by rw [(h m (Nat.le_refl _)).2];exact r.hL,fun v hv=>?_⟩
 rw [(h v (by omega)).2,(h (v+1) (by omega)).2,←r.hL]
 exact ⟨Z4t (by omega),Z4t (by omega)⟩
end row
end Go.Acq
namespace Go.Acq
open Go
def upd {α:Type}(f:Nat→α)(k:Nat)(x:α):Nat→α:=fun j=>if j=k then x else f j
theorem Ul {α:Type}(f:Nat→α)(k:Nat)(x:α):upd f k x k=x:=by unfold upd;rw [if_pos rfl]
theorem Us {α:Type}{f:Nat→α}{k j:Nat}{x:α}(h:j≠k):upd f k x j=f j:=by unfold upd;rw [if_neg h]
inductive Vw where
  | idle
  | take (p:Nat) (b t x:Int) (g:Bool)
  | steal (j p:Nat) (t x:Int)
  | hold (u:Int)
  | up (u v:Int)
  | put (u v:Int) (p:Nat) (b t:Int)
structure AS where
  F:Nat→Int
  T:Nat→Int
  B:Nat→Int
  S:Nat→Nat→Int
  V:Nat→Vw
def Wx (B:Int):Vw→Int
  | .take p b _ _ _=>if 2≤p then b+1 else B
  | _=>B
def AS.E (σ:AS)(k:Nat):Int:=Wx (σ.B k) (σ.V k)
inductive Pl where
  | dq (k i:Nat)
  | hold (k:Nat)
  | wake (k:Nat)
  | pg (k:Nat)
  deriving DecidableEq
def Vw.held:Vw→Option Int
  | .hold u=>some u
  | .up u _=>some u
  | .put u _ _ _ _=>some u
  | _=>none
def Vw.woken:Vw→Option Int
  | .up _ v=>some v
  | .put _ v _ _ _=>some v
  | _=>none
def Vw.popped:Vw→Option Int
  | .take p _ _ x g=>if p=5∧g=true then some x else none
  | _=>none
def AS.val (K R:Nat)(σ:AS):Pl→Option Int
  | .dq k i=>if k<K∧σ.T k≤(i:Int)∧(i:Int)<σ.E k then some (σ.S k (i%R)) else none
  | .hold k=>if k<K then (σ.V k).held else none
  | .wake k=>if k<K then (σ.V k).woken else none
  | .pg k=>if k<K then (σ.V k).popped else none
def Vw.thief (k:Nat):Vw→Option Int
  | .steal j p t _=>if j=k∧2≤p then some t else none
  | _=>none
def Yw (K R:Nat)(σ:AS)(k:Nat):Vw→Prop
  | .take p b t x g=>(p=1→b=σ.B k-1)∧(2≤p→σ.B k=b)∧(p=3→0≤t∧t≤σ.T k∧(t<b→σ.T k≤b∧∀ j,j<K→∀ y,(σ.V j).thief k=some y→y<b))∧(p=4→t=b∧t≤σ.T k∧0≤b∧x=σ.S k (b.toNat%R))∧(p=5→σ.T k=b+1)∧p≤5
  | .steal j p t x=>j<K∧(1≤p→0≤t∧t≤σ.T j)∧(2≤p→t=σ.T j→t<σ.E j)∧(p=3→t=σ.T j→x=σ.S j (t.toNat%R))∧p≤3
  | .put u v p b t=>(1≤p→b=σ.B k)∧(2≤p→b-t<R∧t≤σ.T k)∧(p=3→σ.S k (b.toNat%R)=v)∧p≤3
  | _=>True
structure AI (Xe:Int→Prop)(K R:Nat)(σ:AS):Prop where
  inj:∀ p q v,σ.val K R p=some v→σ.val K R q=some v→p=q
  flg:∀ p v,σ.val K R p=some v→Xe v∧σ.F v.toNat=1
  f01:∀ v,σ.F v=0∨σ.F v=1
  shape:∀ k,k<K→0≤σ.T k∧σ.T k≤σ.E k∧σ.E k≤σ.T k+R
  each:∀ k,k<K→Yw K R σ k (σ.V k)
section
variable {Xe : Int → Prop} {K R : Nat} {σ σ' : AS}
theorem AI.moved (h:AI Xe K R σ)(hF:σ'.F=σ.F)(f:Pl→Pl)(hf:∀ p q,f p=f q→p=q)(hv:∀ q v,σ'.val K R q=some v→σ.val K R (f q)=some v) :
    (∀ p q v,σ'.val K R p=some v→σ'.val K R q=some v→p=q)∧(∀ p v,σ'.val K R p=some v→Xe v∧σ'.F v.toNat=1) :=
  ⟨fun p q v hp hq=>hf _ _ (h.inj _ _ v (hv p v hp) (hv q v hq)),fun p v hp=>by rw [hF];exact h.flg _ v (hv p v hp)⟩
def Jb (a b:Pl)(p:Pl):Pl:=if p=a then b else if p=b then a else p
theorem Zgj (a b:Pl):∀ p q,Jb a b p=Jb a b q→p=q:=by
 intro p q h
 unfold Jb at h
 split at h <;> split at h <;> (try split at h) <;> (try split at h) <;> simp_all
def AS.go (σ:AS)(k:Nat)(B':Int)(v':Vw):AS:={ σ with B:=upd σ.B k B',V:=upd σ.V k v' }
theorem go_E {k:Nat}{B':Int}{v':Vw}(h4:Wx B' v'=σ.E k)(i:Nat):(σ.go k B' v').E i=σ.E i:=by
 unfold AS.E AS.go
 by_cases hi:i=k
 ·subst hi;simp only [Ul];exact h4
 ·simp only [Us hi]
theorem go_V {k i:Nat}{B':Int}{v':Vw}(hi:i≠k):(σ.go k B' v').V i=σ.V i:=Us hi
theorem Gw {k i:Nat}{B':Int}{v':Vw}(hi:i≠k):(σ.go k B' v').B i=σ.B i:=Us hi
theorem Rn {k:Nat}{B':Int}{v':Vw}:(σ.go k B' v').V k=v':=Ul _ _ _
theorem Jo {k:Nat}{B':Int}{v':Vw}:(σ.go k B' v').B k=B':=Ul _ _ _
theorem AI.go (h:AI Xe K R σ){k:Nat}(hk:k<K){B':Int}{v':Vw}(h1:v'.held=(σ.V k).held)(h2:v'.woken=(σ.V k).woken)(h3:v'.popped=(σ.V k).popped)(h4:Wx B' v'=σ.E k)
    (h5:∀ j,j<K→j≠k→∀ y,v'.thief j=some y→(σ.V k).thief j=some y∨y<σ.B j)(h6:Yw K R (σ.go k B' v') k v'):AI Xe K R (σ.go k B' v'):=by
  have hV:∀ i (g:Vw→Option Int),g v'=g (σ.V k)→g ((σ.go k B' v').V i)=g (σ.V i):=fun i g hg=>by
    by_cases hi:i=k
    ·subst hi;rw [Rn,hg]
    ·rw [go_V hi]
  have hval:∀ p,(σ.go k B' v').val K R p=σ.val K R p:=fun p=>by
    cases p with
    | dq j i=>simp only [AS.val,go_E h4];rfl
    | hold j=>simp only [AS.val];rw [hV j _ h1]
    | wake j=>simp only [AS.val];rw [hV j _ h2]
    | pg j=>simp only [AS.val];rw [hV j _ h3]
  refine ⟨fun p q v hp hq=>h.inj p q v (by rw [←hval];exact hp) (by rw [←hval];exact hq),fun p v hp=>h.flg p v (by rw [←hval];exact hp),h.f01,fun i hi=>by rw [go_E h4];exact h.shape i hi,fun i hi=>?_⟩
  by_cases hik:i=k
  ·subst hik;rw [Rn];exact h6
  rw [go_V hik]
  have ho:=h.each i hi
  cases hvi:σ.V i with
  | idle=>trivial
  | hold u=>trivial
  | up u v=>trivial
  | take p b t x g =>
    rw [hvi] at ho
    simp only [Yw] at ho ⊢
    rw [Gw hik]
    refine ⟨ho.1,ho.2.1,fun hp=>⟨(ho.2.2.1 hp).1,(ho.2.2.1 hp).2.1,fun htb=>⟨((ho.2.2.1 hp).2.2 htb).1,fun j hj y hy=>?_⟩⟩,ho.2.2.2⟩
    by_cases hjk:j=k
    · subst hjk
      rw [Rn] at hy
      rcases h5 i hi hik y hy with h | h
      ·exact ((ho.2.2.1 hp).2.2 htb).2 j hj y h
      ·have:=ho.2.1 (by omega);omega
    · rw [go_V hjk] at hy
      exact ((ho.2.2.1 hp).2.2 htb).2 j hj y hy
  | steal j p t x =>
    rw [hvi] at ho
    simp only [Yw] at ho ⊢
    rw [go_E h4]
    exact ho
  | put u v p b t =>
    rw [hvi] at ho
    simp only [Yw] at ho ⊢
    rw [Gw hik]
    exact ho
theorem Z2e {i:Nat}{v:Vw}(h:Yw K R σ i v)(hB:σ'.B i=σ.B i)(hT:∀ j,j<K→σ.T j≤σ'.T j)(hi:i<K)
    (hT3:∀ b t x g,v=.take 3 b t x g→t<b→σ'.T i≤b)(hT5:∀ b t x g,v=.take 5 b t x g→σ'.T i=σ.T i)(hS:σ'.S i=σ.S i)(hS3:∀ j t x,v=.steal j 3 t x→t=σ.T j→σ'.S j (t.toNat%R)=σ.S j (t.toNat%R))
    (hE:∀ p j t x,v=.steal j p t x→j<K→2≤p→t=σ'.T j→t=σ.T j∧t<σ'.E j)
    (hth:∀ j,j<K→∀ y,(σ'.V j).thief i=some y→(σ.V j).thief i=some y∨y<σ.B i):Yw K R σ' i v:=by
  cases v with
  | idle=>trivial
  | hold u=>trivial
  | up u v=>trivial
  | take p b t x g =>
    simp only [Yw] at h ⊢
    rw [hB,hS]
    have ht:=hT i hi
    refine ⟨h.1,h.2.1,fun hp=>⟨(h.2.2.1 hp).1,by have:=(h.2.2.1 hp).2.1;omega,fun htb=>⟨by subst hp;exact hT3 b t x g rfl htb,fun j hj y hy=>?_⟩⟩,fun hp=>⟨(h.2.2.2.1 hp).1,by have:=(h.2.2.2.1 hp).2.1;omega,(h.2.2.2.1 hp).2.2⟩,fun hp=>?_,h.2.2.2.2.2⟩
    · rcases hth j hj y hy with h1 | h1
      ·exact ((h.2.2.1 hp).2.2 htb).2 j hj y h1
      ·have:=h.2.1 (by omega);omega
    · have h5 := h.2.2.2.2.1 hp
      subst hp
      rw [hT5 b t x g rfl,h5]
  | steal j p t x =>
    simp only [Yw] at h ⊢
    have ht:=hT j h.1
    refine ⟨h.1,fun hp=>⟨(h.2.1 hp).1,by have:=(h.2.1 hp).2;omega⟩,fun hp e=>(hE p j t x rfl h.1 hp e).2,fun hp e=>?_,h.2.2.2.2⟩
    have e':=(hE p j t x rfl h.1 (by omega) e).1
    subst hp
    rw [hS3 j t x rfl e'];exact h.2.2.2.1 rfl e'
  | put u v p b t =>
    simp only [Yw] at h ⊢
    have ht:=hT i hi
    rw [hB,hS]
    exact ⟨h.1,fun hp=>⟨(h.2.1 hp).1,by have:=(h.2.1 hp).2;omega⟩,h.2.2⟩
theorem thief_st {v:Vw}{k:Nat}{y:Int}(h:v.thief k=some y):∃ p x,v=.steal k p y x∧2≤p:=by
 cases v with
 | steal j p t x =>
  simp only [Vw.thief] at h
  split at h
  ·rename_i c;injection h with h;subst h;rw [c.1];exact ⟨p,x,rfl,c.2⟩
  ·cases h
 | _=>cases h
theorem AI.pop (h:AI Xe K R σ){k:Nat}(hk:k<K){b t x:Int}{g:Bool}(hv:σ.V k=.take 3 b t x g)(htb:t<b):AI Xe K R (σ.go k (σ.B k) (.hold (σ.S k (b.toNat%R)))):=by
 have hw:=h.each k hk
 rw [hv] at hw
 simp only [Yw] at hw
 obtain ⟨-,w2,w3,-⟩:=hw
 obtain ⟨w4,w5,w6⟩:=w3 trivial
 obtain ⟨w7,w8⟩:=w6 htb
 have hBk:=w2 (by omega)
 have hEk:σ.E k=b+1:=by unfold AS.E Wx;rw [hv];simp
 have hsh:=h.shape k hk
 obtain ⟨τ,hτ⟩:∃ τ,τ=σ.go k (σ.B k) (.hold (σ.S k (b.toNat%R))):=⟨_,rfl⟩
 have eV:∀ i,i≠k→τ.V i=σ.V i:=fun i hi=>by rw [hτ];exact go_V hi
 have eVk:τ.V k=.hold (σ.S k (b.toNat%R)):=by rw [hτ];exact Rn
 have eB:∀ i,τ.B i=σ.B i:=fun i=>by
  rw [hτ]
  by_cases hi:i=k
  ·subst hi;exact Jo
  ·exact Gw hi
 have eT:τ.T=σ.T:=by rw [hτ];rfl
 have eS:τ.S=σ.S:=by rw [hτ];rfl
 have eF:τ.F=σ.F:=by rw [hτ];rfl
 have eE:∀ i,i≠k→τ.E i=σ.E i:=fun i hi=>by unfold AS.E;rw [eV i hi,eB]
 have eEk:τ.E k=b:=by unfold AS.E Wx;rw [eVk,eB];exact hBk
 rw [←hτ]
 have hm:=h.moved (σ':=τ) eF (Jb (.dq k b.toNat) (.hold k)) (Zgj _ _) fun q v hq=>by
  cases q with
  | dq j i =>
   simp only [AS.val] at hq
   split at hq
   ·
    rename_i c
    rw [eT] at c
    have hne:Jb (.dq k b.toNat) (.hold k) (.dq j i)=.dq j i:=by
     unfold Jb
     rw [if_neg (fun e=>by injection e with e1 e2;subst e1;rw [eEk] at c;omega),if_neg (fun e=>by cases e)]
    rw [hne]
    simp only [AS.val]
    rw [if_pos ⟨c.1,c.2.1,by
     by_cases hj:j=k
     ·subst hj;rw [eEk] at c;omega
     ·rw [eE j hj] at c;exact c.2.2⟩,←eS];exact hq
   ·cases hq
  | hold j =>
   simp only [AS.val] at hq
   split at hq
   ·
    rename_i c
    by_cases hj:j=k
    ·
     subst hj
     rw [eVk] at hq
     have hne:Jb (.dq j b.toNat) (.hold j) (.hold j)=.dq j b.toNat:=by unfold Jb;rw [if_neg (fun e=>by cases e),if_pos rfl]
     rw [hne]
     simp only [AS.val]
     rw [if_pos ⟨c,by omega,by omega⟩];exact hq
    ·
     have hne:Jb (.dq k b.toNat) (.hold k) (.hold j)=.hold j:=by unfold Jb;rw [if_neg (fun e=>by cases e),if_neg (fun e=>hj (by injection e))]
     rw [hne]
     simp only [AS.val]
     rw [if_pos c,←eV j hj];exact hq
   ·cases hq
  | wake j =>
   simp only [AS.val] at hq
   split at hq
   ·
    rename_i c
    by_cases hj:j=k
    ·subst hj;rw [eVk] at hq;cases hq
    ·
     have hne:Jb (.dq k b.toNat) (.hold k) (.wake j)=.wake j:=by unfold Jb;rw [if_neg (fun e=>by cases e),if_neg (fun e=>by cases e)]
     rw [hne]
     simp only [AS.val]
     rw [if_pos c,←eV j hj];exact hq
   ·cases hq
  | pg j =>
   simp only [AS.val] at hq
   split at hq
   ·
    rename_i c
    by_cases hj:j=k
    ·subst hj;rw [eVk] at hq;cases hq
    ·
     have hne:Jb (.dq k b.toNat) (.hold k) (.pg j)=.pg j:=by unfold Jb;rw [if_neg (fun e=>by cases e),if_neg (fun e=>by cases e)]
     rw [hne]
     simp only [AS.val]
     rw [if_pos c,←eV j hj];exact hq
   ·cases hq
 refine ⟨hm.1,hm.2,by rw [eF];exact h.f01,fun i hi=>?_,fun i hi=>?_⟩
 ·
  rw [eT]
  by_cases hik:i=k
  ·subst hik;rw [eEk];omega
  ·rw [eE i hik];exact h.shape i hi
 ·
  by_cases hik:i=k
  ·subst hik;rw [eVk];trivial
  rw [eV i hik]
  refine Z2e (h.each i hi) (eB i) (fun j _=>by rw [eT];omega) hi (fun b' t' x' g' e hb=>?_) (fun _ _ _ _ _=>by rw [eT]) (by rw [eS]) (fun _ _ _ _ _=>by rw [eS]) (fun p j t' x' e hj hp ht=>?_) (fun j hj y hy=>?_)
  ·
   have:=h.each i hi
   rw [e] at this
   simp only [Yw] at this
   rw [eT];exact ((this.2.2.1 trivial).2.2 hb).1
  ·
   rw [eT] at ht
   have ho:=h.each i hi
   rw [e] at ho
   simp only [Yw] at ho
   refine ⟨ht,?_⟩
   by_cases hjk:j=k
   ·
    subst hjk
    rw [eEk]
    exact w8 i hi t' (by rw [e];simp [Vw.thief,hp])
   ·rw [eE j hjk];exact ho.2.2.1 hp ht
  ·
   by_cases hjk:j=k
   ·subst hjk;rw [eVk] at hy;cases hy
   ·rw [eV j hjk] at hy;exact .inl hy
end
end Go.Acq
