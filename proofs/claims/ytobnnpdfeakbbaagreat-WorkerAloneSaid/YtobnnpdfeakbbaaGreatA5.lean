/- Texts of this claim, one behind the other. -/
import Derived.Test.YtobnnpdfeakbbaaGreatA2
import Derived.Test.YtobnnpdfeakbbaaGreatA4
import Derived.Test.YtobnnpdfeakbbaaGreatA1
set_option linter.unusedVariables false
set_option linter.unusedSimpArgs false
namespace Go.Proofs.YtobnnpdfeakbbaaGreat.Ax
open Go Go.Acq Go.RowKit Go.Proofs
set_option maxHeartbeats 8000000
set_option maxRecDepth 20000
theorem Z26 : Wi Tryz.prog 35 26 = true := by kernel_rfl
theorem Zhm : Kb Tryz.prog 226 = some 8 := by kernel_rfl
theorem Zij : Kb Tryz.prog 42 = some 8 := by kernel_rfl
theorem Zkf : Zy Tryz.prog 15 = true := by kernel_rfl
theorem Zk0 : Zy Tryz.prog 156 = true := by kernel_rfl
theorem La : Zy Tryz.prog 157 = true := by kernel_rfl
theorem Zdh : Zy Tryz.prog 16 = true := by kernel_rfl
theorem Znm : Zy Tryz.prog 23 = true := by kernel_rfl
theorem Zhr : Zy Tryz.prog 50 = true := by kernel_rfl
theorem Zdj : Zy Tryz.prog 57 = true := by kernel_rfl
theorem Zc1 : Zy Tryz.prog 59 = true := by kernel_rfl
theorem Zlk : Zy Tryz.prog 71 = true := by kernel_rfl
theorem Zkn : Zy Tryz.prog 73 = true := by kernel_rfl
theorem Zmq : Zy Tryz.prog 85 = true := by kernel_rfl
theorem Zow : Yh Tryz.prog 31 0 = some 0 := by kernel_rfl
theorem Zlf : Yh Tryz.prog 31 1 = some 1 := by kernel_rfl
theorem Z8x : Yh Tryz.prog 31 13 = some 13 := by kernel_rfl
theorem Z3f : Yh Tryz.prog 35 0 = some 0 := by kernel_rfl
theorem Z2y : Yh Tryz.prog 35 1 = some 9 := by kernel_rfl
theorem Z0a : Yh Tryz.prog 35 2 = some 23 := by kernel_rfl
theorem Jr : Yh Tryz.prog 35 3 = some 24 := by kernel_rfl
theorem Z3a : Yh Tryz.prog 35 4 = some 25 := by kernel_rfl
theorem Zau : Yh Tryz.prog 40 1 = some 1 := by kernel_rfl
theorem Za4 : Yh Tryz.prog 40 3 = some 3 := by kernel_rfl
theorem Zkg : Yh Tryz.prog 40 4 = some 4 := by kernel_rfl
theorem Zan : intT Tryz.prog 3 = some .i64 := by kernel_rfl
theorem Jh : Xy Tryz.prog 33 = some 42 := by kernel_rfl
theorem Zfx : Xy Tryz.prog 48 = some 5 := by kernel_rfl
theorem Z8g : Yr Tryz.prog 31 = some 14 := by kernel_rfl
theorem Ziw : Yr Tryz.prog 33 = some 1 := by kernel_rfl
theorem Z0z : Yr Tryz.prog 35 = some 26 := by kernel_rfl
theorem Nu : Yr Tryz.prog 42 = some 1 := by kernel_rfl
theorem Zo0 : Yr Tryz.prog 5 = some 1 := by kernel_rfl
theorem Zbe : (Tryz.prog.underlying 5).isSome = true := by kernel_rfl
theorem Z0j : Xv Tryz.prog 32 = true := by kernel_rfl
theorem Gg : Xv Tryz.prog 33 = true := by kernel_rfl
theorem Rc : Xv Tryz.prog 42 = true := by kernel_rfl
theorem Z8m : Xv Tryz.prog 5 = true := by kernel_rfl
theorem Zln : Wb Tryz.prog 226 = some (.agg #[iV 0]) := by kernel_rfl
theorem Zav : Wb Tryz.prog 31 = some (.agg #[iV 0, iV 0, iV 0, iV 0, iV 0, iV 0, iV 0, iV 0, iV 0, iV 0, iV 0, iV 0, iV 0, iV 0]) := by kernel_rfl
theorem Z1t : Wb Tryz.prog 35 = some (.agg #[iV 0, iV 0, iV 0, .slice none 0 0, .slice none 0 0, .slice none 0 0, .slice none 0 0, .slice none 0 0, .slice none 0 0, iV 0, iV 0, iV 0, iV 0, iV 0, iV 0, iV 0, iV 0, iV 0, iV 0, iV 0, iV 0, iV 0, iV 0, .pointer none, .slice none 0 0, .slice none 0 0]) := by kernel_rfl
theorem Z3r : Wb Tryz.prog 40 = some (.agg #[iV 0, .int .u8 0, iV 0, iV 0, iV 0, iV 0, iV 0]) := by kernel_rfl
theorem Zcn : Wb Tryz.prog 42 = some (.pointer none) := by kernel_rfl
theorem Zhg : ElemT Tryz.prog 25 3 1 8 (iV 0) := ⟨Xh, Yf, Z03, Lf, rfl⟩
theorem Zk7 : ElemT Tryz.prog 33 42 1 8 (.pointer none) := ⟨Jh, Nu, Zij, Zcn, rfl⟩
theorem Zj0 {verts0 : Int} (w : World) {r0 : Int} (H : Z31 verts0 = some r0) : Fnc Tryz.prog 156 #[iV verts0] w [] (fun v N => v = iV r0 ∧ N = []) := by
 unfold Z31 at H; refine Fnc.enter (vs := [iV verts0]) Tryz.func156 rfl rfl (Inv.refl w) ?_; refine sR Y1 rfl ?_; refine aN Za ?_; refine sR Y1 rfl ?_; refine aN Za ?_; refine Zl ?_; refine Vj (fun (n4 : Int) => Z5l n4 = some r0) (fun (n4 : Int) => [(3, iV n4)]) (fun (n4 : Int) => []) ?_ ?_
 ·
  refine T.block ?_; obtain ⟨a4, a5, a6⟩ := Zk H; refine Z96 (fun (a2 : Nat) (n1 : Int) => Wa (fun s => Z3z verts0 s) a2 n1 = some a4) (fun (a2 : Nat) (n1 : Int) => [(0, iV verts0), (3, iV n1)]) (fun (a2 : Nat) (n1 : Int) => []) (fun (a2 : Nat) (n1 : Int) => a2) Xm 1 a5 (aF rfl) Zg ?_; rintro a2 n1 H; obtain ⟨a7, a8, rfl, H, a3⟩ := Kg H; have H : Z3z verts0 n1 = some a8 := H; unfold Z3z at H; refine Zl ?_; refine sR Y3 rfl ?_; refine Zd Za ?_; refine Zd Za ?_; refine Yc Zv ?_; refine dN ?_; rcases Zt H with ⟨g2, H⟩ | ⟨g2, H⟩
  · refine Wc rfl g2 ?_; refine T.skip ?_; refine Yk ?_; refine T.block ?_; obtain ⟨g3, H⟩ := Yj H; refine rG Y3 rfl ?_; refine Zd Za ?_; refine TO.shl1 g3 Ze ?_; refine Wu Za ?_; refine Zj ?_; refine Wo ?_; have H := Vy H a3; exact Z6q a7 (n1 * 2) H (Nat.lt_succ_self _) (aF rfl) Zg
  · refine Xz rfl g2 ?_; refine T.exit ?_; refine Wk ?_; have H := Vu H a3 ▸ a6; refine Wk ?_; refine Ue ?_; exact Wj n1 H (aF rfl) Zg
 · rintro n4 H; unfold Z5l at H; refine sR Y2 rfl ?_; refine Zd Za ?_; refine aN Za ?_; refine T.ret ?_; obtain rfl := ret1 H; exact Zu Za (Res.tmp rfl) Zg ⟨rfl, rfl⟩
theorem Lc {n0 : Int} {c1 : Layout} {a2 : Nat} {H_ : Heap} (w : World) (a3 : H_ = [(eC a2 #[iV c1.Verts, iV c1.Arcs, iV c1.Workers, iV c1.Room, iV c1.Res, iV c1.Ex, iV c1.H, iV c1.Flag, iV c1.Pending, iV c1.Ask, iV c1.Count, iV c1.Sense, iV c1.Deques, iV c1.Size] 31)]) (hin : Inv w ((H_ : Heap).filterMap Prod.fst) w H_) {r0 : Int} {o0 : Layout} (H : Jf n0 c1 = some (r0, o0)) : Fnc Tryz.prog 157 #[iV n0, pV a2] w ((H_ : Heap).filterMap Prod.fst) (fun v N => v = iV r0 ∧ N = [(eC a2 #[iV c1.Verts, iV c1.Arcs, iV c1.Workers, iV c1.Room, iV c1.Res, iV c1.Ex, iV c1.H, iV c1.Flag, iV c1.Pending, iV c1.Ask, iV c1.Count, iV c1.Sense, iV c1.Deques, iV o0.Size] 31)]) := by
 subst a3; unfold Jf at H; refine Fnc.enter (vs := [iV n0, pV a2]) Tryz.func157 rfl rfl hin ?_; refine sR Y1 rfl ?_; refine aN Za ?_; obtain ⟨g2, H⟩ := Yj H; refine sR Y6 rfl ?_; refine Zi Za Z8x ?_; refine Zn Za Zo Zh rfl ?_; refine Zd Za ?_; refine Xf g2 Ze ?_; refine Zi Za Z8x ?_; refine Yg (cs' := [iV c1.Verts, iV c1.Arcs, iV c1.Workers, iV c1.Room, iV c1.Res, iV c1.Ex, iV c1.H, iV c1.Flag, iV c1.Pending, iV c1.Ask, iV c1.Count, iV c1.Sense, iV c1.Deques, iV (c1.Size + n0)]) Za Zb Yf Zr ?_; refine dN ?_; obtain ⟨g3, H⟩ := Yj H; refine sR Y5 rfl ?_; refine Zi Za Z8x ?_; refine Zn Za Zo Zh rfl ?_; refine Zd Za ?_; refine Z04 g3 Ze ?_; refine aN Za ?_; refine Zq (aT [3] rfl) ?_; refine T.ret ?_; obtain ⟨rfl, rfl⟩ := ret2 H; exact Zu Za (Res.tmp rfl) (Zc Zb Zg) ⟨rfl, rfl⟩
theorem Zmw {verts0 arcs1 workers2 : Int} (w : World) {r0 : Layout} {r1 : Int} (H : Z2s verts0 arcs1 workers2 = some (r0, r1)) : Fnc Tryz.prog 71 #[iV verts0, iV arcs1, iV workers2] w [] (fun v N => v = .tuple #[.agg #[iV r0.Verts, iV r0.Arcs, iV r0.Workers, iV r0.Room, iV r0.Res, iV r0.Ex, iV r0.H, iV r0.Flag, iV r0.Pending, iV r0.Ask, iV r0.Count, iV r0.Sense, iV r0.Deques, iV r0.Size], iV r1] ∧ N = []) := by
 unfold Z2s at H; refine Fnc.enter (vs := [iV verts0, iV arcs1, iV workers2]) Tryz.func71 rfl rfl (Inv.refl w) ?_; refine sR Y2 rfl ?_; refine Xu Zr Zav ?_; intro b1; refine aN Za ?_; refine Zl ?_; refine sR Y22 rfl ?_; refine Zd Za ?_; refine Yc Zv ?_; refine Zd Za ?_; refine TO.join [3, 4, 5] [6, 7, 8, 9, 10, 11, 12, 13, 14, 15, 16, 17, 18, 19, 20, 21] rfl 15 (fun b4 => Z2w verts0 arcs1 workers2 b4 = some (r0, r1)) [(0, iV verts0), (1, iV arcs1), (2, iV workers2), (6, pV b1)] ?_ ?_
 ·
  rcases Zt H with ⟨g3, H⟩ | ⟨g3, H⟩
  · refine Yo (t := 12) (b' := true) rfl (decide_eq_true g3) ?_; refine Zs Za ?_; refine Zs Za ?_; refine Xn Ze ?_; refine Zj ?_; exact Wm (b := true) H (aF rfl)
  · refine Yo (t := 12) (b' := false) rfl (decide_eq_false g3) ?_; refine Zd Za ?_; refine Yc Zv ?_; refine Xl Ze ?_; refine Zj ?_; exact Wm (b := (decide (4096 < verts0))) H (aF rfl)
 ·
  rintro b4 H; unfold Z2w at H; refine Zd Za ?_; refine TO.join [7, 8, 9] [10, 11, 12, 13, 14, 15, 16, 17, 18, 19, 20, 21] rfl 19 (fun b6 => Z3j verts0 arcs1 workers2 b6 = some (r0, r1)) [(0, iV verts0), (1, iV arcs1), (2, iV workers2), (6, pV b1)] ?_ ?_
  ·
   rcases Zt H with ⟨g5, H⟩ | ⟨g5, H⟩
   · refine Yo (t := 16) (b' := true) rfl g5 ?_; refine Zs Za ?_; refine Zs Za ?_; refine Xn Ze ?_; refine Zj ?_; exact Wm (b := true) H (aF rfl)
   · refine Yo (t := 16) (b' := false) rfl (Bool.eq_false_iff.2 g5) ?_; refine Zd Za ?_; refine Yc Zv ?_; refine Xl Ze ?_; refine Zj ?_; exact Wm (b := (decide (arcs1 < 0))) H (aF rfl)
  ·
   rintro b6 H; unfold Z3j at H; refine Zd Za ?_; refine TO.join [11, 12, 13] [14, 15, 16, 17, 18, 19, 20, 21] rfl 23 (fun b8 => Z3x verts0 arcs1 workers2 b8 = some (r0, r1)) [(0, iV verts0), (1, iV arcs1), (2, iV workers2), (6, pV b1)] ?_ ?_
   ·
    rcases Zt H with ⟨g7, H⟩ | ⟨g7, H⟩
    · refine Yo (t := 20) (b' := true) rfl g7 ?_; refine Zs Za ?_; refine Zs Za ?_; refine Xn Ze ?_; refine Zj ?_; exact Wm (b := true) H (aF rfl)
    · refine Yo (t := 20) (b' := false) rfl (Bool.eq_false_iff.2 g7) ?_; refine Zd Za ?_; refine Yc Zv ?_; refine Xl Ze ?_; refine Zj ?_; exact Wm (b := (decide (32768 < arcs1))) H (aF rfl)
   ·
    rintro b8 H; unfold Z3x at H; refine Zd Za ?_; refine TO.join [15, 16, 17] [18, 19, 20, 21] rfl 27 (fun c8 => Z39 verts0 arcs1 workers2 c8 = some (r0, r1)) [(0, iV verts0), (1, iV arcs1), (2, iV workers2), (6, pV b1)] ?_ ?_
    ·
     rcases Zt H with ⟨g9, H⟩ | ⟨g9, H⟩
     · refine Yo (t := 24) (b' := true) rfl g9 ?_; refine Zs Za ?_; refine Zs Za ?_; refine Xn Ze ?_; refine Zj ?_; exact Wm (b := true) H (aF rfl)
     · refine Yo (t := 24) (b' := false) rfl (Bool.eq_false_iff.2 g9) ?_; refine Zd Za ?_; refine Yc Zv ?_; refine Xl Ze ?_; refine Zj ?_; exact Wm (b := (decide (workers2 < 1))) H (aF rfl)
    ·
     rintro c8 H; unfold Z39 at H; refine Zd Za ?_; refine TO.join [19, 20, 21] [] rfl 31 (fun c9 => Z2z verts0 arcs1 workers2 c9 = some (r0, r1)) [(0, iV verts0), (1, iV arcs1), (2, iV workers2), (6, pV b1)] ?_ ?_
     ·
      rcases Zt H with ⟨b9, H⟩ | ⟨b9, H⟩
      · refine Yo (t := 28) (b' := true) rfl b9 ?_; refine Zs Za ?_; refine Zs Za ?_; refine Xn Ze ?_; refine Zj ?_; exact Wm (b := true) H (aF rfl)
      · refine Yo (t := 28) (b' := false) rfl (Bool.eq_false_iff.2 b9) ?_; refine Zd Za ?_; refine Yc Zv ?_; refine Xl Ze ?_; refine Zj ?_; exact Wm (b := (decide (64 < workers2))) H (aF rfl)
     ·
      rintro c9 H; unfold Z2z at H; refine dN ?_; rcases Zt H with ⟨c4, H⟩ | ⟨c4, H⟩
      · refine Xd rfl c4 ?_; refine sR Y3 rfl ?_; refine Yq (t := 31) [iV 0, iV 0, iV 0, iV 0, iV 0, iV 0, iV 0, iV 0, iV 0, iV 0, iV 0, iV 0, iV 0, iV 0] [0, 1, 2, 3, 4, 5, 6, 7, 8, 9, 10, 11, 12, 13] Za (by simp only [Ym, setCells, Value.cells, List.toList_toArray, List.getD_cons_zero, List.getD_cons_succ, List.set_cons_zero, List.set_cons_succ]; rfl) (by kernel_rfl) ?_; refine Xk Za Zb Z8g Zr ?_; refine aN Za ?_; refine T.ret ?_; refine Yv ?_; obtain ⟨rfl, rfl⟩ := ret2 H; exact Kx Za (Vs rfl Wn Zh rfl) (Res.tmp rfl) Zg ⟨rfl, rfl⟩
      · refine Xi rfl (Bool.eq_false_iff.2 c4) ?_; refine T.skip ?_; refine Yk ?_; refine Zl ?_; obtain ⟨a2, d3, H⟩ := Zk H; refine rG Y8 rfl ?_; refine Zd Za ?_; refine Zd Za ?_; refine Zd Za ?_; refine Zd Za ?_; refine Ya Zk0 Za (fun wc hwc => Zj0 (verts0 := verts0) wc  d3) ?_; rintro _ _ ⟨rfl, rfl⟩; refine Yq (t := 31) [iV 0, iV 0, iV 0, iV 0, iV 0, iV 0, iV 0, iV 0, iV 0, iV 0, iV 0, iV 0, iV 0, iV 0] [0, 1, 2, 3, 4, 5, 6, 7, 8, 9, 10, 11, 12, 13] Za (by simp only [Ym, setCells, Value.cells, List.toList_toArray, List.getD_cons_zero, List.getD_cons_succ, List.set_cons_zero, List.set_cons_succ]; rfl) (by kernel_rfl) ?_; refine Xu Zr Zav ?_; intro f4; refine Xk Za Zb Z8g Zr ?_; refine dN ?_; refine sR Y2 rfl ?_; refine TO.makeFunc Ze ?_; refine aN Za ?_; refine Zq (aT [0, 1, 2, 6, 8, 9] rfl) ?_; refine Zl ?_; obtain ⟨⟨a3, d1⟩, d4, H⟩ := Zk H; refine rG Y5 rfl ?_; refine Zd Za ?_; refine Zd Za ?_; refine Xp La Ze (Zf Zb (Gone.refl _)) rfl (fun wc hwc => Lc (n0 := arcs1) (c1 := (Layout.mk verts0 arcs1 workers2 a2 0 0 0 0 0 0 0 0 0 0)) wc rfl (hwc.self (Zc Zb Zg) rfl)  d4) ?_; rintro _ _ ⟨rfl, rfl⟩; refine Zi Za Rf ?_; refine Yg (cs' := [iV verts0, iV arcs1, iV workers2, iV a2, iV a3, iV 0, iV 0, iV 0, iV 0, iV 0, iV 0, iV 0, iV 0, iV d1.Size]) Za Zb Yf Zr ?_; refine dS ?_; obtain ⟨⟨a4, d5⟩, d6, H⟩ := Zk H; obtain ⟨⟨a5, d7⟩, d8, H⟩ := Zk H; obtain ⟨⟨a6, b5⟩, d9, H⟩ := Zk H; refine rG Y15 rfl ?_; refine Zd Za ?_; refine Zd Za ?_; refine Xp La Ze (Zf Zb (Gone.refl _)) rfl (fun wc hwc => Lc (n0 := verts0) (c1 := (Layout.mk verts0 arcs1 workers2 a2 a3 0 0 0 0 0 0 0 0 d1.Size)) wc rfl (hwc.self (Zc Zb Zg) rfl)  d6) ?_; rintro _ _ ⟨rfl, rfl⟩; refine Zd Za ?_; refine Zd Za ?_; refine Xp La Ze (Zf Zb (Gone.refl _)) rfl (fun wc hwc => Lc (n0 := verts0) (c1 := (Layout.mk verts0 arcs1 workers2 a2 a3 0 0 0 0 0 0 0 0 d5.Size)) wc rfl (hwc.self (Zc Zb Zg) rfl)  d8) ?_; rintro _ _ ⟨rfl, rfl⟩; refine Zd Za ?_; refine Zd Za ?_; refine Xp La Ze (Zf Zb (Gone.refl _)) rfl (fun wc hwc => Lc (n0 := verts0) (c1 := (Layout.mk verts0 arcs1 workers2 a2 a3 0 0 0 0 0 0 0 0 d7.Size)) wc rfl (hwc.self (Zc Zb Zg) rfl)  d9) ?_; rintro _ _ ⟨rfl, rfl⟩; refine Zi Za Gt ?_; refine Yg (cs' := [iV verts0, iV arcs1, iV workers2, iV a2, iV a3, iV a4, iV 0, iV 0, iV 0, iV 0, iV 0, iV 0, iV 0, iV b5.Size]) Za Zb Yf Zr ?_; refine Zi Za Z3h ?_; refine Yg (cs' := [iV verts0, iV arcs1, iV workers2, iV a2, iV a3, iV a4, iV a5, iV 0, iV 0, iV 0, iV 0, iV 0, iV 0, iV b5.Size]) Za Zb Yf Zr ?_; refine Zi Za Z2p ?_; refine Yg (cs' := [iV verts0, iV arcs1, iV workers2, iV a2, iV a3, iV a4, iV a5, iV a6, iV 0, iV 0, iV 0, iV 0, iV 0, iV b5.Size]) Za Zb Yf Zr ?_; refine dN ?_; refine Zq (aT [2, 6, 8, 9] rfl) ?_; refine Zl ?_; obtain ⟨⟨a7, e0⟩, e2, H⟩ := Zk H; obtain ⟨⟨a8, e3⟩, e4, H⟩ := Zk H; obtain ⟨⟨b7, e5⟩, e6, H⟩ := Zk H; obtain ⟨⟨c7, a9⟩, e7, H⟩ := Zk H; refine rG Y16 rfl ?_; refine Zd Za ?_; refine Xp La Ze (Zf Zb (Gone.refl _)) rfl (fun wc hwc => Lc (n0 := 1) (c1 := (Layout.mk verts0 arcs1 workers2 a2 a3 a4 a5 a6 0 0 0 0 0 b5.Size)) wc rfl (hwc.self (Zc Zb Zg) rfl)  e2) ?_; rintro _ _ ⟨rfl, rfl⟩; refine Zd Za ?_; refine Xp La Ze (Zf Zb (Gone.refl _)) rfl (fun wc hwc => Lc (n0 := 1) (c1 := (Layout.mk verts0 arcs1 workers2 a2 a3 a4 a5 a6 0 0 0 0 0 e0.Size)) wc rfl (hwc.self (Zc Zb Zg) rfl)  e4) ?_; rintro _ _ ⟨rfl, rfl⟩; refine Zd Za ?_; refine Xp La Ze (Zf Zb (Gone.refl _)) rfl (fun wc hwc => Lc (n0 := 1) (c1 := (Layout.mk verts0 arcs1 workers2 a2 a3 a4 a5 a6 0 0 0 0 0 e3.Size)) wc rfl (hwc.self (Zc Zb Zg) rfl)  e6) ?_; rintro _ _ ⟨rfl, rfl⟩; refine Zd Za ?_; refine Xp La Ze (Zf Zb (Gone.refl _)) rfl (fun wc hwc => Lc (n0 := 1) (c1 := (Layout.mk verts0 arcs1 workers2 a2 a3 a4 a5 a6 0 0 0 0 0 e5.Size)) wc rfl (hwc.self (Zc Zb Zg) rfl)  e7) ?_; rintro _ _ ⟨rfl, rfl⟩; refine Zi Za Z33 ?_; refine Yg (cs' := [iV verts0, iV arcs1, iV workers2, iV a2, iV a3, iV a4, iV a5, iV a6, iV a7, iV 0, iV 0, iV 0, iV 0, iV a9.Size]) Za Zb Yf Zr ?_; refine Zi Za Zar ?_; refine Yg (cs' := [iV verts0, iV arcs1, iV workers2, iV a2, iV a3, iV a4, iV a5, iV a6, iV a7, iV a8, iV 0, iV 0, iV 0, iV a9.Size]) Za Zb Yf Zr ?_; refine Zi Za Z7f ?_; refine Yg (cs' := [iV verts0, iV arcs1, iV workers2, iV a2, iV a3, iV a4, iV a5, iV a6, iV a7, iV a8, iV b7, iV 0, iV 0, iV a9.Size]) Za Zb Yf Zr ?_; refine Zi Za Z7c ?_; refine Yg (cs' := [iV verts0, iV arcs1, iV workers2, iV a2, iV a3, iV a4, iV a5, iV a6, iV a7, iV a8, iV b7, iV c7, iV 0, iV a9.Size]) Za Zb Yf Zr ?_; refine dN ?_; refine Zq (aT [2, 6, 8, 9] rfl) ?_; refine Zl ?_; obtain ⟨e8, e9, H⟩ := Ub H; obtain ⟨⟨f1, f2⟩, f3, H⟩ := Zk H; refine rG Y9 rfl ?_; refine Zd Za ?_; refine Zd Za ?_; refine Zi Za Z62 ?_; refine Zn Za Zo Zh rfl ?_; refine Xf e8 Ze ?_; refine Zbc e9 Ze ?_; refine Xp La Ze (Zf Zb (Gone.refl _)) rfl (fun wc hwc => Lc (n0 := (workers2 * (a2 + 2))) (c1 := (Layout.mk verts0 arcs1 workers2 a2 a3 a4 a5 a6 a7 a8 b7 c7 0 a9.Size)) wc rfl (hwc.self (Zc Zb Zg) rfl)  f3) ?_; rintro _ _ ⟨rfl, rfl⟩; refine Zi Za Zf7 ?_; refine Yg (cs' := [iV verts0, iV arcs1, iV workers2, iV a2, iV a3, iV a4, iV a5, iV a6, iV a7, iV a8, iV b7, iV c7, iV f1, iV f2.Size]) Za Zb Yf Zr ?_; refine dN ?_; refine Zq (aT [6, 8] rfl) ?_; refine sR Y3 rfl ?_; refine Xx Za Wn Zh rfl ?_; refine Xk Za Zp Z8g Zr ?_; refine aN Za ?_; refine T.ret ?_; obtain ⟨rfl, rfl⟩ := ret2 H; exact Kx Za (Vs rfl Wn Zh rfl) (Res.tmp rfl) Zg ⟨rfl, rfl⟩
theorem Zoz {n0 : Int} (w : World) {r0 : CellsBank} {r1 : Int} (H : Z0u n0 = some (r0, r1)) : Fnc Tryz.prog 73 #[iV n0] w [] (fun v N => ∃ (a5 : Nat) (a2 : Option Nat) (a3 a4 : Nat) (a6 : List Value), v = .tuple #[pV a5, iV r1] ∧ N = [(eC a5 #[sV a2 a3 a4] 221), (eI a2 r0.l a6 226)] ∧ r0.l.length = a3 ∧ a3 ≤ a4 ∧ a6.length = (a4 - a3) * 1 ∧ (a2 = none → a4 = 0)) := by
 unfold Z0u at H; refine Fnc.enter (vs := [iV n0]) Tryz.func73 rfl rfl (Inv.refl w) ?_; refine sR Y2 rfl ?_; refine Wu Za ?_; refine aN Za ?_; refine Zl ?_; refine Zl ?_; refine Vj (fun (x2 : Bool) => Z3p n0 x2 = some (r0, r1)) (fun (x2 : Bool) => [(0, iV n0), (9, .bool x2)]) (fun (x2 : Bool) => []) ?_ ?_
 ·
  rcases Zt H with ⟨g1, H⟩ | ⟨g1, H⟩
  · refine rG Y6 rfl ?_; refine Zd Za ?_; refine Yc Zv ?_; refine Zd Za ?_; refine Yo (t := 6) (b' := true) rfl (decide_eq_true g1) ?_; refine Zs Za ?_; refine Zs Za ?_; refine Xn Ze ?_; refine Zj ?_; exact Wj true H (aF rfl) Zg
  · refine rG Y6 rfl ?_; refine Zd Za ?_; refine Yc Zv ?_; refine Zd Za ?_; refine Yo (t := 6) (b' := false) rfl (decide_eq_false g1) ?_; refine Zd Za ?_; refine Yc Zv ?_; refine Xl Ze ?_; refine Zj ?_; exact Wj (decide (524288 < n0)) H (aF rfl) Zg
 ·
  rintro x2 H; unfold Z3p at H; rcases Zt H with ⟨g3, H⟩ | ⟨g3, H⟩
  · cases H
  · refine Xi rfl (Bool.eq_false_iff.2 g3) ?_; refine T.skip ?_; refine Yk ?_; obtain ⟨g4, H⟩ := Yj H; refine sR Y6 rfl ?_; refine Zd Za ?_; refine TO.mkS (f := iC) (zc := 0) g4 rr8 Z6l Zen Zln Zhm rfl ?_; intro b5; refine Yq (t := 221) [.slice none 0 0] [0] Za (by simp only [Ym, setCells, Value.cells, List.toList_toArray, List.getD_cons_zero, List.getD_cons_succ, List.set_cons_zero, List.set_cons_succ]; rfl) (by kernel_rfl) ?_; refine Wf Za ?_; intro b7; refine Wu Za ?_; refine aN Za ?_; refine T.ret ?_; obtain ⟨rfl, rfl⟩ := ret2 H; exact Kx Za (Res.tmp rfl) (Res.tmp rfl) (Zc Zb (Zc Zb Zg)) ⟨b7, (some b5), n0.toNat, n0.toNat, ([]), rfl, rfl, List.length_replicate, (Nat.le_refl _), (Ve _ _), Vg⟩
theorem Znd {c0 : Csr} {l1 : Layout} {id2 limit3 : Int} {a5 a4 b5 a7 c8 c9 : Option Addr} {a6 d4 a2 a3 b7 b9 c7 a8 c4 d3 a9 d1 : Nat} (w : World) (d5 : RS w [] iC 1 a4 a2 a3 c0.Head) {r0 : WorkerWorker} {r1 : Int} (H : Z76 c0 l1 id2 limit3 = some (r0, r1)) : Fnc Tryz.prog 85 #[.agg #[iV c0.N, iV c0.S, iV c0.T, .slice a5 a6 d4, .slice a4 a2 a3, .slice b5 b7 b9, .slice a7 c7 a8, .slice c8 c4 d3, .slice c9 a9 d1], .agg #[iV l1.Verts, iV l1.Arcs, iV l1.Workers, iV l1.Room, iV l1.Res, iV l1.Ex, iV l1.H, iV l1.Flag, iV l1.Pending, iV l1.Ask, iV l1.Count, iV l1.Sense, iV l1.Deques, iV l1.Size], iV id2, iV limit3] w [] (fun v N => ∃ (d7 : Nat), v = .tuple #[pV d7, iV r1] ∧ N = [(some d7, .cells (Zm (a5, a6, d4) (a4, a2, a3) (b5, b7, b9) (a7, c7, a8) (c8, c4, d3) (c9, a9, d1) ({ r0 with c := ({ c0 with N := r0.c.N, S := r0.c.S, T := r0.c.T } : Csr) } : WorkerWorker)).toArray 126 (0, 0))]) := by
 unfold Z76 at H; refine Fnc.enter (vs := [.agg #[iV c0.N, iV c0.S, iV c0.T, .slice a5 a6 d4, .slice a4 a2 a3, .slice b5 b7 b9, .slice a7 c7 a8, .slice c8 c4 d3, .slice c9 a9 d1], .agg #[iV l1.Verts, iV l1.Arcs, iV l1.Workers, iV l1.Room, iV l1.Res, iV l1.Ex, iV l1.H, iV l1.Flag, iV l1.Pending, iV l1.Ask, iV l1.Count, iV l1.Sense, iV l1.Deques, iV l1.Size], iV id2, iV limit3]) Tryz.func85 rfl rfl (Inv.refl w) ?_; refine sR Y4 rfl ?_; refine Wf Za ?_; intro b1; refine Wf Za ?_; intro b3; refine Wu Za ?_; refine aN Za ?_; refine Zl ?_; refine sR Y27 rfl ?_; refine Zi Za Zow ?_; refine Zn Za Zo Zh rfl ?_; refine Zi Za Z0i ?_; refine Zn Za Zo Yx rfl ?_; refine Yc Zv ?_; refine Zd Za ?_; refine TO.join [6, 7, 8, 9, 10, 11, 12] [13, 14, 15, 16, 17, 18, 19, 20, 21, 22, 23, 24, 25, 26] rfl 23 (fun b6 => Z3d c0 l1 id2 limit3 b6 = some (r0, r1)) [(2, iV id2), (3, iV limit3), (4, pV b1), (5, pV b3)] ?_ ?_
 ·
  rcases Zt H with ⟨g5, H⟩ | ⟨g5, H⟩
  · refine Yo (t := 16) (b' := true) rfl (decide_eq_true g5) ?_; refine Zs Za ?_; refine Zs Za ?_; refine Zs Za ?_; refine Zs Za ?_; refine Zs Za ?_; refine Zs Za ?_; refine Xn Ze ?_; refine Zj ?_; exact Wm (b := true) H (aF rfl)
  · refine Yo (t := 16) (b' := false) rfl (decide_eq_false g5) ?_; refine Zi Za Zlf ?_; refine Zn Za Zo Zh rfl ?_; refine Zi Za Nc ?_; refine Zn Za Wr Yx rfl ?_; refine Vl (xs := c0.Head) d5.len Ze Xh ?_; refine Yc Zv ?_; refine Xl Ze ?_; refine Zj ?_; exact Wm (b := (decide (l1.Arcs ≠ (c0.Head.length : Int)))) H (aF rfl)
 ·
  rintro b6 H; unfold Z3d at H; refine Zd Za ?_; refine TO.join [14, 15, 16] [17, 18, 19, 20, 21, 22, 23, 24, 25, 26] rfl 27 (fun b8 => Z2k c0 l1 id2 limit3 b8 = some (r0, r1)) [(2, iV id2), (3, iV limit3), (4, pV b1), (5, pV b3)] ?_ ?_
  ·
   rcases Zt H with ⟨g7, H⟩ | ⟨g7, H⟩
   · refine Yo (t := 24) (b' := true) rfl g7 ?_; refine Zs Za ?_; refine Zs Za ?_; refine Xn Ze ?_; refine Zj ?_; exact Wm (b := true) H (aF rfl)
   · refine Yo (t := 24) (b' := false) rfl (Bool.eq_false_iff.2 g7) ?_; refine Zd Za ?_; refine Yc Zv ?_; refine Xl Ze ?_; refine Zj ?_; exact Wm (b := (decide (id2 < 0))) H (aF rfl)
  ·
   rintro b8 H; unfold Z2k at H; refine Zd Za ?_; refine TO.join [18, 19, 20, 21, 22] [23, 24, 25, 26] rfl 33 (fun d8 => Z3y c0 l1 id2 limit3 d8 = some (r0, r1)) [(2, iV id2), (3, iV limit3), (4, pV b1), (5, pV b3)] ?_ ?_
   ·
    rcases Zt H with ⟨g9, H⟩ | ⟨g9, H⟩
    · refine Yo (t := 28) (b' := true) rfl g9 ?_; refine Zs Za ?_; refine Zs Za ?_; refine Zs Za ?_; refine Zs Za ?_; refine Xn Ze ?_; refine Zj ?_; exact Wm (b := true) H (aF rfl)
    · refine Yo (t := 28) (b' := false) rfl (Bool.eq_false_iff.2 g9) ?_; refine Zd Za ?_; refine Zi Za Z3n ?_; refine Zn Za Zo Zh rfl ?_; refine Yc Zv ?_; refine Xl Ze ?_; refine Zj ?_; exact Wm (b := (decide (l1.Workers ≤ id2))) H (aF rfl)
   ·
    rintro d8 H; unfold Z3y at H; refine Zd Za ?_; refine TO.join [24, 25, 26] [] rfl 37 (fun d9 => Z36 c0 l1 id2 limit3 d9 = some (r0, r1)) [(2, iV id2), (3, iV limit3), (4, pV b1), (5, pV b3)] ?_ ?_
    ·
     rcases Zt H with ⟨d6, H⟩ | ⟨d6, H⟩
     · refine Yo (t := 34) (b' := true) rfl d6 ?_; refine Zs Za ?_; refine Zs Za ?_; refine Xn Ze ?_; refine Zj ?_; exact Wm (b := true) H (aF rfl)
     · refine Yo (t := 34) (b' := false) rfl (Bool.eq_false_iff.2 d6) ?_; refine Zd Za ?_; refine Yc Zv ?_; refine Xl Ze ?_; refine Zj ?_; exact Wm (b := (decide (limit3 < 1))) H (aF rfl)
    ·
     rintro d9 H; unfold Z36 at H; refine dN ?_; rcases Zt H with ⟨e0, H⟩ | ⟨e0, H⟩
     · cases H
     · refine Xi rfl (Bool.eq_false_iff.2 e0) ?_; refine T.skip ?_; refine Yk ?_; refine sR Y7 rfl ?_; refine Xx Za Z1p Yx rfl ?_; refine Xx Za Wn Zh rfl ?_; refine Zd Za ?_; refine Zd Za ?_; refine Yq (t := 126) [iV 0, iV 0, iV 0, .slice none 0 0, .slice none 0 0, .slice none 0 0, .slice none 0 0, .slice none 0 0, .slice none 0 0, iV 0, iV 0, iV 0, iV 0, iV 0, iV 0, iV 0, iV 0, iV 0, iV 0, iV 0, iV 0, iV 0, iV 0, iV 0, iV 0, iV 0, iV 0, iV 0, iV 0, iV 0, iV 0, iV 0, iV 0, iV 0, iV 0, iV 0, iV 0, iV 0, iV 0, iV 0, iV 0, iV 0, iV 0, iV 0, iV 0, .bool false, .bool false, iV 0, iV 0, iV 0, iV 0, iV 0, iV 0, iV 0, iV 0, iV 0, iV 0, iV 0, iV 0, iV 0, iV 0, iV 0, iV 0, iV 0, iV 0, iV 0, .bool false, .bool false, .bool false, iV 0, iV 0, iV 0, iV 0, iV 0, iV 0, iV 0, iV 0, iV 0, iV 0, iV 0, iV 0, iV 0, iV 0, iV 0, iV 0, iV 0, iV 0, iV 0, .bool false, .bool false, iV 0, iV 0, iV 0, iV 0, iV 0, iV 0, iV 0, iV 0, iV 0, iV 0, iV 0, iV 0, iV 0, iV 0, iV 0, .int .u8 0, iV 0, .bool false, iV 0, iV 0, iV 0, iV 0, iV 0, .bool false, .bool false, iV 0, iV 0, .int .u8 0, iV 0, iV 0, iV 0, iV 0, iV 0, .bool false, iV 0, iV 0, iV 0, iV 0, iV 0] [0, 9, 23, 24, 25, 26, 47, 69, 91, 108, 109, 110, 111, 112, 113, 114, 115, 116, 123, 124, 125, 126, 127, 128] Za (by simp only [Ym, setCells, Value.cells, List.toList_toArray, List.getD_cons_zero, List.getD_cons_succ, List.set_cons_zero, List.set_cons_succ]; rfl) (by kernel_rfl) ?_; refine Wf Za ?_; intro e2; refine Kk (H := [(some e2, .cells (Zm (a5, a6, d4) (a4, a2, a3) (b5, b7, b9) (a7, c7, a8) (c8, c4, d3) (c9, a9, d1) (WorkerWorker.mk c0 l1 id2 limit3 0 (DequePop.mk (DequePart.mk (Layout.mk 0 0 0 0 0 0 0 0 0 0 0 0 0 0) 0 0 0 0 0 false false)) (DequeSteal.mk (DequePart.mk (Layout.mk 0 0 0 0 0 0 0 0 0 0 0 0 0 0) 0 0 0 0 0 false false) false) (DequePush.mk (DequePart.mk (Layout.mk 0 0 0 0 0 0 0 0 0 0 0 0 0 0) 0 0 0 0 0 false false) 0) (BarrierArrive.mk (Layout.mk 0 0 0 0 0 0 0 0 0 0 0 0 0 0) 0 0 false) 0 0 0 0 0 false false 0 (Evt.mk 0 0 0 0 0 0 0) false 0 0 0 0 0)).toArray 126 (0, 0)), (eC b3 #[iV l1.Verts, iV l1.Arcs, iV l1.Workers, iV l1.Room, iV l1.Res, iV l1.Ex, iV l1.H, iV l1.Flag, iV l1.Pending, iV l1.Ask, iV l1.Count, iV l1.Sense, iV l1.Deques, iV l1.Size] 31), (eC b1 #[iV c0.N, iV c0.S, iV c0.T, .slice a5 a6 d4, .slice a4 a2 a3, .slice b5 b7 b9, .slice a7 c7 a8, .slice c8 c4 d3, .slice c9 a9 d1] 29)]) rfl ?_; refine aN Za ?_; refine Zq (aT [10] rfl) ?_; refine Zl ?_; obtain ⟨e4, e3, H⟩ := Zk H; refine rG Y2 rfl ?_; refine Zd Za ?_; refine Yn Zaw Za (Zf Zb (Gone.refl _)) rfl (fun wc hwc => Z9x (w0 := (WorkerWorker.mk c0 l1 id2 limit3 0 (DequePop.mk (DequePart.mk (Layout.mk 0 0 0 0 0 0 0 0 0 0 0 0 0 0) 0 0 0 0 0 false false)) (DequeSteal.mk (DequePart.mk (Layout.mk 0 0 0 0 0 0 0 0 0 0 0 0 0 0) 0 0 0 0 0 false false) false) (DequePush.mk (DequePart.mk (Layout.mk 0 0 0 0 0 0 0 0 0 0 0 0 0 0) 0 0 0 0 0 false false) 0) (BarrierArrive.mk (Layout.mk 0 0 0 0 0 0 0 0 0 0 0 0 0 0) 0 0 false) 0 0 0 0 0 false false 0 (Evt.mk 0 0 0 0 0 0 0) false 0 0 0 0 0)) wc rfl (hwc.self (Zc Zb Zg) rfl)  e3) ?_; rintro _ _ ⟨rfl, rfl⟩; refine dN ?_; refine sR Y3 rfl ?_; refine Zd Za ?_; refine Wu Za ?_; refine aN Za ?_; refine T.ret ?_; obtain ⟨rfl, rfl⟩ := ret2 H; exact Kx Za (Res.tmp rfl) (Res.tmp rfl) (Zc Zb Zg) ⟨e2, rfl, rfl⟩
theorem Zd1 {n0 : Net} {limit2 : Int} {b9 : Option Addr} {b7 b8 : Nat} (w : World) (p6 : RS w [] Wh 3 b9 b7 b8 n0.Arcs) {r0 : Acequialaw16Phase} {r1 : Bool} (H : Z0m n0 limit2 = some (r0, r1)) : Fnc Tryz.prog 57 #[.agg #[iV n0.N, iV n0.S, iV n0.T, .slice b9 b7 b8], iV 1, iV limit2] w [] (fun v N => ∃ (l3 : Option Nat) (q0 q1 : Nat) (E3 : List Value) (l4 : Option Nat) (q2 q3 : Nat) (E4 : List Value) (l5 : Option Nat) (q4 q5 : Nat) (E5 : List Value) (g6 : Option Nat) (h2 h3 : Nat) (q6 : List Value) (g7 : Option Nat) (h4 h5 : Nat) (q7 : List Value) (g8 : Option Nat) (h6 h7 : Nat) (q8 : List Value) (q9 : Nat) (h8 : Option Nat) (l6 l7 : Nat) (r2 : List Value) (o6 : Nat) (h9 : Option Nat) (l8 l9 : Nat) (r3 : List Value) (i2 : Option Nat) (m0 m1 : Nat) (r4 : List Value), v = .tuple #[.agg #[iV r0.C.N, iV r0.C.S, iV r0.C.T, sV l3 q0 q1, sV l4 q2 q3, sV l5 q4 q5, sV g6 h2 h3, sV g7 h4 h5, sV g8 h6 h7, iV r0.L.Verts, iV r0.L.Arcs, iV r0.L.Workers, iV r0.L.Room, iV r0.L.Res, iV r0.L.Ex, iV r0.L.H, iV r0.L.Flag, iV r0.L.Pending, iV r0.L.Ask, iV r0.L.Count, iV r0.L.Sense, iV r0.L.Deques, iV r0.L.Size, pV q9, sV h9 l8 l9, sV i2 m0 m1], .bool r1] ∧ N = [(eI l3 r0.C.First E3 3), (eI l4 r0.C.Head E4 3), (eI l5 r0.C.Rev E5 3), (eI g6 r0.C.Cap q6 2), (eI g7 r0.C.Arc q7 3), (eA g8 boolC r0.C.Back q8 4), (eC q9 #[sV h8 l6 l7] 221), (eI h8 r0.B.l r2 226), (some o6, .cells (Zm ((sb l3), q0, q1) ((sb l4), q2, q3) ((sb l5), q4, q5) ((sb g6), h2, h3) ((sb g7), h4, h5) ((sb g8), h6, h7) ({ r0.W with c := ({ r0.C with N := r0.W.c.N, S := r0.W.c.S, T := r0.W.c.T } : Csr) } : WorkerWorker)).toArray 126 (0, 0)), (eA h9 Vi ([o6]) r3 42), (eI i2 r0.Dealt r4 3)] ∧ r0.C.First.length = q0 ∧ q0 ≤ q1 ∧ E3.length = (q1 - q0) * 1 ∧ (l3 = none → q1 = 0) ∧ r0.C.Head.length = q2 ∧ q2 ≤ q3 ∧ E4.length = (q3 - q2) * 1 ∧ (l4 = none → q3 = 0) ∧ r0.C.Rev.length = q4 ∧ q4 ≤ q5 ∧ E5.length = (q5 - q4) * 1 ∧ (l5 = none → q5 = 0) ∧ r0.C.Cap.length = h2 ∧ h2 ≤ h3 ∧ q6.length = (h3 - h2) * 1 ∧ (g6 = none → h3 = 0) ∧ r0.C.Arc.length = h4 ∧ h4 ≤ h5 ∧ q7.length = (h5 - h4) * 1 ∧ (g7 = none → h5 = 0) ∧ r0.C.Back.length = h6 ∧ h6 ≤ h7 ∧ q8.length = (h7 - h6) * 1 ∧ (g8 = none → h7 = 0) ∧ r0.B.l.length = l6 ∧ l6 ≤ l7 ∧ r2.length = (l7 - l6) * 1 ∧ (h8 = none → l7 = 0) ∧ [o6].length = l8 ∧ l8 ≤ l9 ∧ r3.length = (l9 - l8) * 1 ∧ (h9 = none → l9 = 0) ∧ r0.Dealt.length = m0 ∧ m0 ≤ m1 ∧ r4.length = (m1 - m0) * 1 ∧ (i2 = none → m1 = 0)) := by
 unfold Z0m at H; refine Fnc.enter (vs := [.agg #[iV n0.N, iV n0.S, iV n0.T, .slice b9 b7 b8], iV 1, iV limit2]) Tryz.func57 rfl rfl (Inv.refl w) ?_; refine sR Y3 rfl ?_; refine Wf Za ?_; intro b1; refine Xu Zr Z1t ?_; intro b3; refine aN Za ?_; refine Zl ?_; obtain ⟨⟨r5, r6⟩, e7, H⟩ := Zk H; refine rG Y8 rfl ?_; refine Xx Za Vh Yx rfl ?_; refine Ya Zhr Za (fun wc hwc => Zhn (n0 := n0) wc (p6.mono hwc) e7) ?_; rintro _ _ ⟨d6, n9, f2, m2, a6, f3, c14, m3, a7, f4, c18, m4, a5, e8, e9, m5, a8, n25, f5, m6, a9, n29, f6, m7, rfl, rfl, g9, i4, w6, j0, j1, m8, w7, m9, o7, o8, w8, o9, h0, j2, w9, j3, x2, x3, x4, x5, x6, x7, x8, x9⟩; refine Zd Za ?_; refine TO.extract Ze ?_; refine TO.extract Ze ?_; refine Xu Zr Za0 ?_; intro f7; refine Xk Za Zb Z5a Zr ?_; refine aN Za ?_; refine Zl ?_; obtain ⟨⟨a2, F6⟩, F7, H⟩ := Zk H; refine rG Y13 rfl ?_; refine Zi Za Z0i ?_; refine Zn Za Zo Zh rfl ?_; refine Zi Za Nc ?_; refine Zn Za Wr Zh rfl ?_; refine Vl (xs := r5.Head) j1 Ze Xh ?_; refine Zd Za ?_; refine Ya Zlk Za (fun wc hwc => Zmw (verts0 := r5.N) (arcs1 := (r5.Head.length : Int)) (workers2 := 1) wc  F7) ?_; rintro _ _ ⟨rfl, rfl⟩; refine Zd Za ?_; refine TO.extract Ze ?_; refine TO.extract Ze ?_; refine Xu Zr Zav ?_; intro f8; refine Xk Za Zb Z8g Zr ?_; refine aN Za ?_; refine Zq (aT [1, 2, 3, 6, 8, 9, 10, 11] rfl) ?_; refine Zl ?_; obtain ⟨⟨r7, y0⟩, F8, H⟩ := Zk H; refine rG Y8 rfl ?_; refine Zi Za Z8x ?_; refine Zn Za Zo Zh rfl ?_; refine Ya Zkn Za (fun wc hwc => Zoz (n0 := a2.Size) wc  F8) ?_; rintro _ _ ⟨d1, b6, f9, j4, n6, rfl, rfl, y1, d3, y2, d4⟩; refine Zd Za ?_; refine TO.extract Ze ?_; refine TO.extract Ze ?_; refine Wu Za ?_; refine aN Za ?_; refine sR Y6 rfl ?_; refine Xx Za Z1p Vw rfl ?_; refine Xx Za Wn Xb rfl ?_; refine Zd Za ?_; refine Yq (t := 35) [iV 0, iV 0, iV 0, .slice none 0 0, .slice none 0 0, .slice none 0 0, .slice none 0 0, .slice none 0 0, .slice none 0 0, iV 0, iV 0, iV 0, iV 0, iV 0, iV 0, iV 0, iV 0, iV 0, iV 0, iV 0, iV 0, iV 0, iV 0, .pointer none, .slice none 0 0, .slice none 0 0] [0, 9, 23, 24, 25] Za (by simp only [Ym, setCells, Value.cells, List.toList_toArray, List.getD_cons_zero, List.getD_cons_succ, List.set_cons_zero, List.set_cons_succ]; rfl) (by kernel_rfl) ?_; refine Xu Zr Z1t ?_; intro f1; refine Xk Za Zb Z0z Zr ?_; refine dN ?_; refine Zq (aT [1, 2, 3, 6, 8, 9, 10, 11, 12, 13, 14] rfl) ?_; refine Zl ?_; refine sR Y25 rfl ?_; refine Zd Za ?_; refine Yc Zv ?_; refine Zd Za ?_; refine TO.join [3, 4, 5] [6, 7, 8, 9, 10, 11, 12, 13, 14, 15, 16, 17, 18, 19, 20, 21, 22, 23, 24] rfl 55 (fun E6 => Z4w n0 limit2 r5 a2 r7 y0 E6 = some (r0, r1)) [(1, iV 1), (2, iV limit2), (3, pV b1), (6, pV b3), (8, pV f7), (10, pV f8), (12, pV d1), (13, iV y0), (14, pV f1)] ?_ ?_
 ·
  rcases Zt H with ⟨y3, H⟩ | ⟨y3, H⟩
  · refine Yo (t := 52) (b' := true) rfl (decide_eq_true y3) ?_; refine Zs Za ?_; refine Zs Za ?_; refine Xn Ze ?_; refine Zj ?_; exact Wm (b := true) H (aF rfl)
  · refine Yo (t := 52) (b' := false) rfl (decide_eq_false y3) ?_; refine Zd Za ?_; refine Yc Zv ?_; refine Xl Ze ?_; refine Zj ?_; exact Wm (b := (decide (F6 ≠ 0))) H (aF rfl)
 ·
  rintro E6 H; unfold Z4w at H; refine Zd Za ?_; refine TO.join [7, 8, 9] [10, 11, 12, 13, 14, 15, 16, 17, 18, 19, 20, 21, 22, 23, 24] rfl 59 (fun E7 => Z3e n0 limit2 r5 a2 r7 E7 = some (r0, r1)) [(1, iV 1), (2, iV limit2), (3, pV b1), (6, pV b3), (8, pV f7), (10, pV f8), (12, pV d1), (14, pV f1)] ?_ ?_
  ·
   rcases Zt H with ⟨y4, H⟩ | ⟨y4, H⟩
   · refine Yo (t := 56) (b' := true) rfl y4 ?_; refine Zs Za ?_; refine Zs Za ?_; refine Xn Ze ?_; refine Zj ?_; exact Wm (b := true) H (aF rfl)
   · refine Yo (t := 56) (b' := false) rfl (Bool.eq_false_iff.2 y4) ?_; refine Zd Za ?_; refine Yc Zv ?_; refine Xl Ze ?_; refine Zj ?_; exact Wm (b := (decide (y0 ≠ 0))) H (aF rfl)
  ·
   rintro E7 H; unfold Z3e at H; refine Zd Za ?_; refine TO.join [11, 12, 13, 14, 15, 16, 17, 18] [19, 20, 21, 22, 23, 24] rfl 68 (fun E8 => Z4l n0 limit2 r5 a2 r7 E8 = some (r0, r1)) [(1, iV 1), (2, iV limit2), (3, pV b1), (6, pV b3), (8, pV f7), (10, pV f8), (12, pV d1), (14, pV f1)] ?_ ?_
   ·
    rcases Zt H with ⟨y5, H⟩ | ⟨y5, H⟩
    · refine Yo (t := 60) (b' := true) rfl y5 ?_; refine Zs Za ?_; refine Zs Za ?_; refine Zs Za ?_; refine Zs Za ?_; refine Zs Za ?_; refine Zs Za ?_; refine Zs Za ?_; refine Xn Ze ?_; refine Zj ?_; exact Wm (b := true) H (aF rfl)
    · obtain ⟨F9, H⟩ := Yj H; refine Yo (t := 60) (b' := false) rfl (Bool.eq_false_iff.2 y5) ?_; refine Zi Za Nh ?_; refine Zn Za Wr Jj rfl ?_; refine Vl (xs := r5.First) g9 Ze Xh ?_; refine Zi Za Uh ?_; refine Zn Za Zo Jn rfl ?_; refine Xf F9 Ze ?_; refine Yc Zv ?_; refine Xl Ze ?_; refine Zj ?_; exact Wm (b := (decide ((r5.First.length : Int) ≠ (n0.N + 1)))) H (aF rfl)
   ·
    rintro E8 H; unfold Z4l at H; refine Zd Za ?_; refine TO.join [20, 21, 22, 23, 24] [] rfl 74 (fun E9 => Z2n n0 limit2 r5 a2 r7 E9 = some (r0, r1)) [(1, iV 1), (2, iV limit2), (3, pV b1), (6, pV b3), (8, pV f7), (10, pV f8), (12, pV d1), (14, pV f1)] ?_ ?_
    ·
     rcases Zt H with ⟨y6, H⟩ | ⟨y6, H⟩
     · refine Yo (t := 69) (b' := true) rfl y6 ?_; refine Zs Za ?_; refine Zs Za ?_; refine Zs Za ?_; refine Zs Za ?_; refine Xn Ze ?_; refine Zj ?_; exact Wm (b := true) H (aF rfl)
     · refine Yo (t := 69) (b' := false) rfl (Bool.eq_false_iff.2 y6) ?_; refine Zi Za Z3n ?_; refine Zn Za Zo Vw rfl ?_; refine Zd Za ?_; refine Yc Zv ?_; refine Xl Ze ?_; refine Zj ?_; exact Wm (b := (decide (a2.Workers ≠ 1))) H (aF rfl)
    ·
     rintro E9 H; unfold Z2n at H; refine dN ?_; rcases Zt H with ⟨F0, H⟩ | ⟨F0, H⟩
     · cases H
     ·
      refine Xi rfl (Bool.eq_false_iff.2 F0) ?_; refine T.skip ?_; refine Yk ?_; refine Zl ?_; refine sR Y4 rfl ?_; refine Zi Za Z7q ?_; refine Zn Za Z9z Jj rfl ?_; refine Vl (xs := r5.Cap) h0 Ze Z4i ?_; refine Zd Za ?_; refine dN ?_; refine Vj (fun (d8 : List Int) => Z80 n0 limit2 r5 a2 d8 = some (r0, r1) ∧ d8.length = f9) (fun (d8 : List Int) => [(1, iV 1), (2, iV limit2), (3, pV b1), (6, pV b3), (8, pV f7), (10, pV f8), (12, pV d1), (14, pV f1)]) (fun (d8 : List Int) => [(eC b1 #[iV n0.N, iV n0.S, iV n0.T, .slice b9 b7 b8] 24), (eC b3 #[iV 0, iV 0, iV 0, .slice none 0 0, .slice none 0 0, .slice none 0 0, .slice none 0 0, .slice none 0 0, .slice none 0 0, iV 0, iV 0, iV 0, iV 0, iV 0, iV 0, iV 0, iV 0, iV 0, iV 0, iV 0, iV 0, iV 0, iV 0, .pointer none, .slice none 0 0, .slice none 0 0] 35), (eC f7 #[iV r5.N, iV r5.S, iV r5.T, sV d6 n9 f2, sV a6 f3 c14, sV a7 f4 c18, sV a5 e8 e9, sV a8 n25 f5, sV a9 n29 f6] 29), (eI d6 r5.First m2 3), (eI a6 r5.Head m3 3), (eI a7 r5.Rev m4 3), (eI a5 r5.Cap m5 2), (eI a8 r5.Arc m6 3), (eA a9 boolC r5.Back m7 4), (eC f8 #[iV a2.Verts, iV a2.Arcs, iV a2.Workers, iV a2.Room, iV a2.Res, iV a2.Ex, iV a2.H, iV a2.Flag, iV a2.Pending, iV a2.Ask, iV a2.Count, iV a2.Sense, iV a2.Deques, iV a2.Size] 31), (eC d1 #[sV b6 f9 j4] 221), (eI b6 d8 n6 226), (eC f1 #[iV r5.N, iV r5.S, iV r5.T, sV d6 n9 f2, sV a6 f3 c14, sV a7 f4 c18, sV a5 e8 e9, sV a8 n25 f5, sV a9 n29 f6, iV a2.Verts, iV a2.Arcs, iV a2.Workers, iV a2.Room, iV a2.Res, iV a2.Ex, iV a2.H, iV a2.Flag, iV a2.Pending, iV a2.Ask, iV a2.Count, iV a2.Sense, iV a2.Deques, iV a2.Size, pV d1, .slice none 0 0, .slice none 0 0] 35)]) ?_ ?_
      ·
       refine T.block ?_; obtain ⟨G0, G1, G2⟩ := Zk H; refine Z09 (fun (p7 : Nat) (e3 : List Int) (j9 : Int) => Wa (fun s => Z4k r5 a2 s.1 s.2) p7 (e3, j9) = some G0 ∧ e3.length = f9) (fun (p7 : Nat) (e3 : List Int) (j9 : Int) => [(1, iV 1), (2, iV limit2), (3, pV b1), (6, pV b3), (8, pV f7), (10, pV f8), (12, pV d1), (14, pV f1), (77, sV a5 e8 e9), (78, iV (r5.Cap.length : Int)), (79, iV j9)]) (fun (p7 : Nat) (e3 : List Int) (j9 : Int) => [(eC b1 #[iV n0.N, iV n0.S, iV n0.T, .slice b9 b7 b8] 24), (eC b3 #[iV 0, iV 0, iV 0, .slice none 0 0, .slice none 0 0, .slice none 0 0, .slice none 0 0, .slice none 0 0, .slice none 0 0, iV 0, iV 0, iV 0, iV 0, iV 0, iV 0, iV 0, iV 0, iV 0, iV 0, iV 0, iV 0, iV 0, iV 0, .pointer none, .slice none 0 0, .slice none 0 0] 35), (eC f7 #[iV r5.N, iV r5.S, iV r5.T, sV d6 n9 f2, sV a6 f3 c14, sV a7 f4 c18, sV a5 e8 e9, sV a8 n25 f5, sV a9 n29 f6] 29), (eI d6 r5.First m2 3), (eI a6 r5.Head m3 3), (eI a7 r5.Rev m4 3), (eI a5 r5.Cap m5 2), (eI a8 r5.Arc m6 3), (eA a9 boolC r5.Back m7 4), (eC f8 #[iV a2.Verts, iV a2.Arcs, iV a2.Workers, iV a2.Room, iV a2.Res, iV a2.Ex, iV a2.H, iV a2.Flag, iV a2.Pending, iV a2.Ask, iV a2.Count, iV a2.Sense, iV a2.Deques, iV a2.Size] 31), (eC d1 #[sV b6 f9 j4] 221), (eI b6 e3 n6 226), (eC f1 #[iV r5.N, iV r5.S, iV r5.T, sV d6 n9 f2, sV a6 f3 c14, sV a7 f4 c18, sV a5 e8 e9, sV a8 n25 f5, sV a9 n29 f6, iV a2.Verts, iV a2.Arcs, iV a2.Workers, iV a2.Room, iV a2.Res, iV a2.Ex, iV a2.H, iV a2.Flag, iV a2.Pending, iV a2.Ask, iV a2.Count, iV a2.Sense, iV a2.Deques, iV a2.Size, pV d1, .slice none 0 0, .slice none 0 0] 35)]) (fun (p7 : Nat) (e3 : List Int) (j9 : Int) => p7) Xm r7.l 0 ⟨G1, y1⟩ (aF rfl) (Zc tk12 (Zc Yz (Zc Wp (Zc Wp (Zc Wp (Zc Wp (Zc Wp (Zc Wp (Zc Wp (Zc Yl (Zc Zp (Zc Zp (Zc Zb Zg))))))))))))) ?_; rintro p7 e3 j9 ⟨H, r8⟩; obtain ⟨G3, G4, rfl, H, F1⟩ := Kg H; have H : Z4k r5 a2 e3 j9 = some G4 := H; unfold Z4k at H; refine sR Y1 rfl ?_; refine Yc Zv ?_; refine dS ?_; rcases Zt H with ⟨y7, H⟩ | ⟨y7, H⟩
       · refine Wc rfl y7 ?_; refine T.skip ?_; refine Yk ?_; refine Zl ?_; refine T.block ?_; obtain ⟨F2, H⟩ := Yj H; refine sR Y5 rfl ?_; refine Zd Za ?_; refine Vv j3 j2 h0 F2 Ze Z4i Uj ?_; refine Z07 j3 j2 h0 F2 Za Wd mm6 ?_; refine Wu Za ?_; refine aN Za ?_; obtain ⟨y8, H⟩ := Yj H; obtain ⟨⟨G5, y9⟩, z1, H⟩ := Zk H; refine rG Y7 rfl ?_; refine Zd Za ?_; refine Zi Za Rf ?_; refine Zn Za Zo Kr rfl ?_; refine Zd Za ?_; refine Xf y8 Ze ?_; refine Zd Za ?_; refine Yn Nl Za (Zf Vz (Zf Vz (Gone.refl _))) rfl (fun wc hwc => Np (b0 := (CellsBank.mk e3)) (i1 := (a2.Res + j9)) (d2 := (r5.Cap.getD j9.toNat 0)) wc rfl (hwc.self (Zc Vz (Zc Vz Zg)) rfl) r8 d3 d4 z1) ?_; rintro _ _ ⟨rfl, rfl, r9⟩; refine Zj ?_; refine Wo ?_; refine Yk ?_; refine Zq (aT [1, 2, 3, 6, 8, 10, 12, 14, 77, 78, 79] rfl) ?_; obtain ⟨z5, H⟩ := Yj H; refine rG Y2 rfl ?_; refine Xf z5 Ze ?_; refine Zd Za ?_; refine Zj ?_; have H := Vy H F1; exact Na G3 y9.l (j9 + 1) ⟨H, r9⟩ (Nat.lt_succ_self _) (aF rfl) (Zc Zx (Zc Zx (Zc Zx (Zc Zx (Zc Zx (Zc Zx (Zc Zx (Zc Zx (Zc Zx (Zc Zx (Zc Zb (Zc Zb (Zc Zb Zg)))))))))))))
       · refine Xz rfl y7 ?_; refine T.exit ?_; refine Wk ?_; have H := Vu H F1 ▸ G2; refine Wk ?_; refine Ue ?_; exact Wj e3 ⟨H, r8⟩ (aF rfl) (Zc Zb (Zc Zb (Zc Zb (Zc Zb (Zc Zb (Zc Zb (Zc Zb (Zc Zb (Zc Zb (Zc Zb (Zc Zb (Zc Zb (Zc Zb Zg)))))))))))))
      ·
       rintro d8 ⟨H, s1⟩; unfold Z80 at H; refine Zl ?_; obtain ⟨s6, H⟩ := Yj H; refine sR Y7 rfl ?_; refine Zi Za Nh ?_; refine Zn Za Wr Xb rfl ?_; refine Zi Za Uw ?_; refine Zn Za Zo Zh rfl ?_; refine Vv j0 i4 g9 s6 Ze Xh Yf ?_; refine Z07 j0 i4 g9 s6 Za Zo Vw ?_; refine aN Za ?_; refine Vj (fun (d9 : List Int) => Z7d n0 limit2 r5 a2 d9 = some (r0, r1) ∧ d9.length = f9) (fun (d9 : List Int) => [(1, iV 1), (2, iV limit2), (3, pV b1), (6, pV b3), (8, pV f7), (10, pV f8), (12, pV d1), (14, pV f1)]) (fun (d9 : List Int) => [(eC b1 #[iV n0.N, iV n0.S, iV n0.T, .slice b9 b7 b8] 24), (eC b3 #[iV 0, iV 0, iV 0, .slice none 0 0, .slice none 0 0, .slice none 0 0, .slice none 0 0, .slice none 0 0, .slice none 0 0, iV 0, iV 0, iV 0, iV 0, iV 0, iV 0, iV 0, iV 0, iV 0, iV 0, iV 0, iV 0, iV 0, iV 0, .pointer none, .slice none 0 0, .slice none 0 0] 35), (eC f7 #[iV r5.N, iV r5.S, iV r5.T, sV d6 n9 f2, sV a6 f3 c14, sV a7 f4 c18, sV a5 e8 e9, sV a8 n25 f5, sV a9 n29 f6] 29), (eI d6 r5.First m2 3), (eI a6 r5.Head m3 3), (eI a7 r5.Rev m4 3), (eI a5 r5.Cap m5 2), (eI a8 r5.Arc m6 3), (eA a9 boolC r5.Back m7 4), (eC f8 #[iV a2.Verts, iV a2.Arcs, iV a2.Workers, iV a2.Room, iV a2.Res, iV a2.Ex, iV a2.H, iV a2.Flag, iV a2.Pending, iV a2.Ask, iV a2.Count, iV a2.Sense, iV a2.Deques, iV a2.Size] 31), (eC d1 #[sV b6 f9 j4] 221), (eI b6 d9 n6 226), (eC f1 #[iV r5.N, iV r5.S, iV r5.T, sV d6 n9 f2, sV a6 f3 c14, sV a7 f4 c18, sV a5 e8 e9, sV a8 n25 f5, sV a9 n29 f6, iV a2.Verts, iV a2.Arcs, iV a2.Workers, iV a2.Room, iV a2.Res, iV a2.Ex, iV a2.H, iV a2.Flag, iV a2.Pending, iV a2.Ask, iV a2.Count, iV a2.Sense, iV a2.Deques, iV a2.Size, pV d1, .slice none 0 0, .slice none 0 0] 35)]) ?_ ?_
       ·
        refine T.block ?_; obtain ⟨G6, G7, G8⟩ := Zk H; refine Z09 (fun (p8 : Nat) (c8 : List Int) (d5 : Int) => Wa (fun s => Z2f n0 r5 a2 s.1 s.2) p8 (c8, d5) = some G6 ∧ c8.length = f9) (fun (p8 : Nat) (c8 : List Int) (d5 : Int) => [(1, iV 1), (2, iV limit2), (3, pV b1), (6, pV b3), (8, pV f7), (10, pV f8), (12, pV d1), (14, pV f1), (17, iV d5)]) (fun (p8 : Nat) (c8 : List Int) (d5 : Int) => [(eC b1 #[iV n0.N, iV n0.S, iV n0.T, .slice b9 b7 b8] 24), (eC b3 #[iV 0, iV 0, iV 0, .slice none 0 0, .slice none 0 0, .slice none 0 0, .slice none 0 0, .slice none 0 0, .slice none 0 0, iV 0, iV 0, iV 0, iV 0, iV 0, iV 0, iV 0, iV 0, iV 0, iV 0, iV 0, iV 0, iV 0, iV 0, .pointer none, .slice none 0 0, .slice none 0 0] 35), (eC f7 #[iV r5.N, iV r5.S, iV r5.T, sV d6 n9 f2, sV a6 f3 c14, sV a7 f4 c18, sV a5 e8 e9, sV a8 n25 f5, sV a9 n29 f6] 29), (eI d6 r5.First m2 3), (eI a6 r5.Head m3 3), (eI a7 r5.Rev m4 3), (eI a5 r5.Cap m5 2), (eI a8 r5.Arc m6 3), (eA a9 boolC r5.Back m7 4), (eC f8 #[iV a2.Verts, iV a2.Arcs, iV a2.Workers, iV a2.Room, iV a2.Res, iV a2.Ex, iV a2.H, iV a2.Flag, iV a2.Pending, iV a2.Ask, iV a2.Count, iV a2.Sense, iV a2.Deques, iV a2.Size] 31), (eC d1 #[sV b6 f9 j4] 221), (eI b6 c8 n6 226), (eC f1 #[iV r5.N, iV r5.S, iV r5.T, sV d6 n9 f2, sV a6 f3 c14, sV a7 f4 c18, sV a5 e8 e9, sV a8 n25 f5, sV a9 n29 f6, iV a2.Verts, iV a2.Arcs, iV a2.Workers, iV a2.Room, iV a2.Res, iV a2.Ex, iV a2.H, iV a2.Flag, iV a2.Pending, iV a2.Ask, iV a2.Count, iV a2.Sense, iV a2.Deques, iV a2.Size, pV d1, .slice none 0 0, .slice none 0 0] 35)]) (fun (p8 : Nat) (c8 : List Int) (d5 : Int) => p8) Xm d8 (r5.First.getD n0.S.toNat 0) ⟨G7, s1⟩ (aF rfl) (Zc Zb (Zc Zb (Zc Zb (Zc Zb (Zc Zb (Zc Zb (Zc Zb (Zc Zb (Zc Zb (Zc Zb (Zc Zb (Zc Zb (Zc Zb Zg))))))))))))) ?_; rintro p8 c8 d5 ⟨H, o0⟩; obtain ⟨G9, H0, rfl, H, F3⟩ := Kg H; have H : Z2f n0 r5 a2 c8 d5 = some H0 := H; unfold Z2f at H; refine Zl ?_; obtain ⟨z6, s7, H⟩ := Ub H; refine sR Y9 rfl ?_; refine Zd Za ?_; refine Zi Za Nh ?_; refine Zn Za Wr Xb rfl ?_; refine Zi Za Uw ?_; refine Zn Za Zo Zh rfl ?_; refine Xf z6 Ze ?_; refine Vv j0 i4 g9 s7 Ze Xh Yf ?_; refine Z07 j0 i4 g9 s7 Za Zo Vw ?_; refine Yc Zv ?_; refine dN ?_; refine Zq (aT [1, 2, 3, 6, 8, 10, 12, 14, 17, 106] rfl) ?_; rcases Zt H with ⟨p1, H⟩ | ⟨p1, H⟩
        · refine Wc rfl p1 ?_; refine T.skip ?_; refine Yk ?_; refine Zl ?_; refine T.block ?_; obtain ⟨s8, H⟩ := Yj H; refine sR Y6 rfl ?_; refine Zi Za Z7q ?_; refine Zn Za Z9z Xb rfl ?_; refine Zd Za ?_; refine Vv j3 j2 h0 s8 Ze Z4i Uj ?_; refine Z07 j3 j2 h0 s8 Za Wd mm6 ?_; refine aN Za ?_; refine Zl ?_; obtain ⟨z7, H⟩ := Yj H; obtain ⟨z8, z9, H⟩ := Zk H; refine rG Y6 rfl ?_; refine Zd Za ?_; refine Zi Za Rf ?_; refine Zn Za Zo Kr rfl ?_; refine Zd Za ?_; refine Xf z7 Ze ?_; refine Yn Kc Za (Zf Vz (Zf Vz (Gone.refl _))) rfl (fun wc hwc => Kd (b0 := (CellsBank.mk c8)) (i1 := (a2.Res + d5)) (v2 := 0) wc rfl (hwc.self (Zc Vz (Zc Vz Zg)) rfl) o0 d3 d4 z9) ?_; rintro _ _ ⟨rfl, rfl, s9⟩; refine dN ?_; refine Zq (aT [1, 2, 3, 6, 8, 10, 12, 14, 17, 18] rfl) ?_; refine Zl ?_; obtain ⟨t0, A0, H⟩ := Ub H; obtain ⟨⟨H1, A1⟩, A2, H⟩ := Zk H; refine Xt 10 [0, 1, 2, 3, 4, 5, 6, 7, 8, 9] rfl Yy (by kernel_rfl) (by kernel_rfl) rfl (by kernel_rfl) ?_; refine TQ.move Za ?_; refine Ye Za Rf ?_; refine Yi Za Zo Lb rfl ?_; refine Ye Za Z2d ?_; refine Yi Za Wr Jj rfl ?_; refine TQ.move Za ?_; refine Z11 o9 o8 o7 t0 Ze Xh Yf ?_; refine Z4q o9 o8 o7 t0 Za Zo mm7 ?_; refine Ud A0 Ze ?_; refine TQ.move Za ?_; refine TQ.tail [10] Ys ?_; refine Yn Nl Za (Zf Zb (Zf Zb (Gone.refl _))) rfl (fun wc hwc => Np (b0 := z8) (i1 := (a2.Res + (r5.Rev.getD d5.toNat 0))) (d2 := (r5.Cap.getD d5.toNat 0)) wc rfl (hwc.self (Zc Zb (Zc Zb Zg)) rfl) s9 d3 d4 A2) ?_; rintro _ _ ⟨rfl, rfl, t1⟩; refine dN ?_; refine Zq (aT [1, 2, 3, 6, 8, 10, 12, 14, 17, 18] rfl) ?_; refine Zl ?_; obtain ⟨A3, A4, H⟩ := Ub H; obtain ⟨⟨H2, A5⟩, A6, H⟩ := Zk H; refine rG Y9 rfl ?_; refine Zd Za ?_; refine Zi Za Gt ?_; refine Zn Za Zo Lb rfl ?_; refine Zi Za Uw ?_; refine Zn Za Zo Xb rfl ?_; refine Xf A3 Ze ?_; refine Zd Za ?_; refine Zda A4 Za ?_; refine Yn Nl Za (Zf Zb (Zf Zb (Gone.refl _))) rfl (fun wc hwc => Np (b0 := A1) (i1 := (a2.Ex + n0.S)) (d2 := (-(r5.Cap.getD d5.toNat 0))) wc rfl (hwc.self (Zc Zb (Zc Zb Zg)) rfl) t1 d3 d4 A6) ?_; rintro _ _ ⟨rfl, rfl, t2⟩; refine dN ?_; refine Zq (aT [1, 2, 3, 6, 8, 10, 12, 14, 17, 18] rfl) ?_; obtain ⟨t3, A7, H⟩ := Ub H; obtain ⟨⟨H3, A8⟩, A9, H⟩ := Zk H; refine Xt 10 [0, 1, 2, 3, 4, 5, 6, 7, 8, 9] rfl Yy (by kernel_rfl) (by kernel_rfl) rfl (by kernel_rfl) ?_; refine TQ.move Za ?_; refine Ye Za Gt ?_; refine Yi Za Zo Lb rfl ?_; refine Ye Za Nc ?_; refine Yi Za Wr Jj rfl ?_; refine TQ.move Za ?_; refine Z11 m9 m8 j1 t3 Ze Xh Yf ?_; refine Z4q m9 m8 j1 t3 Za Zo mm6 ?_; refine Ud A7 Ze ?_; refine TQ.move Za ?_; refine TQ.tail [10] Ys ?_; refine Yn Nl Za (Zf Zb (Zf Zb (Gone.refl _))) rfl (fun wc hwc => Np (b0 := A5) (i1 := (a2.Ex + (r5.Head.getD d5.toNat 0))) (d2 := (r5.Cap.getD d5.toNat 0)) wc rfl (hwc.self (Zc Zb (Zc Zb Zg)) rfl) t2 d3 d4 A9) ?_; rintro _ _ ⟨rfl, rfl, t4⟩; refine Zj ?_; refine Wo ?_; refine Yk ?_; refine Zq (aT [1, 2, 3, 6, 8, 10, 12, 14, 17] rfl) ?_; obtain ⟨B0, H⟩ := Yj H; refine rG Y3 rfl ?_; refine Zd Za ?_; refine Xf B0 Ze ?_; refine Wu Za ?_; refine Zj ?_; have H := Vy H F3; exact Na G9 A8.l (d5 + 1) ⟨H, t4⟩ (Nat.lt_succ_self _) (aF rfl) (Zc Zx (Zc Zx (Zc Zx (Zc Zx (Zc Zx (Zc Zx (Zc Zx (Zc Zx (Zc Zx (Zc Zx (Zc Zb (Zc Zb (Zc Zb Zg)))))))))))))
        · refine Xz rfl p1 ?_; refine T.exit ?_; refine Wk ?_; have H := Vu H F3 ▸ G8; refine Wk ?_; refine Ue ?_; exact Wj c8 ⟨H, o0⟩ (aF rfl) (Zc Zb (Zc Zb (Zc Zb (Zc Zb (Zc Zb (Zc Zb (Zc Zb (Zc Zb (Zc Zb (Zc Zb (Zc Zb (Zc Zb (Zc Zb Zg)))))))))))))
       ·
        rintro d9 ⟨H, t5⟩; unfold Z7d at H; refine Zl ?_; obtain ⟨B1, H⟩ := Yj H; obtain ⟨B2, B3, H⟩ := Zk H; refine rG Y9 rfl ?_; refine Zd Za ?_; refine Zi Za Z3h ?_; refine Zn Za Zo Kr rfl ?_; refine Zi Za Uw ?_; refine Zn Za Zo Zh rfl ?_; refine Xf B1 Ze ?_; refine Zi Za Uh ?_; refine Zn Za Zo Zh rfl ?_; refine Yn Kc Za (Zf Vz (Zf Vz (Gone.refl _))) rfl (fun wc hwc => Kd (b0 := (CellsBank.mk d9)) (i1 := (a2.H + n0.S)) (v2 := n0.N) wc rfl (hwc.self (Zc Vz (Zc Vz Zg)) rfl) t5 d3 d4 B3) ?_; rintro _ _ ⟨rfl, rfl, t6⟩; refine dN ?_; refine Zq (aT [1, 2, 3, 6, 8, 10, 12, 14] rfl) ?_; refine Zl ?_; refine sR Y3 rfl ?_; refine Zi Za Uh ?_; refine Zn Za Zo Xb rfl ?_; refine Zd Za ?_; refine dN ?_; refine Zg9 (fun (e0 a4 : List Int) (e4 e5 : Nat) (c9 : Option Nat) (g4 : List Value) => Z7l limit2 r5 a2 e0 a4 = some (r0, r1) ∧ e0.length = f9 ∧ a4.length = e4 ∧ e4 ≤ e5 ∧ g4.length = (e5 - e4) * 1 ∧ (c9 = none → e5 = 0)) (fun (e0 a4 : List Int) (e4 e5 : Nat) (c9 : Option Nat) (g4 : List Value) => [(1, iV 1), (2, iV limit2), (6, pV b3), (8, pV f7), (10, pV f8), (12, pV d1), (14, pV f1)]) (fun (e0 a4 : List Int) (e4 e5 : Nat) (c9 : Option Nat) (g4 : List Value) => [(eC b3 #[iV 0, iV 0, iV 0, .slice none 0 0, .slice none 0 0, .slice none 0 0, .slice none 0 0, .slice none 0 0, .slice none 0 0, iV 0, iV 0, iV 0, iV 0, iV 0, iV 0, iV 0, iV 0, iV 0, iV 0, iV 0, iV 0, iV 0, iV 0, .pointer none, .slice none 0 0, .slice none 0 0] 35), (eC f7 #[iV r5.N, iV r5.S, iV r5.T, sV d6 n9 f2, sV a6 f3 c14, sV a7 f4 c18, sV a5 e8 e9, sV a8 n25 f5, sV a9 n29 f6] 29), (eI d6 r5.First m2 3), (eI a6 r5.Head m3 3), (eI a7 r5.Rev m4 3), (eI a5 r5.Cap m5 2), (eI a8 r5.Arc m6 3), (eA a9 boolC r5.Back m7 4), (eC f8 #[iV a2.Verts, iV a2.Arcs, iV a2.Workers, iV a2.Room, iV a2.Res, iV a2.Ex, iV a2.H, iV a2.Flag, iV a2.Pending, iV a2.Ask, iV a2.Count, iV a2.Sense, iV a2.Deques, iV a2.Size] 31), (eC d1 #[sV b6 f9 j4] 221), (eI b6 e0 n6 226), (eC f1 #[iV r5.N, iV r5.S, iV r5.T, sV d6 n9 f2, sV a6 f3 c14, sV a7 f4 c18, sV a5 e8 e9, sV a8 n25 f5, sV a9 n29 f6, iV a2.Verts, iV a2.Arcs, iV a2.Workers, iV a2.Room, iV a2.Res, iV a2.Ex, iV a2.H, iV a2.Flag, iV a2.Pending, iV a2.Ask, iV a2.Count, iV a2.Sense, iV a2.Deques, iV a2.Size, pV d1, .slice none 0 0, sV c9 e4 e5] 35), (eI c9 a4 g4 3)]) ?_ ?_
        ·
         refine T.block ?_; obtain ⟨H4, H5, H6⟩ := Zk H; refine Zch (fun (p9 : Nat) (b5 a3 : List Int) (d7 c149 : Nat) (c4 : Option Nat) (e6 : List Value) (c7 : Int) => Wa (fun s => Z32 n0 a2 s.1 s.2.1 s.2.2) p9 (b5, a3, c7) = some H4 ∧ b5.length = f9 ∧ a3.length = d7 ∧ d7 ≤ c149 ∧ e6.length = (c149 - d7) * 1 ∧ (c4 = none → c149 = 0)) (fun (p9 : Nat) (b5 a3 : List Int) (d7 c149 : Nat) (c4 : Option Nat) (e6 : List Value) (c7 : Int) => [(1, iV 1), (2, iV limit2), (3, pV b1), (6, pV b3), (8, pV f7), (10, pV f8), (12, pV d1), (14, pV f1), (161, iV n0.N), (162, iV c7)]) (fun (p9 : Nat) (b5 a3 : List Int) (d7 c149 : Nat) (c4 : Option Nat) (e6 : List Value) (c7 : Int) => [(eC b1 #[iV n0.N, iV n0.S, iV n0.T, .slice b9 b7 b8] 24), (eC b3 #[iV 0, iV 0, iV 0, .slice none 0 0, .slice none 0 0, .slice none 0 0, .slice none 0 0, .slice none 0 0, .slice none 0 0, iV 0, iV 0, iV 0, iV 0, iV 0, iV 0, iV 0, iV 0, iV 0, iV 0, iV 0, iV 0, iV 0, iV 0, .pointer none, .slice none 0 0, .slice none 0 0] 35), (eC f7 #[iV r5.N, iV r5.S, iV r5.T, sV d6 n9 f2, sV a6 f3 c14, sV a7 f4 c18, sV a5 e8 e9, sV a8 n25 f5, sV a9 n29 f6] 29), (eI d6 r5.First m2 3), (eI a6 r5.Head m3 3), (eI a7 r5.Rev m4 3), (eI a5 r5.Cap m5 2), (eI a8 r5.Arc m6 3), (eA a9 boolC r5.Back m7 4), (eC f8 #[iV a2.Verts, iV a2.Arcs, iV a2.Workers, iV a2.Room, iV a2.Res, iV a2.Ex, iV a2.H, iV a2.Flag, iV a2.Pending, iV a2.Ask, iV a2.Count, iV a2.Sense, iV a2.Deques, iV a2.Size] 31), (eC d1 #[sV b6 f9 j4] 221), (eI b6 b5 n6 226), (eC f1 #[iV r5.N, iV r5.S, iV r5.T, sV d6 n9 f2, sV a6 f3 c14, sV a7 f4 c18, sV a5 e8 e9, sV a8 n25 f5, sV a9 n29 f6, iV a2.Verts, iV a2.Arcs, iV a2.Workers, iV a2.Room, iV a2.Res, iV a2.Ex, iV a2.H, iV a2.Flag, iV a2.Pending, iV a2.Ask, iV a2.Count, iV a2.Sense, iV a2.Deques, iV a2.Size, pV d1, .slice none 0 0, sV c4 d7 c149] 35), (eI c4 a3 e6 3)]) (fun (p9 : Nat) (b5 a3 : List Int) (d7 c149 : Nat) (c4 : Option Nat) (e6 : List Value) (c7 : Int) => p9) Xm B2.l ([]) 0 0 none ([]) 0 ⟨H5, t6, rfl, (Nat.le_refl _), (Ve 0 _), (fun _ => rfl)⟩ (aF rfl) (Zc Zx (Zc Zx (Zc Zx (Zc Zx (Zc Zx (Zc Zx (Zc Zx (Zc Zx (Zc Zx (Zc Zx (Zc Zb (Zc Zb (Zc Zb (Pick.none Zg)))))))))))))) ?_; rintro p9 b5 a3 d7 c149 c4 e6 c7 ⟨H, g0, g1, j5, j6, j7⟩; obtain ⟨F4, F5, rfl, H, B4⟩ := Kg H; have H : Z32 n0 a2 b5 a3 c7 = some F5 := H; unfold Z32 at H; refine sR Y1 rfl ?_; refine Yc Zv ?_; refine dS ?_; rcases Zt H with ⟨p2, H⟩ | ⟨p2, H⟩
         ·
          refine Wc rfl p2 ?_; refine T.skip ?_; refine Yk ?_; refine Zl ?_; refine T.block ?_; refine sR Y2 rfl ?_; refine Zd Za ?_; refine aN Za ?_; refine Zl ?_; refine Vj (fun (j8 : Bool) => Z01 a2 b5 a3 c7 j8 = some F5) (fun (j8 : Bool) => [(1, iV 1), (2, iV limit2), (3, pV b1), (6, pV b3), (8, pV f7), (10, pV f8), (12, pV d1), (14, pV f1), (19, iV c7), (161, iV n0.N), (162, iV c7), (183, .bool j8)]) (fun (j8 : Bool) => [(eC b1 #[iV n0.N, iV n0.S, iV n0.T, .slice b9 b7 b8] 24), (eC b3 #[iV 0, iV 0, iV 0, .slice none 0 0, .slice none 0 0, .slice none 0 0, .slice none 0 0, .slice none 0 0, .slice none 0 0, iV 0, iV 0, iV 0, iV 0, iV 0, iV 0, iV 0, iV 0, iV 0, iV 0, iV 0, iV 0, iV 0, iV 0, .pointer none, .slice none 0 0, .slice none 0 0] 35), (eC f7 #[iV r5.N, iV r5.S, iV r5.T, sV d6 n9 f2, sV a6 f3 c14, sV a7 f4 c18, sV a5 e8 e9, sV a8 n25 f5, sV a9 n29 f6] 29), (eI d6 r5.First m2 3), (eI a6 r5.Head m3 3), (eI a7 r5.Rev m4 3), (eI a5 r5.Cap m5 2), (eI a8 r5.Arc m6 3), (eA a9 boolC r5.Back m7 4), (eC f8 #[iV a2.Verts, iV a2.Arcs, iV a2.Workers, iV a2.Room, iV a2.Res, iV a2.Ex, iV a2.H, iV a2.Flag, iV a2.Pending, iV a2.Ask, iV a2.Count, iV a2.Sense, iV a2.Deques, iV a2.Size] 31), (eC d1 #[sV b6 f9 j4] 221), (eI b6 b5 n6 226), (eC f1 #[iV r5.N, iV r5.S, iV r5.T, sV d6 n9 f2, sV a6 f3 c14, sV a7 f4 c18, sV a5 e8 e9, sV a8 n25 f5, sV a9 n29 f6, iV a2.Verts, iV a2.Arcs, iV a2.Workers, iV a2.Room, iV a2.Res, iV a2.Ex, iV a2.H, iV a2.Flag, iV a2.Pending, iV a2.Ask, iV a2.Count, iV a2.Sense, iV a2.Deques, iV a2.Size, pV d1, .slice none 0 0, sV c4 d7 c149] 35), (eI c4 a3 e6 3)]) ?_ ?_
          ·
           rcases Zt H with ⟨n7, H⟩ | ⟨n7, H⟩
           ·
            rcases Zt H with ⟨p3, H⟩ | ⟨p3, H⟩
            · obtain ⟨B5, H⟩ := Yj H; obtain ⟨B6, B7, H⟩ := Zk H; refine rG Y19 rfl ?_; refine Zd Za ?_; refine Zi Za Uw ?_; refine Zn Za Zo Zh rfl ?_; refine Yc Zv ?_; refine Zd Za ?_; refine Yo (t := 169) (b' := true) rfl (decide_eq_true n7) ?_; refine Zd Za ?_; refine Zi Za Nd ?_; refine Zn Za Zo Zh rfl ?_; refine Yc Zv ?_; refine Xn Ze ?_; refine Zd Za ?_; refine Yo (t := 175) (b' := true) rfl (decide_eq_true p3) ?_; refine Zd Za ?_; refine Zi Za Gt ?_; refine Zn Za Zo Kr rfl ?_; refine Zd Za ?_; refine Xf B5 Ze ?_; refine Ya Uc Za (fun wc hwc => Ug (b0 := (CellsBank.mk b5)) (i1 := (a2.Ex + c7)) wc (Uy hwc Lb g0 d3 d4) (hwc.hb (cs := [sV b6 f9 j4]) Lu) B7) ?_; rintro _ _ ⟨rfl, rfl⟩; refine Yc Zv ?_; refine Xn Ze ?_; refine Zj ?_; exact Wj (decide (0 < B6)) H (aF rfl) (Zc Zb (Zc Zb (Zc Zb (Zc Zb (Zc Zb (Zc Zb (Zc Zb (Zc Zb (Zc Zb (Zc Zb (Zc Zb (Zc Zb (Zc Zb (Zc Zb Zg))))))))))))))
            · refine rG Y19 rfl ?_; refine Zd Za ?_; refine Zi Za Uw ?_; refine Zn Za Zo Zh rfl ?_; refine Yc Zv ?_; refine Zd Za ?_; refine Yo (t := 169) (b' := true) rfl (decide_eq_true n7) ?_; refine Zd Za ?_; refine Zi Za Nd ?_; refine Zn Za Zo Zh rfl ?_; refine Yc Zv ?_; refine Xn Ze ?_; refine Zd Za ?_; refine Yo (t := 175) (b' := false) rfl (decide_eq_false p3) ?_; refine Zs Za ?_; refine Zs Za ?_; refine Zs Za ?_; refine Zs Za ?_; refine Zs Za ?_; refine Zs Za ?_; refine Zs Za ?_; refine Xl Ze ?_; refine Zj ?_; exact Wj false H (aF rfl) (Zc Zb (Zc Zb (Zc Zb (Zc Zb (Zc Zb (Zc Zb (Zc Zb (Zc Zb (Zc Zb (Zc Zb (Zc Zb (Zc Zb (Zc Zb (Zc Zb Zg))))))))))))))
           · refine rG Y19 rfl ?_; refine Zd Za ?_; refine Zi Za Uw ?_; refine Zn Za Zo Zh rfl ?_; refine Yc Zv ?_; refine Zd Za ?_; refine Yo (t := 169) (b' := false) rfl (decide_eq_false n7) ?_; refine Zs Za ?_; refine Zs Za ?_; refine Zs Za ?_; refine Zs Za ?_; refine Xl Ze ?_; refine Zd Za ?_; refine Zs Za ?_; refine Zs Za ?_; refine Zs Za ?_; refine Zs Za ?_; refine Zs Za ?_; refine Zs Za ?_; refine Zs Za ?_; refine Xl Ze ?_; refine Zj ?_; exact Wj false H (aF rfl) (Zc Zb (Zc Zb (Zc Zb (Zc Zb (Zc Zb (Zc Zb (Zc Zb (Zc Zb (Zc Zb (Zc Zb (Zc Zb (Zc Zb (Zc Zb (Zc Zb Zg))))))))))))))
          ·
           rintro j8 H; unfold Z01 at H; rcases Zt H with ⟨p4, H⟩ | ⟨p4, H⟩
           · refine Xd rfl p4 ?_; refine sR Y6 rfl ?_; refine Zi Za Z3a ?_; refine Zn Za Wr Jn rfl ?_; refine Vl (xs := a3) g1 Ze Xh ?_; refine Zd Za ?_; refine TO.rem Ze (by decide) ?_; refine aN Za ?_; refine Zl ?_; obtain ⟨B8, B9, H⟩ := Zk H; obtain ⟨t7, C0, H⟩ := Zk H; refine rG Y6 rfl ?_; refine Zd Za ?_; refine Xx Za Wn Kr rfl ?_; refine Zd Za ?_; refine Ya Z65 Za (fun wc hwc => Z88 (l0 := a2) (w1 := ((a3.length : Int).tmod 1)) wc  B9) ?_; rintro _ _ ⟨rfl, rfl⟩; refine Ya Uc Za (fun wc hwc => Ug (b0 := (CellsBank.mk b5)) (i1 := B8) wc (Uy hwc Lb g0 d3 d4) (hwc.hb (cs := [sV b6 f9 j4]) Lu) C0) ?_; rintro _ _ ⟨rfl, rfl⟩; refine aN Za ?_; refine Zq (aT [1, 2, 3, 6, 8, 10, 12, 14, 19, 161, 162, 20, 21] rfl) ?_; refine Zl ?_; obtain ⟨C1, C2, H⟩ := Zk H; obtain ⟨C3, C4, H⟩ := Zk H; refine rG Y7 rfl ?_; refine Zd Za ?_; refine Xx Za Wn Kr rfl ?_; refine Zd Za ?_; refine Zd Za ?_; refine Ya Zbk Za (fun wc hwc => Zba (l0 := a2) (w1 := ((a3.length : Int).tmod 1)) (at2 := t7) wc  C2) ?_; rintro _ _ ⟨rfl, rfl⟩; refine Zd Za ?_; refine Yn Kc Za (Zf Vz (Zf Vz (Gone.refl _))) rfl (fun wc hwc => Kd (b0 := (CellsBank.mk b5)) (i1 := C1) (v2 := c7) wc rfl (hwc.self (Zc Vz (Zc Vz Zg)) rfl) g0 d3 d4 C4) ?_; rintro _ _ ⟨rfl, rfl, t8⟩; refine dS ?_; obtain ⟨C5, C6, H⟩ := Zk H; obtain ⟨C7, H⟩ := Yj H; obtain ⟨C8, C9, H⟩ := Zk H; refine rG Y7 rfl ?_; refine Zd Za ?_; refine Xx Za Wn Lb rfl ?_; refine Zd Za ?_; refine Ya Z65 Za (fun wc hwc => Z88 (l0 := a2) (w1 := ((a3.length : Int).tmod 1)) wc  C6) ?_; rintro _ _ ⟨rfl, rfl⟩; refine Zd Za ?_; refine Xf C7 Ze ?_; refine Yn Kc Za (Zf Zb (Zf Zb (Gone.refl _))) rfl (fun wc hwc => Kd (b0 := C3) (i1 := C5) (v2 := (t7 + 1)) wc rfl (hwc.self (Zc Zb (Zc Zb Zg)) rfl) t8 d3 d4 C9) ?_; rintro _ _ ⟨rfl, rfl, t9⟩; refine dN ?_; refine Zq (aT [1, 2, 3, 6, 8, 10, 12, 14, 19, 161, 162] rfl) ?_; refine Zl ?_; obtain ⟨D0, H⟩ := Yj H; obtain ⟨D1, D2, H⟩ := Zk H; refine rG Y6 rfl ?_; refine Zd Za ?_; refine Zi Za Z2p ?_; refine Zn Za Zo Lb rfl ?_; refine Zd Za ?_; refine Xf D0 Ze ?_; refine Yn Kc Za (Zf Zb (Zf Zb (Gone.refl _))) rfl (fun wc hwc => Kd (b0 := C8) (i1 := (a2.Flag + c7)) (v2 := 1) wc rfl (hwc.self (Zc Zb (Zc Zb Zg)) rfl) t9 d3 d4 D2) ?_; rintro _ _ ⟨rfl, rfl, u1⟩; refine dN ?_; obtain ⟨D3, H⟩ := Yj H; refine rG Y7 rfl ?_; refine Zi Za Z3a ?_; refine Zn Za Wr Jn rfl ?_; refine Zd Za ?_; refine Gl [iV 0] [0] Za Xh Yf Lf Ys (by simp only [Ym, setCells, Value.cells, List.toList_toArray, List.getD_cons_zero, List.getD_cons_succ, List.set_cons_zero, List.set_cons_succ]; rfl) (by kernel_rfl) ?_; intro H7; refine Z2o (f := iC) (s := 1) (xs := a3) (ob := c4) (j := e6) (ys := [c7]) (fun _ => rfl) (fun _ => rfl) Zhg D3 Ze tk14 g1 j5 j6 j7 (fun wc hwc => (hwc.rs (f := iC) (s := 1) (xs := [c7]) (j := ([])) (fun _ => rfl) Zh rfl (Nat.le_refl _) Vg)) ?_; intro o1 u2 D4 u3 u4 u5; refine Zi Za Z3a ?_; refine Yg (cs' := [iV r5.N, iV r5.S, iV r5.T, sV d6 n9 f2, sV a6 f3 c14, sV a7 f4 c18, sV a5 e8 e9, sV a8 n25 f5, sV a9 n29 f6, iV a2.Verts, iV a2.Arcs, iV a2.Workers, iV a2.Room, iV a2.Res, iV a2.Ex, iV a2.H, iV a2.Flag, iV a2.Pending, iV a2.Ask, iV a2.Count, iV a2.Sense, iV a2.Deques, iV a2.Size, pV d1, .slice none 0 0, sV o1 (d7 + 1) u2]) Za tk14 Z1r Zr ?_; refine Zj ?_; refine Wo ?_; refine Yk ?_; refine Zq (aT [1, 2, 3, 6, 8, 10, 12, 14, 161, 162] rfl) ?_; obtain ⟨D5, H⟩ := Yj H; refine rG Y2 rfl ?_; refine Xf D5 Ze ?_; refine Zd Za ?_; refine Zj ?_; have H := Vy H B4; exact Z9u F4 D1.l (a3 ++ ([c7])) (d7 + 1) u2 o1 D4 (c7 + 1) ⟨H, u1, (Z68 g1 rfl), u3, u4, u5⟩ (Nat.lt_succ_self _) (aF rfl) (Zc Uo (Zc Uo (Zc Uo (Zc Uo (Zc Uo (Zc Uo (Zc Uo (Zc Uo (Zc Uo (Zc Uo (Zc Yl (Zc Yl (Zc Zb (Zc Zb Zg))))))))))))))
           · refine Xi rfl (Bool.eq_false_iff.2 p4) ?_; refine T.skip ?_; refine Wo ?_; refine Yk ?_; obtain ⟨D6, H⟩ := Yj H; refine rG Y2 rfl ?_; refine Xf D6 Ze ?_; refine Zd Za ?_; refine Zj ?_; have H := Vy H B4; exact Z9u F4 b5 a3 d7 c149 c4 e6 (c7 + 1) ⟨H, g0, g1, j5, j6, j7⟩ (Nat.lt_succ_self _) (aF rfl) (Zc Zb (Zc Zb (Zc Zb (Zc Zb (Zc Zb (Zc Zb (Zc Zb (Zc Zb (Zc Zb (Zc Zb (Zc Zb (Zc Zb (Zc Zb (Zc Zb Zg))))))))))))))
         · refine Xz rfl p2 ?_; refine T.exit ?_; refine Wk ?_; have H := Vu H B4 ▸ H6; refine Wk ?_; refine Ue ?_; exact Ze9 b5 a3 d7 c149 c4 e6 ⟨H, g0, g1, j5, j6, j7⟩ (aF rfl) (Zc Zp (Zc Zp (Zc Zp (Zc Zp (Zc Zp (Zc Zp (Zc Zp (Zc Zp (Zc Zp (Zc Zp (Zc Zp (Zc Zp (Zc Zp Zg)))))))))))))
        ·
         rintro e0 a4 e4 e5 c9 g4 ⟨H, u6, o2, u7, u8, u9⟩; unfold Z7l at H; refine Zl ?_; obtain ⟨D7, D8, H⟩ := Zk H; refine rG Y7 rfl ?_; refine Zd Za ?_; refine Zi Za Z33 ?_; refine Zn Za Zo mm8 rfl ?_; refine Zi Za Z3a ?_; refine Zn Za Wr Lb rfl ?_; refine Vl (xs := a4) o2 Ze Xh ?_; refine Yn Kc Za (Zf Kt (Zf Kt (Gone.refl _))) rfl (fun wc hwc => Kd (b0 := (CellsBank.mk e0)) (i1 := a2.Pending) (v2 := (a4.length : Int)) wc rfl (hwc.self (Zc Kt (Zc Kt Zg)) rfl) u6 d3 d4 D8) ?_; rintro _ _ ⟨rfl, rfl, v0⟩; refine dS ?_; obtain ⟨v4, D9, H⟩ := Zk H; refine rG Y5 rfl ?_; refine Zd Za ?_; refine Zi Za Z7f ?_; refine Zn Za Zo Lu rfl ?_; refine Zd Za ?_; refine Yn Kc Za (Zf Zb (Zf Zb (Gone.refl _))) rfl (fun wc hwc => Kd (b0 := D7) (i1 := a2.Count) (v2 := 1) wc rfl (hwc.self (Zc Zb (Zc Zb Zg)) rfl) v0 d3 d4 D9) ?_; rintro _ _ ⟨rfl, rfl, v5⟩; refine dN ?_; refine Zq (aT [1, 2, 6, 8, 10, 14] rfl) ?_; refine Zl ?_; refine sR Y2 rfl ?_; refine Zd Za ?_; refine Zd Za ?_; refine dN ?_; refine Zg9 (fun (g5 : Nat) (g2 : WorkerWorker) (g3 c235 : Nat) (e2 : Option Nat) (h1 : List Value) => Z83 r5 a2 a4 v4 g2 = some (r0, r1) ∧ [g5].length = g3 ∧ g3 ≤ c235 ∧ h1.length = (c235 - g3) * 1 ∧ (e2 = none → c235 = 0)) (fun (g5 : Nat) (g2 : WorkerWorker) (g3 c235 : Nat) (e2 : Option Nat) (h1 : List Value) => [(6, pV b3), (14, pV f1)]) (fun (g5 : Nat) (g2 : WorkerWorker) (g3 c235 : Nat) (e2 : Option Nat) (h1 : List Value) => [(eC b3 #[iV 0, iV 0, iV 0, .slice none 0 0, .slice none 0 0, .slice none 0 0, .slice none 0 0, .slice none 0 0, .slice none 0 0, iV 0, iV 0, iV 0, iV 0, iV 0, iV 0, iV 0, iV 0, iV 0, iV 0, iV 0, iV 0, iV 0, iV 0, .pointer none, .slice none 0 0, .slice none 0 0] 35), (eC f1 #[iV r5.N, iV r5.S, iV r5.T, sV d6 n9 f2, sV a6 f3 c14, sV a7 f4 c18, sV a5 e8 e9, sV a8 n25 f5, sV a9 n29 f6, iV a2.Verts, iV a2.Arcs, iV a2.Workers, iV a2.Room, iV a2.Res, iV a2.Ex, iV a2.H, iV a2.Flag, iV a2.Pending, iV a2.Ask, iV a2.Count, iV a2.Sense, iV a2.Deques, iV a2.Size, pV d1, sV e2 g3 c235, sV c9 e4 e5] 35), (eI d6 r5.First m2 3), (eI a6 r5.Head m3 3), (eI a7 r5.Rev m4 3), (eI a5 r5.Cap m5 2), (eI a8 r5.Arc m6 3), (eA a9 boolC r5.Back m7 4), (eC d1 #[sV b6 f9 j4] 221), (eI b6 v4.l n6 226), (some g5, .cells (Zm ((sb d6), n9, f2) ((sb a6), f3, c14) ((sb a7), f4, c18) ((sb a5), e8, e9) ((sb a8), n25, f5) ((sb a9), n29, f6) ({ g2 with c := ({ r5 with N := g2.c.N, S := g2.c.S, T := g2.c.T } : Csr) } : WorkerWorker)).toArray 126 (0, 0)), (eA e2 Vi ([g5]) h1 42), (eI c9 a4 g4 3)]) ?_ ?_
         ·
          refine T.block ?_; refine Zfb ?_; refine RT.round ?_; refine sR Y1 rfl ?_; refine Lm (b := true) Zv (by first | decide | rfl) ?_; refine dS ?_; refine Xd rfl rfl ?_; refine T.skip ?_; refine Yk ?_; refine Zl ?_; refine T.block ?_; refine sR Y2 rfl ?_; refine Zd Za ?_; refine aN Za ?_; refine Zl ?_; obtain ⟨⟨n8, H8⟩, E0, H⟩ := Zk H; refine rG Y10 rfl ?_; refine Xx Za Z1p Vw rfl ?_; refine Xx Za Wn Lu rfl ?_; refine Zd Za ?_; refine Zd Za ?_; refine Ya Zmq Za (fun wc hwc => Znd (c0 := r5) (l1 := a2) (id2 := 0) (limit3 := limit2) wc (Uy hwc mm5 j1 m8 m9) E0) ?_; rintro _ _ ⟨p5, rfl, rfl⟩; refine Zd Za ?_; refine TO.extract Ze ?_; refine TO.extract Ze ?_; refine Wu Za ?_; refine aN Za ?_; refine Zq (aT [2, 6, 8, 10, 14, 233, 234, 23, 24] rfl) ?_; refine Zl ?_; refine sR Y2 rfl ?_; refine Zd Za ?_; refine Yc Zv ?_; refine dN ?_; rcases Zt H with ⟨v6, H⟩ | ⟨v6, H⟩
          · cases H
          · refine Xz rfl v6 ?_; refine T.skip ?_; refine Yk ?_; obtain ⟨E1, H⟩ := Yj H; refine rG Y7 rfl ?_; refine Zi Za Jr ?_; refine Zn Za Gg Jn rfl ?_; refine Zd Za ?_; refine Gl [.pointer none] [0] Za Jh Nu Zcn Ys (by simp only [Ym, setCells, Value.cells, List.toList_toArray, List.getD_cons_zero, List.getD_cons_succ, List.set_cons_zero, List.set_cons_succ]; rfl) (by kernel_rfl) ?_; intro H9; refine TO.addNone (.cells (arr Vi ([] : List Nat) []).toArray 42 (0, 0)) ?_; refine Z2o (f := Vi) (s := 1) (xs := ([] : List Nat)) (ob := none) (j := ([])) (ys := [p5]) (fun _ => rfl) (fun _ => rfl) Zk7 E1 Ze Zb rfl (Nat.le_refl _) (Ve 0 _) (fun _ => rfl) (fun wc hwc => (hwc.rs (f := Vi) (s := 1) (xs := [p5]) (j := ([])) (fun _ => rfl) Yx rfl (Nat.le_refl _) Vg)) ?_; intro o4 c226 E2 v7 v8 v9; refine Zi Za Jr ?_; refine Yg (cs' := [iV r5.N, iV r5.S, iV r5.T, sV d6 n9 f2, sV a6 f3 c14, sV a7 f4 c18, sV a5 e8 e9, sV a8 n25 f5, sV a9 n29 f6, iV a2.Verts, iV a2.Arcs, iV a2.Workers, iV a2.Room, iV a2.Res, iV a2.Ex, iV a2.H, iV a2.Flag, iV a2.Pending, iV a2.Ask, iV a2.Count, iV a2.Sense, iV a2.Deques, iV a2.Size, pV d1, sV o4 (0 + 1) c226, sV c9 e4 e5]) Za tk14 Ziw Zr ?_; refine Zj ?_; refine Wo ?_; refine Yk ?_; refine Zq (aT [2, 6, 8, 10, 14, 233, 234] rfl) ?_; refine rG Y2 rfl ?_; refine Lx (r := 1) (by decide) Ze ?_; refine Zd Za ?_; refine Zj ?_; refine X.round ?_; refine RT.round ?_; refine sR Y1 rfl ?_; refine Lm (b := false) Zv (by first | decide | rfl) ?_; refine dS ?_; refine Xi rfl rfl ?_; refine T.exit ?_; refine Wk ?_; refine Wk ?_; refine Ue ?_; exact Ze9 p5 ({ n8 with c := ({ r5 with N := n8.c.N, S := n8.c.S, T := n8.c.T } : Csr) } : WorkerWorker) (0 + 1) c226 o4 E2 ⟨H, (Zdb rfl), v7, v8, v9⟩ (aF rfl) (Zc Ki (Zc Zb (Zc Ki (Zc Ki (Zc Ki (Zc Ki (Zc Ki (Zc Ki (Zc Yl (Zc Yl (Zc Zx (Zc Zb (Zc Yl Zg)))))))))))))
         · rintro g5 g2 g3 c235 e2 h1 ⟨H, w2, w3, w4, w5⟩; unfold Z83 at H; refine sR Y3 rfl ?_; refine Xx Za Z26 Yx rfl ?_; refine Xk Za Zb Z0z Zr ?_; refine aN Za ?_; refine T.ret ?_; obtain ⟨rfl, rfl⟩ := ret2 H; exact Kx Za (Vs rfl Z26 Zh rfl) (Res.tmp rfl) (Zc Zx (Zc Zx (Zc Zx (Zc Zx (Zc Zx (Zc Zx (Zc Zx (Zc Zx (Zc Zx (Zc Zx (Zc Zx Zg))))))))))) ⟨d6, n9, f2, m2, a6, f3, c14, m3, a7, f4, c18, m4, a5, e8, e9, m5, a8, n25, f5, m6, a9, n29, f6, m7, d1, b6, f9, j4, n6, g5, e2, g3, c235, h1, c9, e4, e5, g4, rfl, rfl, g9, i4, w6, j0, j1, m8, w7, m9, o7, o8, w8, o9, h0, j2, w9, j3, x2, x3, x4, x5, x6, x7, x8, x9, v5, d3, y2, d4, w2, w3, w4, w5, o2, u7, u8, u9⟩
theorem Zm7 {n0 : Net} {limit2 : Int} {b7 : Option Addr} {a9 b6 : Nat} (w : World) (g0 : RS w [] Wh 3 b7 a9 b6 n0.Arcs) {r0 : Net} {r1 : Acequialaw16Phase} {r2 : Bool} (H : Z6a n0 limit2 = some (r0, r1, r2)) : Fnc Tryz.prog 13 #[.agg #[iV n0.N, iV n0.S, iV n0.T, .slice b7 a9 b6], .int .u8 0, .int .u8 limit2] w [] (fun v N => ∃ (f7 : Option Nat) (j9 l3 : Nat) (q5 : List Value) (e4 : Option Nat) (h1 h2 : Nat) (q6 : List Value) (e5 : Option Nat) (h3 h4 : Nat) (q7 : List Value) (b8 : Option Nat) (d1 d3 : Nat) (h5 : List Value) (b9 : Option Nat) (d4 d5 : Nat) (h6 : List Value) (c4 : Option Nat) (d6 d7 : Nat) (h7 : List Value) (c7 : Option Nat) (d8 d9 : Nat) (h8 : List Value) (h9 : Nat) (e0 : Option Nat) (e6 e7 : Nat) (i2 : List Value) (f8 : Nat) (e2 : Option Nat) (e9 f1 : Nat) (i4 : List Value) (e3 : Option Nat) (f2 f3 : Nat) (j0 : List Value), v = .tuple #[.agg #[iV r0.N, iV r0.S, iV r0.T, sV f7 j9 l3], .agg #[iV r1.C.N, iV r1.C.S, iV r1.C.T, sV e4 h1 h2, sV e5 h3 h4, sV b8 d1 d3, sV b9 d4 d5, sV c4 d6 d7, sV c7 d8 d9, iV r1.L.Verts, iV r1.L.Arcs, iV r1.L.Workers, iV r1.L.Room, iV r1.L.Res, iV r1.L.Ex, iV r1.L.H, iV r1.L.Flag, iV r1.L.Pending, iV r1.L.Ask, iV r1.L.Count, iV r1.L.Sense, iV r1.L.Deques, iV r1.L.Size, pV h9, sV e2 e9 f1, sV e3 f2 f3], .bool r2] ∧ N = [(eA f7 Wh r0.Arcs q5 131), (eI e4 r1.C.First q6 3), (eI e5 r1.C.Head q7 3), (eI b8 r1.C.Rev h5 3), (eI b9 r1.C.Cap h6 2), (eI c4 r1.C.Arc h7 3), (eA c7 boolC r1.C.Back h8 4), (eC h9 #[sV e0 e6 e7] 221), (eI e0 r1.B.l i2 226), (some f8, .cells (Zm ((sb e4), h1, h2) ((sb e5), h3, h4) ((sb b8), d1, d3) ((sb b9), d4, d5) ((sb c4), d6, d7) ((sb c7), d8, d9) ({ r1.W with c := ({ r1.C with N := r1.W.c.N, S := r1.W.c.S, T := r1.W.c.T } : Csr) } : WorkerWorker)).toArray 126 (0, 0)), (eA e2 Vi ([f8]) i4 42), (eI e3 r1.Dealt j0 3)] ∧ r0.Arcs.length = j9 ∧ j9 ≤ l3 ∧ q5.length = (l3 - j9) * 3 ∧ (f7 = none → l3 = 0) ∧ r1.C.First.length = h1 ∧ h1 ≤ h2 ∧ q6.length = (h2 - h1) * 1 ∧ (e4 = none → h2 = 0) ∧ r1.C.Head.length = h3 ∧ h3 ≤ h4 ∧ q7.length = (h4 - h3) * 1 ∧ (e5 = none → h4 = 0) ∧ r1.C.Rev.length = d1 ∧ d1 ≤ d3 ∧ h5.length = (d3 - d1) * 1 ∧ (b8 = none → d3 = 0) ∧ r1.C.Cap.length = d4 ∧ d4 ≤ d5 ∧ h6.length = (d5 - d4) * 1 ∧ (b9 = none → d5 = 0) ∧ r1.C.Arc.length = d6 ∧ d6 ≤ d7 ∧ h7.length = (d7 - d6) * 1 ∧ (c4 = none → d7 = 0) ∧ r1.C.Back.length = d8 ∧ d8 ≤ d9 ∧ h8.length = (d9 - d8) * 1 ∧ (c7 = none → d9 = 0) ∧ r1.B.l.length = e6 ∧ e6 ≤ e7 ∧ i2.length = (e7 - e6) * 1 ∧ (e0 = none → e7 = 0) ∧ [f8].length = e9 ∧ e9 ≤ f1 ∧ i4.length = (f1 - e9) * 1 ∧ (e2 = none → f1 = 0) ∧ r1.Dealt.length = f2 ∧ f2 ≤ f3 ∧ j0.length = (f3 - f2) * 1 ∧ (e3 = none → f3 = 0)) := by
 unfold Z6a at H; refine Fnc.enter (vs := [.agg #[iV n0.N, iV n0.S, iV n0.T, .slice b7 a9 b6], .int .u8 0, .int .u8 limit2]) Tryz.func13 rfl rfl (Inv.refl w) ?_; refine sR Y4 rfl ?_; refine Wf Za ?_; intro b1; refine Xu Zr Zb9 ?_; intro b3; refine Xu Zr Z1t ?_; intro b5; refine aN Za ?_; refine Zl ?_; obtain ⟨r7, e8, H⟩ := Zk H; refine rG Y3 rfl ?_; refine Xx Za Vh Xb rfl ?_; refine Ya Znm Za (fun wc hwc => Zia (n0 := n0) (verts1 := 7) (arcs2 := 14) wc (g0.mono hwc) e8) ?_; rintro _ _ ⟨f4, f5, f6, l4, rfl, rfl, j1, j2, l5, j3⟩; refine Xk Za Yl Z3b Zr ?_; refine dN ?_; refine Zl ?_; obtain ⟨q8, q9, t4, H⟩ := gd3 H; obtain ⟨⟨a2, t6⟩, t5, H⟩ := Zk H; refine rG Y16 rfl ?_; refine Xx Za Vh Zh rfl ?_; refine Zd Za ?_; refine TO.remL (r := 0) (by decide) Ze ?_; refine Zex Za Zbe Zan (Ji q8.1 q8.2) ?_; refine Lx (r := 1) (by decide) Ze ?_; refine Zd Za ?_; refine TO.rem Ze (by decide) ?_; refine Zex Za Zbe Zan (Ji q9.1 q9.2) ?_; refine Xf t4 Ze ?_; refine Ya Zdj Za (fun wc hwc => Zd1 (n0 := r7) (limit2 := (1 + (limit2.tmod 40))) wc (hwc.rs (f := Wh) (s := 3) (xs := r7.Arcs) (j := l4) (fun _ => rfl) Yx j1 j2 j3) t5) ?_; rintro _ _ ⟨a3, n25, g1, r3, a4, n29, g2, r4, a5, n33, g3, r5, a6, g4, g5, r6, a7, g6, g7, r8, a8, g8, g9, r9, h0, f9, s1, s6, s7, l6, c8, j4, j5, s8, c9, j6, c60, s9, rfl, rfl, l7, l8, l9, m0, m1, m2, m3, m4, m5, m6, m7, m8, m9, n6, n7, n8, n9, o0, o1, o2, o4, o6, o7, o8, o9, p1, p2, p3, p4, p5, p6, p7, p8, p9, q0, q1⟩; refine Zd Za ?_; refine TO.extract Ze ?_; refine TO.extract Ze ?_; refine Xu Zr Z1t ?_; intro q2; refine Xk Za Zb Z0z Zr ?_; refine aN Za ?_; refine Zq (aT [3, 6, 7, 9, 10] rfl) ?_; refine Zl ?_; apply Nb [rV [] _, rV [] _, rV [] _, ⟨[0], true, [], Je⟩, ⟨[1], true, [], Je⟩] [26, 27, 28] 5 (HRk [[(eC b3 #[iV 0, iV 0, iV 0, .slice none 0 0] 24), (eC b5 #[iV 0, iV 0, iV 0, .slice none 0 0, .slice none 0 0, .slice none 0 0, .slice none 0 0, .slice none 0 0, .slice none 0 0, iV 0, iV 0, iV 0, iV 0, iV 0, iV 0, iV 0, iV 0, iV 0, iV 0, iV 0, iV 0, iV 0, iV 0, .pointer none, .slice none 0 0, .slice none 0 0] 35)], [(eC b3 #[iV r7.N, iV r7.S, iV r7.T, sV f4 f5 f6] 24), (eC b5 #[iV 0, iV 0, iV 0, .slice none 0 0, .slice none 0 0, .slice none 0 0, .slice none 0 0, .slice none 0 0, .slice none 0 0, iV 0, iV 0, iV 0, iV 0, iV 0, iV 0, iV 0, iV 0, iV 0, iV 0, iV 0, iV 0, iV 0, iV 0, .pointer none, .slice none 0 0, .slice none 0 0] 35)], [(eC b3 #[iV r7.N, iV r7.S, iV r7.T, sV f4 f5 f6] 24), (eC b5 #[iV a2.C.N, iV a2.C.S, iV a2.C.T, sV a3 n25 g1, sV a4 n29 g2, sV a5 n33 g3, sV a6 g4 g5, sV a7 g6 g7, sV a8 g8 g9, iV a2.L.Verts, iV a2.L.Arcs, iV a2.L.Workers, iV a2.L.Room, iV a2.L.Res, iV a2.L.Ex, iV a2.L.H, iV a2.L.Flag, iV a2.L.Pending, iV a2.L.Ask, iV a2.L.Count, iV a2.L.Sense, iV a2.L.Deques, iV a2.L.Size, pV h0, sV c8 j4 j5, sV c9 j6 c60] 35)]]) [[], [], []] [(eC b3 #[iV 0, iV 0, iV 0, .slice none 0 0] 24), (eC b5 #[iV 0, iV 0, iV 0, .slice none 0 0, .slice none 0 0, .slice none 0 0, .slice none 0 0, .slice none 0 0, .slice none 0 0, iV 0, iV 0, iV 0, iV 0, iV 0, iV 0, iV 0, iV 0, iV 0, iV 0, iV 0, iV 0, iV 0, iV 0, .pointer none, .slice none 0 0, .slice none 0 0] 35)] [(eC q2 #[iV a2.C.N, iV a2.C.S, iV a2.C.T, sV a3 n25 g1, sV a4 n29 g2, sV a5 n33 g3, sV a6 g4 g5, sV a7 g6 g7, sV a8 g8 g9, iV a2.L.Verts, iV a2.L.Arcs, iV a2.L.Workers, iV a2.L.Room, iV a2.L.Res, iV a2.L.Ex, iV a2.L.H, iV a2.L.Flag, iV a2.L.Pending, iV a2.L.Ask, iV a2.L.Count, iV a2.L.Sense, iV a2.L.Deques, iV a2.L.Size, pV h0, sV c8 j4 j5, sV c9 j6 c60] 35), (eI a3 a2.C.First r3 3), (eI a4 a2.C.Head r4 3), (eI a5 a2.C.Rev r5 3), (eI a6 a2.C.Cap r6 2), (eI a7 a2.C.Arc r8 3), (eA a8 boolC a2.C.Back r9 4), (eC h0 #[sV f9 s1 s6] 221), (eI f9 a2.B.l s7 226), (some l6, .cells (Zm ((sb a3), n25, g1) ((sb a4), n29, g2) ((sb a5), n33, g3) ((sb a6), g4, g5) ((sb a7), g6, g7) ((sb a8), g8, g9) ({ a2.W with c := ({ a2.C with N := a2.W.c.N, S := a2.W.c.S, T := a2.W.c.T } : Csr) } : WorkerWorker)).toArray 126 (0, 0)), (eA c8 Vi ([l6]) s8 42), (eI c9 a2.Dealt s9 3), (eC b1 #[iV r7.N, iV r7.S, iV r7.T, sV f4 f5 f6] 24), (eA f4 Wh r7.Arcs l4 131)]
 · exact Yy
 · exact rfl
 · kernel_rfl
 · kernel_rfl
 · kernel_rfl
 · exact rfl
 · exact rfl
 · exact rfl
 · exact rfl
 · exact Wq (by repeat constructor)
 ·
  refine ⟨?_, ?_, ?_, ?_, ?_, trivial⟩
  · rintro vs es Es Hx -; refine Zz (D := []) rfl ?_; refine Xx Za Vh Jn rfl ?_; refine Zj ?_; exact Yd rfl ⟨rfl, rfl⟩ (Yb _) rfl
  · rintro vs es Es Hx -; refine Zz (D := []) rfl ?_; refine Xx Za Z26 Zh rfl ?_; refine Zj ?_; exact Yd rfl ⟨rfl, rfl⟩ (Yb _) rfl
  · rintro vs es Es Hx -; refine Zz (D := []) rfl ?_; refine Zd Za ?_; refine Zj ?_; exact Yd rfl ⟨rfl, rfl⟩ (Yb _) rfl
  · rintro vs es Es Hx hb ⟨⟨j7, q3⟩, -⟩ hHR; obtain rfl : hb = [(eC b3 #[iV 0, iV 0, iV 0, .slice none 0 0] 24), (eC b5 #[iV 0, iV 0, iV 0, .slice none 0 0, .slice none 0 0, .slice none 0 0, .slice none 0 0, .slice none 0 0, .slice none 0 0, iV 0, iV 0, iV 0, iV 0, iV 0, iV 0, iV 0, iV 0, iV 0, iV 0, iV 0, iV 0, iV 0, iV 0, .pointer none, .slice none 0 0, .slice none 0 0] 35)] := hHR; refine Zz (D := [(26, vs 0)]) rfl ?_; rw [j7]; refine Xk Za Zb Z3b Zr ?_; refine Zj ?_; exact Jl (hb' := [(eC b3 #[iV r7.N, iV r7.S, iV r7.T, sV f4 f5 f6] 24), (eC b5 #[iV 0, iV 0, iV 0, .slice none 0 0, .slice none 0 0, .slice none 0 0, .slice none 0 0, .slice none 0 0, .slice none 0 0, iV 0, iV 0, iV 0, iV 0, iV 0, iV 0, iV 0, iV 0, iV 0, iV 0, iV 0, iV 0, iV 0, iV 0, .pointer none, .slice none 0 0, .slice none 0 0] 35)]) rfl rfl rfl (Wq (by repeat constructor)) (by show [(26, vs 0)] = _; rw [j7])
  · rintro vs es Es Hx hb ⟨⟨j8, q4⟩, -⟩ hHR; obtain rfl : hb = [(eC b3 #[iV r7.N, iV r7.S, iV r7.T, sV f4 f5 f6] 24), (eC b5 #[iV 0, iV 0, iV 0, .slice none 0 0, .slice none 0 0, .slice none 0 0, .slice none 0 0, .slice none 0 0, .slice none 0 0, iV 0, iV 0, iV 0, iV 0, iV 0, iV 0, iV 0, iV 0, iV 0, iV 0, iV 0, iV 0, iV 0, iV 0, .pointer none, .slice none 0 0, .slice none 0 0] 35)] := hHR; refine Zz (D := [(27, vs 1)]) rfl ?_; rw [j8]; refine Xk Za Zp Z0z Zr ?_; refine Zj ?_; exact Jl (hb' := [(eC b3 #[iV r7.N, iV r7.S, iV r7.T, sV f4 f5 f6] 24), (eC b5 #[iV a2.C.N, iV a2.C.S, iV a2.C.T, sV a3 n25 g1, sV a4 n29 g2, sV a5 n33 g3, sV a6 g4 g5, sV a7 g6 g7, sV a8 g8 g9, iV a2.L.Verts, iV a2.L.Arcs, iV a2.L.Workers, iV a2.L.Room, iV a2.L.Res, iV a2.L.Ex, iV a2.L.H, iV a2.L.Flag, iV a2.L.Pending, iV a2.L.Ask, iV a2.L.Count, iV a2.L.Sense, iV a2.L.Deques, iV a2.L.Size, pV h0, sV c8 j4 j5, sV c9 j6 c60] 35)]) rfl rfl rfl (Wq (by repeat constructor)) (by show [(27, vs 1)] = _; rw [j8])
 · rintro vs es hb ⟨⟨j7, q3⟩, ⟨j8, q4⟩, ⟨t0, t1⟩, t2, t3, -⟩ hHR; obtain rfl : hb = [(eC b3 #[iV r7.N, iV r7.S, iV r7.T, sV f4 f5 f6] 24), (eC b5 #[iV a2.C.N, iV a2.C.S, iV a2.C.T, sV a3 n25 g1, sV a4 n29 g2, sV a5 n33 g3, sV a6 g4 g5, sV a7 g6 g7, sV a8 g8 g9, iV a2.L.Verts, iV a2.L.Arcs, iV a2.L.Workers, iV a2.L.Room, iV a2.L.Res, iV a2.L.Ex, iV a2.L.H, iV a2.L.Flag, iV a2.L.Pending, iV a2.L.Ask, iV a2.L.Count, iV a2.L.Sense, iV a2.L.Deques, iV a2.L.Size, pV h0, sV c8 j4 j5, sV c9 j6 c60] 35)] := hHR; refine Zz (D := [(26, vs 0), (27, vs 1), (28, vs 2)]) rfl ?_; refine Kk (H := _ ++ (_ ++ (es 0 ++ (es 1 ++ (es 2 ++ (es 3 ++ (es 4 ++ ([])))))))) rfl ?_; rw [q3, q4, t1, t2, t3]; rw [j7, j8, t0]; clear t0 j8 j7 q3 q4 t1 t2 t3; refine aN Za ?_; refine T.ret ?_; obtain ⟨rfl, rfl, rfl⟩ := ret3 H; exact X.ret3 Za (Vs rfl Vh Zh rfl) (Vs rfl Z26 Yx rfl) (Res.tmp rfl) (Zc tk15 (Zc Yl (Zc Yl (Zc Yl (Zc Yl (Zc Yl (Zc Yl (Zc Yl (Zc Yl (Zc Yl (Zc Yl (Zc Yl Zg)))))))))))) ⟨f4, f5, f6, l4, a3, n25, g1, r3, a4, n29, g2, r4, a5, n33, g3, r5, a6, g4, g5, r6, a7, g6, g7, r8, a8, g8, g9, r9, h0, f9, s1, s6, s7, l6, c8, j4, j5, s8, c9, j6, c60, s9, rfl, rfl, j1, j2, l5, j3, l7, l8, l9, m0, m1, m2, m3, m4, m5, m6, m7, m8, m9, n6, n7, n8, n9, o0, o1, o2, o4, o6, o7, o8, o9, p1, p2, p3, p4, p5, p6, p7, p8, p9, q0, q1⟩
theorem Zd3 {w0 : WorkerWorker} {a9 : Nat} {a3 a7 a6 a4 a8 a5 : Option Addr × Nat × Nat} (w : World) (a2 : HB w [] a9 (Zm a3 a7 a6 a4 a8 a5 w0)) {r0 : Evt} {r1 : Bool} (H : Z1x w0 = some (r0, r1)) : Fnc Tryz.prog 16 #[pV a9] w [] (fun v N => v = .tuple #[.agg #[iV r0.Who, .int .u8 r0.What, iV r0.U, iV r0.Arc, iV r0.D, iV r0.H, iV r0.Low], .bool r1] ∧ N = []) := by
 unfold Z1x at H; refine Fnc.enter (vs := [pV a9]) Tryz.func16 rfl rfl (Inv.refl w) ?_; refine sR Y2 rfl ?_; refine Xu Zr Z3r ?_; intro b1; refine aN Za ?_; refine Zl ?_; refine Zl ?_; refine Vj (fun (x6 : Bool) => Z42 w0 x6 = some (r0, r1)) (fun (x6 : Bool) => [(0, pV a9), (2, pV b1), (12, .bool x6)]) (fun (x6 : Bool) => [(eC b1 #[iV 0, .int .u8 0, iV 0, iV 0, iV 0, iV 0, iV 0] 40)]) ?_ ?_
 ·
  obtain ⟨r3, e4, H⟩ := Zk H; rcases Zt H with ⟨g5, H⟩ | ⟨g5, H⟩
  · refine rG Y9 rfl ?_; refine Zd Za ?_; refine Ya Z4d Za (fun wc hwc => Z2u (w0 := w0) wc (a2.mono hwc) e4) ?_; rintro _ _ ⟨rfl, rfl⟩; refine Zd Za ?_; refine Yo (t := 6) (b' := true) rfl g5 ?_; refine Zs Za ?_; refine Zs Za ?_; refine Zs Za ?_; refine Zs Za ?_; refine Zs Za ?_; refine Xn Ze ?_; refine Zj ?_; exact Wj true H (aF rfl) (Zc Zb Zg)
  · refine rG Y9 rfl ?_; refine Zd Za ?_; refine Ya Z4d Za (fun wc hwc => Z2u (w0 := w0) wc (a2.mono hwc) e4) ?_; rintro _ _ ⟨rfl, rfl⟩; refine Zd Za ?_; refine Yo (t := 6) (b' := false) rfl (Bool.eq_false_iff.2 g5) ?_; refine Zd Za ?_; refine TO.nilCheck Za ?_; refine Zi Za Zam ?_; refine Vf a2 Ze Wx ?_; refine TO.not Za ?_; refine Xl Ze ?_; refine Zj ?_; exact Wj (!w0.has) H (aF rfl) (Zc Zb Zg)
 ·
  rintro x6 H; unfold Z42 at H; rcases Zt H with ⟨g7, H⟩ | ⟨g7, H⟩
  · refine Xd rfl g7 ?_; refine sR Y3 rfl ?_; refine Yq (t := 40) [iV 0, .int .u8 0, iV 0, iV 0, iV 0, iV 0, iV 0] [0, 1, 2, 3, 4, 5, 6] Za (by simp only [Ym, setCells, Value.cells, List.toList_toArray, List.getD_cons_zero, List.getD_cons_succ, List.set_cons_zero, List.set_cons_succ]; rfl) (by kernel_rfl) ?_; refine Xk Za Zb Kw Zr ?_; refine aN Za ?_; refine T.ret ?_; refine Yv ?_; obtain ⟨rfl, rfl⟩ := ret2 H; exact Kx Za (Vs rfl Gj Zh rfl) (Res.tmp rfl) Zg ⟨rfl, rfl⟩
  · refine Xi rfl (Bool.eq_false_iff.2 g7) ?_; refine T.skip ?_; refine Yk ?_; refine sR Y6 rfl ?_; refine Zd Za ?_; refine TO.nilCheck Za ?_; refine Zi Za Zdt ?_; refine Zfp (vs := [iV w0.event.Who, .int .u8 w0.event.What, iV w0.event.U, iV w0.event.Arc, iV w0.event.D, iV w0.event.H, iV w0.event.Low]) a2 Zv Gj ?_; refine Xk Za Zb Kw Zr ?_; refine aN Za ?_; refine T.ret ?_; obtain ⟨rfl, rfl⟩ := ret2 H; exact Kx Za (Vs rfl Gj Zh rfl) (Res.tmp rfl) Zg ⟨rfl, rfl⟩
theorem Zhh {k0 : Int} {c1 : Acequialaw16Phase} {c2 : Net} {c3 : List Int} {e9 d7 c9 d6 c7 g5 f5 g3 g7 h1 g2 h0 g0 f1 d5 e3 f4 f9 d3 h3 h7 h8 h9 h6 b5 b8 d9 : Nat} {c4 d1 g1 g6 f7 g4 e6 h2 i2 h5 : Option Addr} {e4 c8 e0 d8 d4 e2 : Option Addr × Nat × Nat} {a9 : Option Nat} {f2 : List Value} {H_ : Heap} (w : World) (n8 : H_ = [(eC b5 #[sV a9 b8 d9] 25), (eI a9 c3 f2 3)]) (hin : Inv w ((H_ : Heap).filterMap Prod.fst) w H_) (a8 : RS w ((H_ : Heap).filterMap Prod.fst) iC 1 c4 d7 c9 c1.C.First) (a4 : RS w ((H_ : Heap).filterMap Prod.fst) iC 1 d1 d6 c7 c1.C.Head) (f6 : RS w ((H_ : Heap).filterMap Prod.fst) iC 1 e6 d5 e3 c1.B.l) (f3 : HB w ((H_ : Heap).filterMap Prod.fst) f1 [.slice e6 d5 e3]) (e8 : HB w ((H_ : Heap).filterMap Prod.fst) d3 (Zm e4 c8 e0 d8 d4 e2 c1.W)) (f8 : RS w ((H_ : Heap).filterMap Prod.fst) Vi 1 h2 f4 f9 ([d3])) (a5 : HB w ((H_ : Heap).filterMap Prod.fst) e9 [iV c1.C.N, iV c1.C.S, iV c1.C.T, .slice c4 d7 c9, .slice d1 d6 c7, .slice g1 g5 f5, .slice g6 g3 g7, .slice f7 h1 g2, .slice g4 h0 g0, iV c1.L.Verts, iV c1.L.Arcs, iV c1.L.Workers, iV c1.L.Room, iV c1.L.Res, iV c1.L.Ex, iV c1.L.H, iV c1.L.Flag, iV c1.L.Pending, iV c1.L.Ask, iV c1.L.Count, iV c1.L.Sense, iV c1.L.Deques, iV c1.L.Size, pV f1, .slice h2 f4 f9, .slice i2 h3 h7]) (h4 : HB w ((H_ : Heap).filterMap Prod.fst) h8 [iV c2.N, iV c2.S, iV c2.T, .slice h5 h9 h6]) (a2 : c3.length = b8) (a7 : b8 ≤ d9) (a6 : (a9 = none → d9 = 0)) {r0 : Bool} {o0 : List Int} (H : Z4n k0 c1 c2 c3 = some (r0, o0)) : Fnc Tryz.prog 15 #[iV k0, pV e9, pV h8, pV b5] w ((H_ : Heap).filterMap Prod.fst) (fun v N => v = .bool r0 ∧ N = [(eC b5 #[sV a9 b8 d9] 25), (eI a9 o0 f2 3)] ∧ o0.length = b8) := by
 subst n8; unfold Z4n at H; refine Fnc.enter (vs := [iV k0, pV e9, pV h8, pV b5]) Tryz.func15 rfl rfl hin ?_; refine sR Y1 rfl ?_; refine aN Za ?_; refine Zl ?_; obtain ⟨⟨r3, r4⟩, e5, H⟩ := Zk H; refine rG Y11 rfl ?_; refine Zi Za Jr ?_; refine Vf a5 Ze Gg ?_; refine Kz f8 Gw Ze Jh Nu ?_; refine Zbq rfl f8 Gw Za Rc ?_; refine Ya Zdh Za (fun wc hwc => Zd3 (w0 := c1.W) wc (e8.mono hwc) e5) ?_; rintro _ _ ⟨rfl, rfl⟩; refine Zd Za ?_; refine TO.extract Ze ?_; refine TO.extract Ze ?_; refine Xu Zr Z3r ?_; intro b6; refine Xk Za Zb Kw Zr ?_; refine aN Za ?_; refine Zq (aT [1, 2, 3, 6, 7] rfl) ?_; refine Zl ?_; refine sR Y2 rfl ?_; refine Zd Za ?_; refine TO.not Za ?_; refine dN ?_; rcases Zt H with ⟨g8, H⟩ | ⟨g8, H⟩
 · refine Xd rfl g8 ?_; refine sR Y1 rfl ?_; refine aN Za ?_; refine T.ret ?_; refine Yv ?_; obtain ⟨rfl, rfl⟩ := ret2 H; exact Zu Za (Res.tmp rfl) (Zc Zp (Zc Zp Zg)) ⟨rfl, rfl, a2⟩
 ·
  refine Xi rfl (Bool.eq_false_iff.2 g8) ?_; refine T.skip ?_; refine Yk ?_; obtain ⟨g9, H⟩ := Yj H; refine sR Y4 rfl ?_; refine Zi Za Uh ?_; refine Vf h4 Ze Zo ?_; refine Zbc g9 Ze ?_; refine aN Za ?_; refine Zl ?_; obtain ⟨l6, H⟩ := Yj H; refine sR Y8 rfl ?_; refine Zi Za Z3f ?_; refine Zi Za Nh ?_; refine Vf a5 Ze Wr ?_; refine Zi Za Z8y ?_; refine Zn Za Zo Zh rfl ?_; refine Kz a8 l6 Ze Xh Yf ?_; refine Z8d a8 l6 Za Zo ?_; refine aN Za ?_; refine Zq (aT [1, 3, 6, 8, 9] rfl) ?_; refine Vj (fun (b9 : Int) => Z4a c1 c3 r3 b9 = some (r0, o0)) (fun (b9 : Int) => [(1, pV e9), (3, pV b5), (6, pV b6), (8, iV b9)]) (fun (b9 : Int) => [(eC b5 #[sV a9 b8 d9] 25), (eI a9 c3 f2 3), (eC b6 #[iV r3.Who, .int .u8 r3.What, iV r3.U, iV r3.Arc, iV r3.D, iV r3.H, iV r3.Low] 40)]) ?_ ?_
  ·
   refine T.block ?_; obtain ⟨m2, m3, m4⟩ := Zk H; refine Z09 (fun (i4 : Nat) (a3 e7 : Int) => Wa (fun s => Z1i c1 c3 r3 s.1 s.2) i4 (a3, e7) = some m2) (fun (i4 : Nat) (a3 e7 : Int) => [(1, pV e9), (3, pV b5), (6, pV b6), (8, iV a3), (9, iV e7)]) (fun (i4 : Nat) (a3 e7 : Int) => [(eC b5 #[sV a9 b8 d9] 25), (eI a9 c3 f2 3), (eC b6 #[iV r3.Who, .int .u8 r3.What, iV r3.U, iV r3.Arc, iV r3.D, iV r3.H, iV r3.Low] 40)]) (fun (i4 : Nat) (a3 e7 : Int) => i4) Xm (2 * c2.N) (c1.C.First.getD r3.U.toNat 0) m3 (aF rfl) (Zc Zp (Zc Zp (Zc Zb Zg))) ?_; rintro i4 a3 e7 H; obtain ⟨l7, j4, rfl, H, j5⟩ := Kg H; have H : Z1i c1 c3 r3 a3 e7 = some j4 := H; unfold Z1i at H; refine Zl ?_; obtain ⟨m5, l8, H⟩ := Ub H; refine sR Y10 rfl ?_; refine Zd Za ?_; refine Zi Za Z3f ?_; refine Zi Za Nh ?_; refine Vf a5 Ze Wr ?_; refine Zi Za Z8y ?_; refine Zn Za Zo Xb rfl ?_; refine Xf m5 Ze ?_; refine Kz a8 l8 Ze Xh Yf ?_; refine Z8d a8 l8 Za Zo ?_; refine Yc Zv ?_; refine dN ?_; refine Zq (aT [1, 3, 6, 8, 9, 40] rfl) ?_; rcases Zt H with ⟨j6, H⟩ | ⟨j6, H⟩
   ·
    refine Wc rfl j6 ?_; refine T.skip ?_; refine Yk ?_; refine Zl ?_; refine T.block ?_; refine Zl ?_; obtain ⟨m6, H⟩ := Yj H; obtain ⟨j1, m7, H⟩ := Zk H; refine rG Y9 rfl ?_; refine Zi Za Z0a ?_; refine Vf a5 Ze Z0j ?_; refine Zi Za Z2y ?_; refine TO.fieldAddr Za Rf ?_; refine Vf a5 Ze Zo ?_; refine Zd Za ?_; refine Xf m6 Ze ?_; refine Ya Uc Za (fun wc hwc => Ug (b0 := c1.B) (i1 := (c1.L.Res + e7)) wc (f6.mono hwc) (f3.mono hwc) m7) ?_; rintro _ _ ⟨rfl, rfl⟩; refine aN Za ?_; refine Zq (aT [1, 3, 6, 8, 9, 10] rfl) ?_; refine Zl ?_; refine Zl ?_; refine Vj (fun (j0 : Bool) => Lp c1 c3 r3 a3 e7 j1 j0 = some j4) (fun (j0 : Bool) => [(1, pV e9), (3, pV b5), (6, pV b6), (8, iV a3), (9, iV e7), (10, iV j1), (59, .bool j0)]) (fun (j0 : Bool) => [(eC b5 #[sV a9 b8 d9] 25), (eI a9 c3 f2 3), (eC b6 #[iV r3.Who, .int .u8 r3.What, iV r3.U, iV r3.Arc, iV r3.D, iV r3.H, iV r3.Low] 40)]) ?_ ?_
    ·
     rcases Zt H with ⟨j7, H⟩ | ⟨j7, H⟩
     · refine rG Y9 rfl ?_; refine Zi Za Zau ?_; refine Zn Za Z8m Xb rfl ?_; refine Yc Zv ?_; refine Zd Za ?_; refine Yo (t := 54) (b' := true) rfl (decide_eq_true j7) ?_; refine Zd Za ?_; refine Zi Za Za4 ?_; refine Zn Za Zo Xb rfl ?_; refine Yc Zv ?_; refine Xn Ze ?_; refine Zj ?_; exact Wj (decide (e7 = r3.Arc)) H (aF rfl) (Zc Zb (Zc Zb (Zc Zb Zg)))
     · refine rG Y9 rfl ?_; refine Zi Za Zau ?_; refine Zn Za Z8m Xb rfl ?_; refine Yc Zv ?_; refine Zd Za ?_; refine Yo (t := 54) (b' := false) rfl (decide_eq_false j7) ?_; refine Zs Za ?_; refine Zs Za ?_; refine Zs Za ?_; refine Zs Za ?_; refine Xl Ze ?_; refine Zj ?_; exact Wj false H (aF rfl) (Zc Zb (Zc Zb (Zc Zb Zg)))
    ·
     rintro j0 H; unfold Lp at H; refine Vj (fun (b7 : Int) => Z1d c1 c3 a3 e7 b7 = some j4) (fun (b7 : Int) => [(1, pV e9), (3, pV b5), (6, pV b6), (8, iV a3), (9, iV e7), (10, iV b7)]) (fun (b7 : Int) => [(eC b5 #[sV a9 b8 d9] 25), (eI a9 c3 f2 3), (eC b6 #[iV r3.Who, .int .u8 r3.What, iV r3.U, iV r3.Arc, iV r3.D, iV r3.H, iV r3.Low] 40)]) ?_ ?_
     ·
      rcases Zt H with ⟨j8, H⟩ | ⟨j8, H⟩
      · refine Xd rfl j8 ?_; obtain ⟨m8, H⟩ := Yj H; refine rG Y5 rfl ?_; refine Zd Za ?_; refine Zi Za Zkg ?_; refine Zn Za Wd Xb rfl ?_; refine Xf m8 Ze ?_; refine Wu Za ?_; refine Zj ?_; exact Wj (j1 + r3.D) H (aF rfl) (Zc Zb (Zc Zb (Zc Zb Zg)))
      · refine Xi rfl (Bool.eq_false_iff.2 j8) ?_; refine T.skip ?_; exact Wj j1 H (aF rfl) (Zc Zb (Zc Zb (Zc Zb Zg)))
     ·
      rintro b7 H; unfold Z1d at H; refine sR Y2 rfl ?_; refine Zd Za ?_; refine Yc Zv ?_; refine dN ?_; rcases Zt H with ⟨j9, H⟩ | ⟨j9, H⟩
      · refine Wc rfl j9 ?_; obtain ⟨l9, m0, H⟩ := Ub H; refine Xt 10 [0, 1, 2, 3, 4, 5, 6, 7, 8, 9] rfl Yy (by kernel_rfl) (by kernel_rfl) rfl (by kernel_rfl) ?_; refine TQ.move Za ?_; refine Yi Za Wr Zh rfl ?_; refine Ye Za Z3f ?_; refine Ye Za Nc ?_; refine Uq a5 Ze Wr ?_; refine TQ.move Za ?_; refine Gp a4 l9 Ze Xh Yf ?_; refine Gq a4 l9 Za Zo ?_; refine Z11 a6 a7 a2 m0 Ze Xh Yf ?_; refine Z4q a6 a7 a2 m0 Za Zo Yx ?_; refine TQ.tail [10, 11] Ys ?_; refine TO.min2 Ze ?_; refine Wu Za ?_; refine Zj ?_; refine Wo ?_; refine Yk ?_; refine Zq (aT [1, 3, 6, 8, 9] rfl) ?_; obtain ⟨m9, H⟩ := Yj H; refine rG Y3 rfl ?_; refine Zd Za ?_; refine Xf m9 Ze ?_; refine Wu Za ?_; refine Zj ?_; have H := Vy H j5; exact Na l7 (min a3 (c3.getD (c1.C.Head.getD e7.toNat 0).toNat 0)) (e7 + 1) H (Nat.lt_succ_self _) (aF rfl) (Zc Zb (Zc Zb (Zc Zb Zg)))
      · refine Xz rfl j9 ?_; refine T.skip ?_; refine Wo ?_; refine Yk ?_; obtain ⟨n6, H⟩ := Yj H; refine rG Y3 rfl ?_; refine Zd Za ?_; refine Xf n6 Ze ?_; refine Wu Za ?_; refine Zj ?_; have H := Vy H j5; exact Na l7 a3 (e7 + 1) H (Nat.lt_succ_self _) (aF rfl) (Zc Zb (Zc Zb (Zc Zb Zg)))
   · refine Xz rfl j6 ?_; refine T.exit ?_; refine Wk ?_; have H := Vu H j5 ▸ m4; refine Wk ?_; refine Ue ?_; exact Wj a3 H (aF rfl) (Zc Zb (Zc Zb (Zc Zb Zg)))
  ·
   rintro b9 H; unfold Z4a at H; refine Zl ?_; refine sR Y4 rfl ?_; refine Zd Za ?_; refine Zi Za Zcm ?_; refine Zn Za Zo Xb rfl ?_; refine Yc Zv ?_; refine dN ?_; rcases Zt H with ⟨l3, H⟩ | ⟨l3, H⟩
   · refine Wc rfl l3 ?_; refine sR Y1 rfl ?_; refine aN Za ?_; refine Zq (aT [5] rfl) ?_; refine T.ret ?_; refine Yv ?_; obtain ⟨rfl, rfl⟩ := ret2 H; exact Zu Za (Res.tmp rfl) (Zc Zb (Zc Zb Zg)) ⟨rfl, rfl, a2⟩
   ·
    refine Xz rfl l3 ?_; refine T.skip ?_; refine Yk ?_; refine Zl ?_; refine sR Y3 rfl ?_; refine Zi Za Zau ?_; refine Zn Za Z8m Xb rfl ?_; refine Yc Zv ?_; refine dN ?_; rcases Zt H with ⟨l4, H⟩ | ⟨l4, H⟩
    · refine Wc rfl l4 ?_; obtain ⟨m1, H⟩ := Yj H; refine sR Y7 rfl ?_; refine Zn Za Wr Zh rfl ?_; refine Zi Za Z8y ?_; refine Zn Za Zo Xb rfl ?_; refine Zi Za Z9w ?_; refine Zn Za Zo Xb rfl ?_; refine Vv a6 a7 a2 m1 Ze Xh Yf ?_; refine Z3k a6 a7 a2 m1 Za Zp Yf ?_; refine dN ?_; refine Zq Vt ?_; refine sR Y1 rfl ?_; refine aN Za ?_; refine T.ret ?_; refine Yv ?_; obtain ⟨rfl, rfl⟩ := ret2 H; exact Zu Za (Res.tmp rfl) (Zc Zp (Zc Zb Zg)) ⟨rfl, rfl, (List.length_set.trans a2)⟩
    ·
     refine Xz rfl l4 ?_; refine T.skip ?_; refine Yk ?_; refine Zl ?_; obtain ⟨j2, j3, H⟩ := Ub H; rcases Zt H with ⟨l5, H⟩ | ⟨l5, H⟩
     · obtain ⟨n7, H⟩ := Yj H; refine Xt 17 [0, 1, 2, 3, 4, 5, 6, 7, 8, 9, 10, 11, 12, 13, 14, 15, 16] rfl Yy (by kernel_rfl) (by kernel_rfl) rfl (by kernel_rfl) ?_; refine Yi Za Wr Zh rfl ?_; refine Ye Za Z3f ?_; refine Ye Za Nc ?_; refine Uq a5 Ze Wr ?_; refine Ye Za Za4 ?_; refine Yi Za Zo Xb rfl ?_; refine Gp a4 j2 Ze Xh Yf ?_; refine Gq a4 j2 Za Zo ?_; refine Z11 a6 a7 a2 j3 Ze Xh Yf ?_; refine Z4q a6 a7 a2 j3 Za Zo Yx ?_; refine TQ.move Za ?_; refine Ka Zv ?_; refine TQ.move Za ?_; refine Gh (t := 102) (b' := true) rfl (decide_eq_true l5) ?_; refine Ye Za Z9w ?_; refine Yi Za Zo Xb rfl ?_; refine TQ.move Za ?_; refine Ud n7 Ze ?_; refine TQ.tail [17, 18, 19] Ys ?_; refine Yc Zv ?_; refine Xn Ze ?_; refine aN Za ?_; refine Zq (aT [5] rfl) ?_; refine T.ret ?_; obtain ⟨rfl, rfl⟩ := ret2 H; exact Zu Za (Res.tmp rfl) (Zc Zb (Zc Zb Zg)) ⟨rfl, rfl, a2⟩
     · refine Xt 17 [0, 1, 2, 3, 4, 5, 6, 7, 8, 9, 10, 11, 12, 13, 14, 15, 16] rfl Yy (by kernel_rfl) (by kernel_rfl) rfl (by kernel_rfl) ?_; refine Yi Za Wr Zh rfl ?_; refine Ye Za Z3f ?_; refine Ye Za Nc ?_; refine Uq a5 Ze Wr ?_; refine Ye Za Za4 ?_; refine Yi Za Zo Xb rfl ?_; refine Gp a4 j2 Ze Xh Yf ?_; refine Gq a4 j2 Za Zo ?_; refine Z11 a6 a7 a2 j3 Ze Xh Yf ?_; refine Z4q a6 a7 a2 j3 Za Zo Yx ?_; refine TQ.move Za ?_; refine Ka Zv ?_; refine TQ.move Za ?_; refine Gh (t := 102) (b' := false) rfl (decide_eq_false l5) ?_; refine We Za ?_; refine We Za ?_; refine We Za ?_; refine We Za ?_; refine TQ.tail [17, 18, 19] Ys ?_; refine Zs Za ?_; refine Xl Ze ?_; refine aN Za ?_; refine Zq (aT [5] rfl) ?_; refine T.ret ?_; obtain ⟨rfl, rfl⟩ := ret2 H; exact Zu Za (Res.tmp rfl) (Zc Zb (Zc Zb Zg)) ⟨rfl, rfl, a2⟩
theorem Zdn {p0 each3_0 : Acequialaw16Phase} {picks1 each3_2 : List Int} {most2 : Int} {each3_1 : Net} {e6 e8 f5 d9 e2 f4 g0 g4 d7 g6 h1 j9 j2 j3 j6 h5 l9 l8 : Option Addr} {f3 f6 e7 e9 f7 e5 e4 f2 f1 d8 e3 e0 b9 b8 c8 f8 f9 c4 g5 g3 d5 d6 d3 g7 h0 g8 g9 l3 h9 j0 i4 j8 j4 j7 j5 h4 h3 m7 m4 d1 l7 m0 a7 b7 c7 : Nat} {a6 a5 : Option Nat} {d4 c9 : List Value} {a4 a3 a2 a8 a9 b5 : Option Addr × Nat × Nat} {H_ : Heap} (w : World) (u3 : H_ = [(eC b9 #[sV a6 b8 c8] 221), (eI a6 p0.B.l d4 226), (some c4, .cells (Zm a4 a3 a2 a8 a9 b5 p0.W).toArray 126 (0, 0)), (eC a7 #[sV a5 b7 c7] 25), (eI a5 each3_2 c9 3)]) (hin : Inv w ((H_ : Heap).filterMap Prod.fst) w H_) (o4 : p0.B.l.length = b8) (h7 : b8 ≤ c8) (h8 : (a6 = none → c8 = 0)) (m5 : RS w ((H_ : Heap).filterMap Prod.fst) iC 1 a4.1 a4.2.1 a4.2.2 p0.W.c.First) (m6 : RS w ((H_ : Heap).filterMap Prod.fst) iC 1 a3.1 a3.2.1 a3.2.2 p0.W.c.Head) (n7 : RS w ((H_ : Heap).filterMap Prod.fst) iC 1 a2.1 a2.2.1 a2.2.2 p0.W.c.Rev) (g1 : RS w ((H_ : Heap).filterMap Prod.fst) Vi 1 g0 f8 f9 ([c4])) (h6 : RS w ((H_ : Heap).filterMap Prod.fst) (intC .u8) 1 d7 d5 d6 picks1) (j1 : RS w ((H_ : Heap).filterMap Prod.fst) iC 1 g6 g7 h0 each3_0.C.First) (i2 : RS w ((H_ : Heap).filterMap Prod.fst) iC 1 h1 g8 g9 each3_0.C.Head) (m9 : RS w ((H_ : Heap).filterMap Prod.fst) Vi 1 h5 h4 h3 ([c4])) (n6 : HB w ((H_ : Heap).filterMap Prod.fst) d3 [iV each3_0.C.N, iV each3_0.C.S, iV each3_0.C.T, .slice g6 g7 h0, .slice h1 g8 g9, .slice j9 l3 h9, .slice j2 j0 i4, .slice j3 j8 j4, .slice j6 j7 j5, iV each3_0.L.Verts, iV each3_0.L.Arcs, iV each3_0.L.Workers, iV each3_0.L.Room, iV each3_0.L.Res, iV each3_0.L.Ex, iV each3_0.L.H, iV each3_0.L.Flag, iV each3_0.L.Pending, iV each3_0.L.Ask, iV each3_0.L.Count, iV each3_0.L.Sense, iV each3_0.L.Deques, iV each3_0.L.Size, pV b9, .slice h5 h4 h3, .slice l9 m7 m4]) (m3 : HB w ((H_ : Heap).filterMap Prod.fst) d1 [iV each3_1.N, iV each3_1.S, iV each3_1.T, .slice l8 l7 m0]) (m1 : each3_2.length = b7) (m2 : b7 ≤ c7) (m8 : (a5 = none → c7 = 0)) {r0 : Bool} {o0 : CellsBank} {o1 : WorkerWorker} {o2 : List Int} (H : Z3i p0 picks1 most2 each3_0 each3_1 each3_2 = some (r0, o0, o1, o2)) : Fnc Tryz.prog 14 #[.agg #[iV p0.C.N, iV p0.C.S, iV p0.C.T, .slice e6 f3 f6, .slice e8 e7 e9, .slice f5 f7 e5, .slice d9 e4 f2, .slice e2 f1 d8, .slice f4 e3 e0, iV p0.L.Verts, iV p0.L.Arcs, iV p0.L.Workers, iV p0.L.Room, iV p0.L.Res, iV p0.L.Ex, iV p0.L.H, iV p0.L.Flag, iV p0.L.Pending, iV p0.L.Ask, iV p0.L.Count, iV p0.L.Sense, iV p0.L.Deques, iV p0.L.Size, pV b9, .slice g0 f8 f9, .slice g4 g5 g3], .slice d7 d5 d6, iV most2, .func (.func 15) #[] #[pV d3, pV d1, pV a7]] w ((H_ : Heap).filterMap Prod.fst) (fun v N => v = .bool r0 ∧ N = [(eC b9 #[sV a6 b8 c8] 221), (eI a6 o0.l d4 226), (some c4, .cells (Zm a4 a3 a2 a8 a9 b5 ({ o1 with c := ({ p0.W.c with N := o1.c.N, S := o1.c.S, T := o1.c.T } : Csr) } : WorkerWorker)).toArray 126 (0, 0)), (eC a7 #[sV a5 b7 c7] 25), (eI a5 o2 c9 3)] ∧ o0.l.length = b8 ∧ o2.length = b7) := by
 subst u3; unfold Z3i at H; refine Fnc.enter (vs := [.agg #[iV p0.C.N, iV p0.C.S, iV p0.C.T, .slice e6 f3 f6, .slice e8 e7 e9, .slice f5 f7 e5, .slice d9 e4 f2, .slice e2 f1 d8, .slice f4 e3 e0, iV p0.L.Verts, iV p0.L.Arcs, iV p0.L.Workers, iV p0.L.Room, iV p0.L.Res, iV p0.L.Ex, iV p0.L.H, iV p0.L.Flag, iV p0.L.Pending, iV p0.L.Ask, iV p0.L.Count, iV p0.L.Sense, iV p0.L.Deques, iV p0.L.Size, pV b9, .slice g0 f8 f9, .slice g4 g5 g3], .slice d7 d5 d6, iV most2, .func (.func 15) #[] #[pV d3, pV d1, pV a7]]) Tryz.func14 rfl rfl hin ?_; refine sR Y2 rfl ?_; refine Wf Za ?_; intro b6; refine aN Za ?_; refine Zl ?_; refine sR Y2 rfl ?_; refine Zd Za ?_; refine Zd Za ?_; refine dN ?_; refine Zel (fun (o6 : List Int) (p0f3eq54 : WorkerWorker) (o7 : List Int) => Z6v p0 o6 p0f3eq54 o7 = some (r0, o0, o1, o2) ∧ o6.length = b8 ∧ o7.length = b7) (fun (o6 : List Int) (p0f3eq54 : WorkerWorker) (o7 : List Int) => []) (fun (o6 : List Int) (p0f3eq54 : WorkerWorker) (o7 : List Int) => [(eC b9 #[sV a6 b8 c8] 221), (eI a6 o6 d4 226), (some c4, .cells (Zm a4 a3 a2 a8 a9 b5 ({ p0f3eq54 with c := ({ p0.W.c with N := p0f3eq54.c.N, S := p0f3eq54.c.S, T := p0f3eq54.c.T } : Csr) } : WorkerWorker)).toArray 126 (0, 0)), (eC a7 #[sV a5 b7 c7] 25), (eI a5 o7 c9 3)]) ?_ ?_
 ·
  refine T.block ?_; obtain ⟨s6, s7, p9⟩ := Zk H; refine T.loopE5 (fun (p3 : Nat) (l5 g2 : List Int) (p0f3eq12 : WorkerWorker) (l4 : Int) => Wa (fun s => Z3c p0 picks1 most2 each3_0 each3_1 s.1 s.2.1 s.2.2.1 s.2.2.2) p3 (l5, g2, p0f3eq12, l4) = some s6 ∧ l5.length = b7 ∧ g2.length = b8) (fun (p3 : Nat) (l5 g2 : List Int) (p0f3eq12 : WorkerWorker) (l4 : Int) => [(1, .slice d7 d5 d6), (3, .func (.func 15) #[] #[pV d3, pV d1, pV a7]), (4, pV b6), (14, iV most2), (15, iV l4)]) (fun (p3 : Nat) (l5 g2 : List Int) (p0f3eq12 : WorkerWorker) (l4 : Int) => [(eC a7 #[sV a5 b7 c7] 25), (eI a5 l5 c9 3), (eC b6 #[iV p0.C.N, iV p0.C.S, iV p0.C.T, .slice e6 f3 f6, .slice e8 e7 e9, .slice f5 f7 e5, .slice d9 e4 f2, .slice e2 f1 d8, .slice f4 e3 e0, iV p0.L.Verts, iV p0.L.Arcs, iV p0.L.Workers, iV p0.L.Room, iV p0.L.Res, iV p0.L.Ex, iV p0.L.H, iV p0.L.Flag, iV p0.L.Pending, iV p0.L.Ask, iV p0.L.Count, iV p0.L.Sense, iV p0.L.Deques, iV p0.L.Size, pV b9, .slice g0 f8 f9, .slice g4 g5 g3] 35), (eC b9 #[sV a6 b8 c8] 221), (eI a6 g2 d4 226), (some c4, .cells (Zm a4 a3 a2 a8 a9 b5 ({ p0f3eq12 with c := ({ p0.W.c with N := p0f3eq12.c.N, S := p0f3eq12.c.S, T := p0f3eq12.c.T } : Csr) } : WorkerWorker)).toArray 126 (0, 0))]) (fun (p3 : Nat) (l5 g2 : List Int) (p0f3eq12 : WorkerWorker) (l4 : Int) => p3) Xm each3_2 p0.B.l p0.W 0 ⟨s7, m1, o4⟩ (aF rfl) (Zc Wp (Zc Wp (Zc Zb (Zc Zb (Zc Zb (Zc Zb Zg)))))) ?_; rintro p3 l5 g2 p0f3eq12 l4 ⟨H, p7, o9⟩; obtain ⟨s8, p5, rfl, H, p8⟩ := Kg H; have H : Z3c p0 picks1 most2 each3_0 each3_1 l5 g2 p0f3eq12 l4 = some p5 := H; unfold Z3c at H; refine sR Y1 rfl ?_; refine Yc Zv ?_; refine dS ?_; rcases Zt H with ⟨q0, H⟩ | ⟨q0, H⟩
  ·
   refine Wc rfl q0 ?_; refine T.skip ?_; refine Yk ?_; refine Zl ?_; refine Zel (fun (n8 n9 : List Int) (p0f3eq50 : WorkerWorker) => Z4o p0 l4 n8 n9 p0f3eq50 = some p5 ∧ n8.length = b7 ∧ n9.length = b8) (fun (n8 n9 : List Int) (p0f3eq50 : WorkerWorker) => [(1, .slice d7 d5 d6), (3, .func (.func 15) #[] #[pV d3, pV d1, pV a7]), (4, pV b6), (14, iV most2), (15, iV l4)]) (fun (n8 n9 : List Int) (p0f3eq50 : WorkerWorker) => [(eC a7 #[sV a5 b7 c7] 25), (eI a5 n8 c9 3), (eC b6 #[iV p0.C.N, iV p0.C.S, iV p0.C.T, .slice e6 f3 f6, .slice e8 e7 e9, .slice f5 f7 e5, .slice d9 e4 f2, .slice e2 f1 d8, .slice f4 e3 e0, iV p0.L.Verts, iV p0.L.Arcs, iV p0.L.Workers, iV p0.L.Room, iV p0.L.Res, iV p0.L.Ex, iV p0.L.H, iV p0.L.Flag, iV p0.L.Pending, iV p0.L.Ask, iV p0.L.Count, iV p0.L.Sense, iV p0.L.Deques, iV p0.L.Size, pV b9, .slice g0 f8 f9, .slice g4 g5 g3] 35), (eC b9 #[sV a6 b8 c8] 221), (eI a6 n9 d4 226), (some c4, .cells (Zm a4 a3 a2 a8 a9 b5 ({ p0f3eq50 with c := ({ p0.W.c with N := p0f3eq50.c.N, S := p0f3eq50.c.S, T := p0f3eq50.c.T } : Csr) } : WorkerWorker)).toArray 126 (0, 0))]) ?_ ?_
   ·
    refine T.block ?_; refine sR Y2 rfl ?_; refine Zd Za ?_; refine aN Za ?_; refine sR Y6 rfl ?_; refine Zd Za ?_; refine Zi Za Jr ?_; refine Zn Za Gg Xb rfl ?_; refine Ze7 (xs := [c4]) rfl g1.len Ze Jh ?_; refine TO.rem Ze (by decide) ?_; refine aN Za ?_; refine Zl ?_; refine sR Y4 rfl ?_; refine Zd Za ?_; refine Zd Za ?_; refine Vl (xs := picks1) h6.len Ze Zfx ?_; refine Yc Zv ?_; refine dN ?_; refine Zq (aT [1, 3, 4, 14, 15, 9, 10, 26] rfl) ?_; refine Vj (fun (Kh : Int) => Z1y p0 each3_0 each3_1 l5 g2 p0f3eq12 l4 Kh = some p5) (fun (Kh : Int) => [(1, .slice d7 d5 d6), (3, .func (.func 15) #[] #[pV d3, pV d1, pV a7]), (4, pV b6), (10, iV Kh), (14, iV most2), (15, iV l4)]) (fun (Kh : Int) => [(eC a7 #[sV a5 b7 c7] 25), (eI a5 l5 c9 3), (eC b6 #[iV p0.C.N, iV p0.C.S, iV p0.C.T, .slice e6 f3 f6, .slice e8 e7 e9, .slice f5 f7 e5, .slice d9 e4 f2, .slice e2 f1 d8, .slice f4 e3 e0, iV p0.L.Verts, iV p0.L.Arcs, iV p0.L.Workers, iV p0.L.Room, iV p0.L.Res, iV p0.L.Ex, iV p0.L.H, iV p0.L.Flag, iV p0.L.Pending, iV p0.L.Ask, iV p0.L.Count, iV p0.L.Sense, iV p0.L.Deques, iV p0.L.Size, pV b9, .slice g0 f8 f9, .slice g4 g5 g3] 35), (eC b9 #[sV a6 b8 c8] 221), (eI a6 g2 d4 226), (some c4, .cells (Zm a4 a3 a2 a8 a9 b5 ({ p0f3eq12 with c := ({ p0.W.c with N := p0f3eq12.c.N, S := p0f3eq12.c.S, T := p0f3eq12.c.T } : Csr) } : WorkerWorker)).toArray 126 (0, 0))]) ?_ ?_
    ·
     rcases Zt H with ⟨q1, H⟩ | ⟨q1, H⟩
     · refine Wc rfl q1 ?_; obtain ⟨r8, r9, H⟩ := Ub H; refine Xt 8 [0, 1, 2, 3, 4, 5, 6, 7] rfl Yy (by kernel_rfl) (by kernel_rfl) rfl (by kernel_rfl) ?_; refine TQ.move Za ?_; refine TQ.move Za ?_; refine Gp h6 r8 Ze Zfx Zo0 ?_; refine Gq h6 r8 Za Z8m ?_; refine Zi3 Za Zbe Zan (Ji r9.1 r9.2) ?_; refine Ye Za Jr ?_; refine Yi Za Gg Xb rfl ?_; refine TQ.lenP (xs := [c4]) rfl g1.len Ze Jh ?_; refine TQ.tail [8, 9] Ys ?_; refine TO.rem Ze (by decide) ?_; refine Wu Za ?_; refine Zj ?_; exact Wj ((picks1.getD l4.toNat 0).tmod 1) H (aF rfl) (Zc Zb (Zc Zb (Zc Zb (Zc Zb (Zc Zb (Zc Zb Zg))))))
     · refine Xz rfl q1 ?_; refine T.skip ?_; exact Wj (l4.tmod 1) H (aF rfl) (Zc Zb (Zc Zb (Zc Zb (Zc Zb (Zc Zb (Zc Zb Zg))))))
    ·
     rintro Kh H; unfold Z1y at H; refine Zl ?_; refine Zl ?_; obtain ⟨q2, H⟩ := Yj H; obtain ⟨u4, s9, H⟩ := Zk H; refine rG Y6 rfl ?_; refine Zi Za Jr ?_; refine Zn Za Gg Xb rfl ?_; refine Zd Za ?_; refine Kz g1 q2 Ze Jh Nu ?_; refine Zbq (oneD q2) g1 q2 Za Rc ?_; refine Ya Vc Za (fun wc hwc => Vb (w0 := ({ p0f3eq12 with c := ({ p0.W.c with N := p0f3eq12.c.N, S := p0f3eq12.c.S, T := p0f3eq12.c.T } : Csr) } : WorkerWorker)) wc (hwc.hb (cs := (Zm a4 a3 a2 a8 a9 b5 ({ p0f3eq12 with c := ({ p0.W.c with N := p0f3eq12.c.N, S := p0f3eq12.c.S, T := p0f3eq12.c.T } : Csr) } : WorkerWorker))) mm5) s9) ?_; rintro _ _ ⟨rfl, rfl⟩; refine dN ?_; refine Vj (fun (q3 : Unit) => Z89 p0 each3_0 each3_1 l5 g2 p0f3eq12 l4 Kh = some p5) (fun (q3 : Unit) => [(1, .slice d7 d5 d6), (3, .func (.func 15) #[] #[pV d3, pV d1, pV a7]), (4, pV b6), (10, iV Kh), (14, iV most2), (15, iV l4)]) (fun (q3 : Unit) => [(eC a7 #[sV a5 b7 c7] 25), (eI a5 l5 c9 3), (eC b6 #[iV p0.C.N, iV p0.C.S, iV p0.C.T, .slice e6 f3 f6, .slice e8 e7 e9, .slice f5 f7 e5, .slice d9 e4 f2, .slice e2 f1 d8, .slice f4 e3 e0, iV p0.L.Verts, iV p0.L.Arcs, iV p0.L.Workers, iV p0.L.Room, iV p0.L.Res, iV p0.L.Ex, iV p0.L.H, iV p0.L.Flag, iV p0.L.Pending, iV p0.L.Ask, iV p0.L.Count, iV p0.L.Sense, iV p0.L.Deques, iV p0.L.Size, pV b9, .slice g0 f8 f9, .slice g4 g5 g3] 35), (eC b9 #[sV a6 b8 c8] 221), (eI a6 g2 d4 226), (some c4, .cells (Zm a4 a3 a2 a8 a9 b5 ({ p0f3eq12 with c := ({ p0.W.c with N := p0f3eq12.c.N, S := p0f3eq12.c.S, T := p0f3eq12.c.T } : Csr) } : WorkerWorker)).toArray 126 (0, 0))]) ?_ ?_
     ·
      rcases Zt H with ⟨q4, H⟩ | ⟨q4, H⟩
      ·
       refine Xd rfl q4 ?_; refine sR Y1 rfl ?_; refine aN Za ?_; refine Zl ?_; refine sR Y4 rfl ?_; refine Zi Za Jr ?_; refine Zn Za Gg Xb rfl ?_; refine Ze7 (xs := [c4]) rfl g1.len Ze Jh ?_; refine Zd Za ?_; refine dN ?_; refine Zq (aT [1, 3, 4, 14, 15, 11, 43, 44, 45] rfl) ?_; refine Vj (fun (l6 : Bool) => Z5s p0 l5 g2 p0f3eq12 l4 l6 = some p5) (fun (l6 : Bool) => [(1, .slice d7 d5 d6), (3, .func (.func 15) #[] #[pV d3, pV d1, pV a7]), (4, pV b6), (11, .bool l6), (14, iV most2), (15, iV l4)]) (fun (l6 : Bool) => [(eC a7 #[sV a5 b7 c7] 25), (eI a5 l5 c9 3), (eC b6 #[iV p0.C.N, iV p0.C.S, iV p0.C.T, .slice e6 f3 f6, .slice e8 e7 e9, .slice f5 f7 e5, .slice d9 e4 f2, .slice e2 f1 d8, .slice f4 e3 e0, iV p0.L.Verts, iV p0.L.Arcs, iV p0.L.Workers, iV p0.L.Room, iV p0.L.Res, iV p0.L.Ex, iV p0.L.H, iV p0.L.Flag, iV p0.L.Pending, iV p0.L.Ask, iV p0.L.Count, iV p0.L.Sense, iV p0.L.Deques, iV p0.L.Size, pV b9, .slice g0 f8 f9, .slice g4 g5 g3] 35), (eC b9 #[sV a6 b8 c8] 221), (eI a6 g2 d4 226), (some c4, .cells (Zm a4 a3 a2 a8 a9 b5 ({ p0f3eq12 with c := ({ p0.W.c with N := p0f3eq12.c.N, S := p0f3eq12.c.S, T := p0f3eq12.c.T } : Csr) } : WorkerWorker)).toArray 126 (0, 0))]) ?_ ?_
       ·
        refine T.block ?_; obtain ⟨t0, t1, t2⟩ := Zk H; refine Z09 (fun (p4 : Nat) (h2 : Bool) (p1 : Int) => Wa (fun s => Z3s p0 p0f3eq12 s.1 s.2) p4 (h2, p1) = some t0) (fun (p4 : Nat) (h2 : Bool) (p1 : Int) => [(1, .slice d7 d5 d6), (3, .func (.func 15) #[] #[pV d3, pV d1, pV a7]), (4, pV b6), (11, .bool h2), (14, iV most2), (15, iV l4), (43, .slice g0 f8 f9), (44, iV 1), (45, iV p1)]) (fun (p4 : Nat) (h2 : Bool) (p1 : Int) => [(eC a7 #[sV a5 b7 c7] 25), (eI a5 l5 c9 3), (eC b6 #[iV p0.C.N, iV p0.C.S, iV p0.C.T, .slice e6 f3 f6, .slice e8 e7 e9, .slice f5 f7 e5, .slice d9 e4 f2, .slice e2 f1 d8, .slice f4 e3 e0, iV p0.L.Verts, iV p0.L.Arcs, iV p0.L.Workers, iV p0.L.Room, iV p0.L.Res, iV p0.L.Ex, iV p0.L.H, iV p0.L.Flag, iV p0.L.Pending, iV p0.L.Ask, iV p0.L.Count, iV p0.L.Sense, iV p0.L.Deques, iV p0.L.Size, pV b9, .slice g0 f8 f9, .slice g4 g5 g3] 35), (eC b9 #[sV a6 b8 c8] 221), (eI a6 g2 d4 226), (some c4, .cells (Zm a4 a3 a2 a8 a9 b5 ({ p0f3eq12 with c := ({ p0.W.c with N := p0f3eq12.c.N, S := p0f3eq12.c.S, T := p0f3eq12.c.T } : Csr) } : WorkerWorker)).toArray 126 (0, 0))]) (fun (p4 : Nat) (h2 : Bool) (p1 : Int) => p4) Xm true 0 t1 (aF rfl) (Zc Zb (Zc Zb (Zc Zb (Zc Zb (Zc Zb (Zc Zb Zg)))))) ?_; rintro p4 h2 p1 H; obtain ⟨s1, t3, rfl, H, q5⟩ := Kg H; have H : Z3s p0 p0f3eq12 h2 p1 = some t3 := H; unfold Z3s at H; refine sR Y1 rfl ?_; refine Yc Zv ?_; refine dS ?_; rcases Zt H with ⟨q6, H⟩ | ⟨q6, H⟩
        ·
         refine Wc rfl q6 ?_; refine T.skip ?_; refine Yk ?_; refine Zl ?_; refine T.block ?_; obtain ⟨q7, H⟩ := Yj H; refine sR Y3 rfl ?_; refine Kz g1 q7 Ze Jh Nu ?_; refine Zbq (oneD q7) g1 q7 Za Rc ?_; refine aN Za ?_; rcases Zt H with ⟨q8, H⟩ | ⟨q8, H⟩
         · obtain ⟨t4, t5, H⟩ := Zk H; refine rG Y6 rfl ?_; refine Zd Za ?_; refine Zd Za ?_; refine Yo (t := 50) (b' := true) rfl q8 ?_; refine Zd Za ?_; refine Ya Vc Za (fun wc hwc => Vb (w0 := ({ p0f3eq12 with c := ({ p0.W.c with N := p0f3eq12.c.N, S := p0f3eq12.c.S, T := p0f3eq12.c.T } : Csr) } : WorkerWorker)) wc (hwc.hb (cs := (Zm a4 a3 a2 a8 a9 b5 ({ p0f3eq12 with c := ({ p0.W.c with N := p0f3eq12.c.N, S := p0f3eq12.c.S, T := p0f3eq12.c.T } : Csr) } : WorkerWorker))) mm5) t5) ?_; rintro _ _ ⟨rfl, rfl⟩; refine Xn Ze ?_; refine Wu Za ?_; refine Zj ?_; refine Wo ?_; refine Yk ?_; obtain ⟨t6, H⟩ := Yj H; refine rG Y2 rfl ?_; refine Xf t6 Ze ?_; refine Zd Za ?_; refine Zj ?_; have H := Vy H q5; exact Na s1 t4 (p1 + 1) H (Nat.lt_succ_self _) (aF rfl) (Zc Zb (Zc Zb (Zc Zb (Zc Zb (Zc Zb (Zc Zb Zg))))))
         · refine rG Y6 rfl ?_; refine Zd Za ?_; refine Zd Za ?_; refine Yo (t := 50) (b' := false) rfl (Bool.eq_false_iff.2 q8) ?_; refine Zs Za ?_; refine Zs Za ?_; refine Xl Ze ?_; refine Wu Za ?_; refine Zj ?_; refine Wo ?_; refine Yk ?_; obtain ⟨t7, H⟩ := Yj H; refine rG Y2 rfl ?_; refine Xf t7 Ze ?_; refine Zd Za ?_; refine Zj ?_; have H := Vy H q5; exact Na s1 false (p1 + 1) H (Nat.lt_succ_self _) (aF rfl) (Zc Zb (Zc Zb (Zc Zb (Zc Zb (Zc Zb (Zc Zb Zg))))))
        · refine Xz rfl q6 ?_; refine T.exit ?_; refine Wk ?_; have H := Vu H q5 ▸ t2; refine Wk ?_; refine Ue ?_; exact Wj h2 H (aF rfl) (Zc Zb (Zc Zb (Zc Zb (Zc Zb (Zc Zb (Zc Zb Zg))))))
       ·
        rintro l6 H; unfold Z5s at H; refine Zl ?_; refine sR Y1 rfl ?_; refine Zd Za ?_; refine dN ?_; rcases Zt H with ⟨q9, H⟩ | ⟨q9, H⟩
        · refine Xd rfl q9 ?_; refine sR Y1 rfl ?_; refine aN Za ?_; refine T.ret ?_; refine Yv ?_; refine Yv ?_; refine Vp ?_; refine Yv ?_; have H := Vu H p8 ▸ p9; refine Yv ?_; refine Vp ?_; refine Yv ?_; obtain ⟨rfl, rfl, rfl, rfl⟩ := ret4 H; exact Zu Za (Res.tmp rfl) (Zc Yl (Zc Yl (Zc Yl (Zc Zb (Zc Zb Zg))))) ⟨rfl, rfl, o9, p7⟩
        · refine Xi rfl (Bool.eq_false_iff.2 q9) ?_; refine T.skip ?_; refine Yk ?_; refine T.exit ?_; refine Wk ?_; refine Ue ?_; exact Zae l5 g2 ({ p0f3eq12 with c := ({ p0.W.c with N := p0f3eq12.c.N, S := p0f3eq12.c.S, T := p0f3eq12.c.T } : Csr) } : WorkerWorker) ⟨H, p7, o9⟩ (aF rfl) (Zc Zb (Zc Zb (Zc Zb (Zc Zb (Zc Zb (Zc Zb Zg))))))
      · refine Xi rfl (Bool.eq_false_iff.2 q4) ?_; refine T.skip ?_; exact Wj () H (aF rfl) (Zc Zb (Zc Zb (Zc Zb (Zc Zb (Zc Zb (Zc Zb Zg))))))
     ·
      rintro q3 H; unfold Z89 at H; refine Zl ?_; obtain ⟨r1, H⟩ := Yj H; obtain ⟨⟨u5, o8, r2⟩, t8, H⟩ := Zk H; refine Xt 7 [0, 1, 2, 3, 4, 5, 6] rfl Yy (by kernel_rfl) (by kernel_rfl) rfl (by kernel_rfl) ?_; refine Ye Za Jr ?_; refine Yi Za Gg Xb rfl ?_; refine TQ.move Za ?_; refine Gp g1 r1 Ze Jh Nu ?_; refine TQ.ldPR (oneD r1) g1 r1 Za Rc ?_; refine Ye Za Z0a ?_; refine Yi Za Z0j Xb rfl ?_; refine TQ.tail [7] Ys ?_; refine Yn Zc1 Za (Zf Uo (Zf Yl (Zf Yl (Gone.refl _)))) rfl (fun wc hwc => Zbz (w0 := ({ p0f3eq12 with c := ({ p0.W.c with N := p0f3eq12.c.N, S := p0f3eq12.c.S, T := p0f3eq12.c.T } : Csr) } : WorkerWorker)) (b1 := (CellsBank.mk g2)) wc rfl (hwc.self (Zc Uo (Zc Yl (Zc Yl Zg))) rfl) (m5.monoM (by decide) hwc (Zf Uo (Zf Yl (Zf Yl (Gone.refl _)))) rfl) (m6.monoM (by decide) hwc (Zf Uo (Zf Yl (Zf Yl (Gone.refl _)))) rfl) (n7.monoM (by decide) hwc (Zf Uo (Zf Yl (Zf Yl (Gone.refl _)))) rfl) o9 h7 h8 t8) ?_; rintro _ _ ⟨rfl, rfl, p2⟩; refine dN ?_; refine Zq (aT [1, 3, 4, 10, 14, 15] rfl) ?_; refine Zl ?_; obtain ⟨⟨u6, t9⟩, u1, H⟩ := Zk H; refine rG Y4 rfl ?_; refine Zd Za ?_; refine Zd Za ?_; refine Xp Zkf Ze (Zf Yl (Zf Yl (Gone.refl _))) rfl (fun wc hwc => Zhh (k0 := Kh) (c1 := ({ each3_0 with B := r2, W := ({ o8 with c := ({ p0.W.c with N := o8.c.N, S := o8.c.S, T := o8.c.T } : Csr) } : WorkerWorker) } : Acequialaw16Phase)) (c2 := each3_1) (c3 := l5) wc rfl (hwc.self (Zc Yl (Zc Yl Zg)) rfl) (j1.monoM (by decide) hwc (Zf Yl (Zf Yl (Gone.refl _))) rfl) (i2.monoM (by decide) hwc (Zf Yl (Zf Yl (Gone.refl _))) rfl) (hwc.rsM (f := iC) (s := 1) (xs := r2.l) (j := d4) (fun _ => rfl) (Zf Yl (Zf Yl (Gone.refl _))) rfl Xb p2 h7 h8) (hwc.hbM (cs := [sV a6 b8 c8]) (Zf Yl (Zf Yl (Gone.refl _))) rfl Yx) (hwc.hbM (cs := (Zm a4 a3 a2 a8 a9 b5 ({ o8 with c := ({ p0.W.c with N := o8.c.N, S := o8.c.S, T := o8.c.T } : Csr) } : WorkerWorker))) (Zf Yl (Zf Yl (Gone.refl _))) rfl Zh) (m9.monoM (by decide) hwc (Zf Yl (Zf Yl (Gone.refl _))) rfl) (n6.monoM (by simp) hwc (Zf Yl (Zf Yl (Gone.refl _))) rfl) (m3.monoM (by simp) hwc (Zf Yl (Zf Yl (Gone.refl _))) rfl) p7 m2 m8 u1) ?_; rintro _ _ ⟨rfl, rfl, p6⟩; refine TO.not Za ?_; refine dN ?_; rcases Zt H with ⟨r3, H⟩ | ⟨r3, H⟩
      · refine Xd rfl r3 ?_; refine sR Y1 rfl ?_; refine aN Za ?_; refine Zq (aT [8] rfl) ?_; refine T.ret ?_; refine Vp ?_; refine Yv ?_; have H := Vu H p8 ▸ p9; refine Yv ?_; refine Vp ?_; refine Yv ?_; obtain ⟨rfl, rfl, rfl, rfl⟩ := ret4 H; exact Zu Za (Res.tmp rfl) (Zc Yl (Zc Yl (Zc Zx (Zc Zb (Zc Zb Zg))))) ⟨rfl, rfl, p2, p6⟩
      · refine Xi rfl (Bool.eq_false_iff.2 r3) ?_; refine T.skip ?_; refine Wo ?_; exact Zae t9 r2.l ({ o8 with c := ({ p0.W.c with N := o8.c.N, S := o8.c.S, T := o8.c.T } : Csr) } : WorkerWorker) ⟨H, p6, p2⟩ (aF rfl) (Zc Zb (Zc Zb (Zc Yl (Zc Zp (Zc Zp (Zc Zb Zg))))))
   · rintro n8 n9 p0f3eq50 ⟨H, r4, r5⟩; unfold Z4o at H; obtain ⟨u2, H⟩ := Yj H; refine rG Y2 rfl ?_; refine Xf u2 Ze ?_; refine Zd Za ?_; refine Zj ?_; have H := Vy H p8; exact Zp2 s8 n8 n9 ({ p0f3eq50 with c := ({ p0.W.c with N := p0f3eq50.c.N, S := p0f3eq50.c.S, T := p0f3eq50.c.T } : Csr) } : WorkerWorker) (l4 + 1) ⟨H, r4, r5⟩ (Nat.lt_succ_self _) (aF rfl) (Zc Zb (Zc Zb (Zc Zb (Zc Zb (Zc Zb (Zc Zb Zg))))))
  · refine Xz rfl q0 ?_; refine T.exit ?_; refine Wk ?_; have H := Vu H p8 ▸ p9; refine Wk ?_; refine Ue ?_; exact Zae g2 ({ p0f3eq12 with c := ({ p0.W.c with N := p0f3eq12.c.N, S := p0f3eq12.c.S, T := p0f3eq12.c.T } : Csr) } : WorkerWorker) l5 ⟨H, o9, p7⟩ Vt (Zc Yl (Zc Yl (Zc Yl (Zc Zb (Zc Zb Zg)))))
 · rintro o6 p0f3eq54 o7 ⟨H, r6, r7⟩; unfold Z6v at H; refine sR Y1 rfl ?_; refine aN Za ?_; refine T.ret ?_; obtain ⟨rfl, rfl, rfl, rfl⟩ := ret4 H; exact Zu Za (Res.tmp rfl) (Zc Zb (Zc Zb (Zc Zb (Zc Zb (Zc Zb Zg))))) ⟨rfl, rfl, r6, r7⟩
theorem Zhj {w0 : WorkerWorker} {a9 : Nat} {a2 a7 a6 a3 a8 a5 : Option Addr × Nat × Nat} (w : World) (a4 : HB w [] a9 (Zm a2 a7 a6 a3 a8 a5 w0)) {r0 : Int} (H : Za9 w0 = some r0) : Fnc Tryz.prog 64 #[pV a9] w [] (fun v N => v = iV r0 ∧ N = []) := by
 unfold Za9 at H; refine Fnc.enter (vs := [pV a9]) Tryz.func64 rfl rfl (Inv.refl w) ?_; refine sR Y1 rfl ?_; refine aN Za ?_; refine Zl ?_; refine Zl ?_; obtain ⟨r1, e2, H⟩ := Zk H; refine rG Y2 rfl ?_; refine Zd Za ?_; refine Ya Z4d Za (fun wc hwc => Z2u (w0 := w0) wc (a4.mono hwc) e2) ?_; rintro _ _ ⟨rfl, rfl⟩; refine dN ?_; rcases Zt H with ⟨g3, H⟩ | ⟨g3, H⟩
 · refine Xd rfl g3 ?_; refine sR Y1 rfl ?_; refine aN Za ?_; refine T.ret ?_; refine Yv ?_; obtain rfl := ret1 H; exact Zu Za (Res.tmp rfl) Zg ⟨rfl, rfl⟩
 · refine Xi rfl (Bool.eq_false_iff.2 g3) ?_; refine T.skip ?_; refine Yk ?_; refine sR Y5 rfl ?_; refine Zd Za ?_; refine TO.nilCheck Za ?_; refine Zi Za Z6p ?_; refine Vf a4 Ze Zo ?_; refine aN Za ?_; refine T.ret ?_; obtain rfl := ret1 H; exact Zu Za (Res.tmp rfl) Zg ⟨rfl, rfl⟩
end Go.Proofs.YtobnnpdfeakbbaaGreat.Ax
namespace Go.Proofs.YtobnnpdfeakbbaaGreat.Ax
open Go Go.Acq Go.RowKit Go.Proofs
set_option maxHeartbeats 8000000
set_option maxRecDepth 20000
theorem Zkm : Kb Tryz.prog 40 = some 56 := by kernel_rfl
theorem Zhq : Zy Tryz.prog 13 = true := by kernel_rfl
theorem Zeh : Zy Tryz.prog 14 = true := by kernel_rfl
theorem Zkt : Zy Tryz.prog 18 = true := by kernel_rfl
theorem Zns : Zy Tryz.prog 63 = true := by kernel_rfl
theorem Zoa : Zy Tryz.prog 64 = true := by kernel_rfl
theorem Z12 : eqsT Tryz.prog 40 [.i64, .u8, .i64, .i64, .i64, .i64, .i64] = true := by kernel_rfl
theorem Jc : Xy Tryz.prog 68 = some 40 := by kernel_rfl
theorem Zho : ElemT Tryz.prog 68 40 7 56 (.agg #[iV 0, .int .u8 0, iV 0, iV 0, iV 0, iV 0, iV 0]) := ⟨Jc, Kw, Zkm, Z3r, rfl⟩
theorem Zn4 (w : World) {r0 : Bool} (H : Z7t = some r0) : Fnc Tryz.prog 18 #[] w [] (fun v N => v = .bool r0 ∧ N = []) := by
 unfold Z7t at H; refine Fnc.enter (vs := []) Tryz.func18 rfl rfl (Inv.refl w) ?_; refine sR Y1 rfl ?_; refine aN Za ?_; refine Zl ?_; obtain ⟨⟨r3, r4⟩, e5, H⟩ := Zk H; refine rG Y11 rfl ?_; refine Yq (t := 131) [iV 0, iV 0, iV 0] [0, 1, 2] Za (by simp only [Ym, setCells, Value.cells, List.toList_toArray, List.getD_cons_zero, List.getD_cons_succ, List.set_cons_zero, List.set_cons_succ]; rfl) (by kernel_rfl) ?_; refine Yq (t := 131) [iV 0, iV 0, iV 0] [0, 1, 2] Za (by simp only [Ym, setCells, Value.cells, List.toList_toArray, List.getD_cons_zero, List.getD_cons_succ, List.set_cons_zero, List.set_cons_succ]; rfl) (by kernel_rfl) ?_; refine Gl [iV 0, iV 0, iV 0, iV 0, iV 0, iV 0] [0, 3] Za Un Ku Z0c Ys (by simp only [Ym, setCells, Value.cells, List.toList_toArray, List.getD_cons_zero, List.getD_cons_succ, List.set_cons_zero, List.set_cons_succ]; rfl) (by kernel_rfl) ?_; intro b1; refine Yq (t := 24) [iV 0, iV 0, iV 0, .slice none 0 0] [0, 1, 2, 3] Za (by simp only [Ym, setCells, Value.cells, List.toList_toArray, List.getD_cons_zero, List.getD_cons_succ, List.set_cons_zero, List.set_cons_succ]; rfl) (by kernel_rfl) ?_; refine Ya Zdj Za (fun wc hwc => Zd1 (n0 := (Net.mk 3 0 2 ([(Arc.mk 0 1 5), (Arc.mk 1 2 3)]))) (limit2 := 9) wc (hwc.rs (f := Wh) (s := 3) (xs := [(Arc.mk 0 1 5), (Arc.mk 1 2 3)]) (j := ([])) (fun _ => rfl) Zh rfl (Nat.le_refl _) Vg) e5) ?_; rintro _ _ ⟨f6, n7, c8, j9, d1, g4, g5, m1, d3, g6, c16, m2, d4, g7, g8, q7, d5, g9, h0, q8, d6, n27, h1, q9, l8, d7, g1, j2, r1, l9, f7, r2, r5, r6, f8, r7, r8, r9, rfl, rfl, m3, m4, s8, m5, m6, m7, s9, m8, m9, n6, t0, n8, t1, t2, t3, t4, t5, t6, t7, t8, t9, u1, u2, u3, n9, f1, u4, f2, d8, d9, u5, e0, o0, o1, u6, o2⟩; refine Zd Za ?_; refine TO.extract Ze ?_; refine TO.extract Ze ?_; refine Xu Zr Z1t ?_; intro g2; refine Xk Za Zb Z0z Zr ?_; refine aN Za ?_; refine Zq (aT [1, 2] rfl) ?_; refine Zl ?_; refine Zl ?_; rcases Zt H with ⟨o4, H⟩ | ⟨o4, H⟩
 · refine rG Y9 rfl ?_; refine Zd Za ?_; refine TO.not Za ?_; refine Zd Za ?_; refine Yo (t := 17) (b' := true) rfl o4 ?_; refine Zs Za ?_; refine Zs Za ?_; refine Zs Za ?_; refine Zs Za ?_; refine Zs Za ?_; refine Xn Ze ?_; refine dN ?_; refine Zq (aT [1, 23] rfl) ?_; refine Xd rfl rfl ?_; refine sR Y1 rfl ?_; refine aN Za ?_; refine T.ret ?_; refine Yv ?_; obtain rfl := ret1 H; exact Zu Za (Res.tmp rfl) Zg ⟨rfl, rfl⟩
 ·
  obtain ⟨w3, u7, H⟩ := Zk H; refine rG Y9 rfl ?_; refine Zd Za ?_; refine TO.not Za ?_; refine Zd Za ?_; refine Yo (t := 17) (b' := false) rfl (Bool.eq_false_iff.2 o4) ?_; refine Zi Za Z3a ?_; refine Zn Za Wr Zh rfl ?_; refine Gl [iV 0] [0] Za Xh Yf Lf Ys (by simp only [Ym, setCells, Value.cells, List.toList_toArray, List.getD_cons_zero, List.getD_cons_succ, List.set_cons_zero, List.set_cons_succ]; rfl) (by kernel_rfl) ?_; intro w4; refine Ya Zns Za (fun wc hwc => Zim (a0 := r3.Dealt) (b1 := [1]) wc (Uy hwc Jn o0 o1 o2) (hwc.rs (f := iC) (s := 1) (xs := [1]) (j := ([])) (fun _ => rfl) Zh rfl (Nat.le_refl _) Vg) u7) ?_; rintro _ _ ⟨rfl, rfl⟩; refine TO.not Za ?_; refine Xl Ze ?_; refine dN ?_; refine Zq (aT [1, 23] rfl) ?_; rcases Zt H with ⟨o6, H⟩ | ⟨o6, H⟩
  · refine Xd rfl o6 ?_; refine sR Y1 rfl ?_; refine aN Za ?_; refine T.ret ?_; refine Yv ?_; obtain rfl := ret1 H; exact Zu Za (Res.tmp rfl) Zg ⟨rfl, rfl⟩
  ·
   refine Xi rfl (Bool.eq_false_iff.2 o6) ?_; refine T.skip ?_; refine Yk ?_; refine sR Y3 rfl ?_; refine Zc4 Zr Jc Kw ?_; intro u9; refine Wu Za ?_; refine aN Za ?_; refine Zl ?_; refine Znf (fun (a7 : List Int) (a6 : WorkerWorker) (a2 : List Evt) (e3 c144 : Nat) (c9 : Option Nat) (f3 : List Value) => Zab r3 a7 a6 a2 = some r0 ∧ a7.length = g1 ∧ a2.length = e3 ∧ e3 ≤ c144 ∧ f3.length = (c144 - e3) * 7 ∧ (c9 = none → c144 = 0)) (fun (a7 : List Int) (a6 : WorkerWorker) (a2 : List Evt) (e3 c144 : Nat) (c9 : Option Nat) (f3 : List Value) => [(1, pV g2), (4, sV c9 e3 c144)]) (fun (a7 : List Int) (a6 : WorkerWorker) (a2 : List Evt) (e3 c144 : Nat) (c9 : Option Nat) (f3 : List Value) => [(eC g2 #[iV r3.C.N, iV r3.C.S, iV r3.C.T, sV f6 n7 c8, sV d1 g4 g5, sV d3 g6 c16, sV d4 g7 g8, sV d5 g9 h0, sV d6 n27 h1, iV r3.L.Verts, iV r3.L.Arcs, iV r3.L.Workers, iV r3.L.Room, iV r3.L.Res, iV r3.L.Ex, iV r3.L.H, iV r3.L.Flag, iV r3.L.Pending, iV r3.L.Ask, iV r3.L.Count, iV r3.L.Sense, iV r3.L.Deques, iV r3.L.Size, pV l8, sV f7 r2 r5, sV f8 r7 r8] 35), (eI f6 r3.C.First j9 3), (eI d1 r3.C.Head m1 3), (eI d3 r3.C.Rev m2 3), (eI d4 r3.C.Cap q7 2), (eI d5 r3.C.Arc q8 3), (eA d6 boolC r3.C.Back q9 4), (eC l8 #[sV d7 g1 j2] 221), (eI d7 a7 r1 226), (eA f7 Vi ([l9]) r6 42), (some l9, .cells (Zm ((sb f6), n7, c8) ((sb d1), g4, g5) ((sb d3), g6, c16) ((sb d4), g7, g8) ((sb d5), g9, h0) ((sb d6), n27, h1) ({ a6 with c := ({ r3.C with N := a6.c.N, S := a6.c.S, T := a6.c.T } : Csr) } : WorkerWorker)).toArray 126 (0, 0)), (eI f8 r3.Dealt r9 3), (eA c9 Gu a2 f3 40)]) ?_ ?_
   ·
    refine T.block ?_; obtain ⟨v0, v4, s1⟩ := Zk H; refine T.loopE9 (fun (j3 : Nat) (b8 : List Int) (b6 : WorkerWorker) (a4 : Int) (a3 : List Evt) (b9 c4 : Nat) (b7 : Option Nat) (c7 : List Value) => Wa (fun s => Z8c r3 s.1 s.2.1 s.2.2.1 s.2.2.2) j3 (b8, b6, a4, a3) = some v0 ∧ b8.length = g1 ∧ a3.length = b9 ∧ b9 ≤ c4 ∧ c7.length = (c4 - b9) * 7 ∧ (b7 = none → c4 = 0)) (fun (j3 : Nat) (b8 : List Int) (b6 : WorkerWorker) (a4 : Int) (a3 : List Evt) (b9 c4 : Nat) (b7 : Option Nat) (c7 : List Value) => [(1, pV g2), (3, iV a4), (4, sV b7 b9 c4)]) (fun (j3 : Nat) (b8 : List Int) (b6 : WorkerWorker) (a4 : Int) (a3 : List Evt) (b9 c4 : Nat) (b7 : Option Nat) (c7 : List Value) => [(eC g2 #[iV r3.C.N, iV r3.C.S, iV r3.C.T, sV f6 n7 c8, sV d1 g4 g5, sV d3 g6 c16, sV d4 g7 g8, sV d5 g9 h0, sV d6 n27 h1, iV r3.L.Verts, iV r3.L.Arcs, iV r3.L.Workers, iV r3.L.Room, iV r3.L.Res, iV r3.L.Ex, iV r3.L.H, iV r3.L.Flag, iV r3.L.Pending, iV r3.L.Ask, iV r3.L.Count, iV r3.L.Sense, iV r3.L.Deques, iV r3.L.Size, pV l8, sV f7 r2 r5, sV f8 r7 r8] 35), (eI f6 r3.C.First j9 3), (eI d1 r3.C.Head m1 3), (eI d3 r3.C.Rev m2 3), (eI d4 r3.C.Cap q7 2), (eI d5 r3.C.Arc q8 3), (eA d6 boolC r3.C.Back q9 4), (eC l8 #[sV d7 g1 j2] 221), (eI d7 b8 r1 226), (eA f7 Vi ([l9]) r6 42), (some l9, .cells (Zm ((sb f6), n7, c8) ((sb d1), g4, g5) ((sb d3), g6, c16) ((sb d4), g7, g8) ((sb d5), g9, h0) ((sb d6), n27, h1) ({ b6 with c := ({ r3.C with N := b6.c.N, S := b6.c.S, T := b6.c.T } : Csr) } : WorkerWorker)).toArray 126 (0, 0)), (eI f8 r3.Dealt r9 3), (eA b7 Gu a3 c7 40)]) (fun (j3 : Nat) (b8 : List Int) (b6 : WorkerWorker) (a4 : Int) (a3 : List Evt) (b9 c4 : Nat) (b7 : Option Nat) (c7 : List Value) => j3) Xm r3.B.l ({ r3.W with c := ({ r3.C with N := r3.W.c.N, S := r3.W.c.S, T := r3.W.c.T } : Csr) } : WorkerWorker) 0 ([] : List Evt) 0 0 (some u9) ([]) ⟨v4, n9, rfl, (Nat.le_refl _), (Ve 0 _), Vg⟩ (aF rfl) (Zc Zx (Zc Zx (Zc Zx (Zc Zx (Zc Zx (Zc Zx (Zc Zx (Zc Zx (Zc Zx (Zc Yl (Zc Zx (Zc Zx (Zc Zb Zg))))))))))))) ?_; rintro j3 b8 b6 a4 a3 b9 c4 b7 c7 ⟨H, g3, e2, e4, e6, e7⟩; obtain ⟨s6, v5, rfl, H, m0⟩ := Kg H; have H : Z8c r3 b8 b6 a4 a3 = some v5 := H; unfold Z8c at H; refine Zl ?_; refine Zl ?_; rcases Zt H with ⟨h2, H⟩ | ⟨h2, H⟩
    ·
     obtain ⟨⟨v6, a8, h3⟩, o7, H⟩ := Zk H; refine Xt 9 [0, 1, 2, 3, 4, 5, 6, 7, 8] rfl Yy (by kernel_rfl) (by kernel_rfl) rfl (by kernel_rfl) ?_; refine TQ.move Za ?_; refine Ka Zv ?_; refine TQ.move Za ?_; refine Gh (t := 27) (b' := true) rfl (decide_eq_true h2) ?_; refine Ye Za Jr ?_; refine Yi Za Gg Zh rfl ?_; refine Z11 e0 d9 d8 Gw Ze Jh Nu ?_; refine TQ.ldPV rfl e0 d9 d8 Gw Za Rc Kr ?_; refine Ye Za Z0a ?_; refine Yi Za Z0j Zh rfl ?_; refine TQ.tail [9, 10, 11] Ys ?_; refine Yn Zc1 Za (Zf Vz (Zf Gi (Zf Gi (Gone.refl _)))) rfl (fun wc hwc => Zbz (w0 := ({ b6 with c := ({ r3.C with N := b6.c.N, S := b6.c.S, T := b6.c.T } : Csr) } : WorkerWorker)) (b1 := (CellsBank.mk b8)) wc rfl (hwc.self (Zc Vz (Zc Gi (Zc Gi Zg))) rfl) (hwc.rsM (f := iC) (s := 1) (xs := r3.C.First) (j := j9) (fun _ => rfl) (Zf Vz (Zf Gi (Zf Gi (Gone.refl _)))) rfl Yx m3 m4 m5) (hwc.rsM (f := iC) (s := 1) (xs := r3.C.Head) (j := m1) (fun _ => rfl) (Zf Vz (Zf Gi (Zf Gi (Gone.refl _)))) rfl Xb m6 m7 m8) (hwc.rsM (f := iC) (s := 1) (xs := r3.C.Rev) (j := m2) (fun _ => rfl) (Zf Vz (Zf Gi (Zf Gi (Gone.refl _)))) rfl Vw m9 n6 n8) g3 f1 f2 o7) ?_; rintro _ _ ⟨rfl, rfl, f4⟩; refine TO.not Za ?_; refine Xn Ze ?_; refine dN ?_; rcases Zt H with ⟨h4, H⟩ | ⟨h4, H⟩
     ·
      refine Xd rfl h4 ?_; refine T.skip ?_; refine Yk ?_; refine T.block ?_; obtain ⟨o8, H⟩ := Yj H; refine sR Y3 rfl ?_; refine Zd Za ?_; refine Xf o8 Ze ?_; refine aN Za ?_; refine Zl ?_; obtain ⟨⟨h5, v7⟩, o9, H⟩ := Zk H; refine rG Y11 rfl ?_; refine Zi Za Jr ?_; refine Zn Za Gg Vw rfl ?_; refine Vv e0 d9 d8 Gw Ze Jh Nu ?_; refine Zbr rfl e0 d9 d8 Gw Za Rc Lu ?_; refine Ya Zdh Za (fun wc hwc => Zd3 (w0 := ({ a8 with c := ({ r3.C with N := a8.c.N, S := a8.c.S, T := a8.c.T } : Csr) } : WorkerWorker)) wc (hwc.hb (cs := (Zm ((sb f6), n7, c8) ((sb d1), g4, g5) ((sb d3), g6, c16) ((sb d4), g7, g8) ((sb d5), g9, h0) ((sb d6), n27, h1) ({ a8 with c := ({ r3.C with N := a8.c.N, S := a8.c.S, T := a8.c.T } : Csr) } : WorkerWorker))) Zh) o9) ?_; rintro _ _ ⟨rfl, rfl⟩; refine Zd Za ?_; refine TO.extract Ze ?_; refine TO.extract Ze ?_; refine Xu Zr Z3r ?_; intro v8; refine Xk Za Zb Kw Zr ?_; refine aN Za ?_; refine Zq (aT [1, 3, 4, 28, 29, 30, 31, 32, 33, 34, 35, 5, 6] rfl) ?_; refine sR Y1 rfl ?_; refine Zd Za ?_; refine dN ?_; rcases Zt H with ⟨h6, H⟩ | ⟨h6, H⟩
      · refine Xd rfl h6 ?_; obtain ⟨p1, H⟩ := Yj H; refine rG Y5 rfl ?_; refine Zd Za ?_; refine Xx Za Gj Zh rfl ?_; refine Gl [iV 0, .int .u8 0, iV 0, iV 0, iV 0, iV 0, iV 0] [0] Za Jc Kw Z3r Ys (by simp only [Ym, setCells, Value.cells, List.toList_toArray, List.getD_cons_zero, List.getD_cons_succ, List.set_cons_zero, List.set_cons_succ]; rfl) (by kernel_rfl) ?_; intro v9; refine Z2o (f := Gu) (s := 7) (xs := a3) (ob := b7) (j := c7) (ys := [h5]) (fun _ => rfl) (fun _ => rfl) Zho p1 Ze tk14 e2 e4 e6 e7 (fun wc hwc => (hwc.rs (f := Gu) (s := 7) (xs := [h5]) (j := ([])) (fun _ => rfl) Zh rfl (Nat.le_refl _) Vg)) ?_; intro j4 c133 p2 j5 j6 j7; refine Wu Za ?_; refine Zj ?_; refine Wo ?_; have H := Vy H m0; exact Zby s6 h3.l ({ a8 with c := ({ r3.C with N := a8.c.N, S := a8.c.S, T := a8.c.T } : Csr) } : WorkerWorker) (a4 + 1) (a3 ++ ([h5])) (b9 + 1) c133 j4 p2 ⟨H, f4, (Z68 e2 rfl), j5, j6, j7⟩ (Nat.lt_succ_self _) (aF rfl) (Zc Ki (Zc Ki (Zc Ki (Zc Ki (Zc Ki (Zc Ki (Zc Ki (Zc Wp (Zc Wp (Zc Wp (Zc Yl (Zc Yl (Zc Zb Zg)))))))))))))
      · refine Xi rfl (Bool.eq_false_iff.2 h6) ?_; refine T.skip ?_; refine Wo ?_; have H := Vy H m0; exact Zby s6 h3.l ({ a8 with c := ({ r3.C with N := a8.c.N, S := a8.c.S, T := a8.c.T } : Csr) } : WorkerWorker) (a4 + 1) a3 b9 c4 b7 c7 ⟨H, f4, e2, e4, e6, e7⟩ (Nat.lt_succ_self _) (aF rfl) (Zc Wp (Zc Wp (Zc Wp (Zc Wp (Zc Wp (Zc Wp (Zc Wp (Zc Zx (Zc Zx (Zc Zx (Zc Zp (Zc Zp (Zc Zp Zg)))))))))))))
     · refine Xi rfl (Bool.eq_false_iff.2 h4) ?_; refine T.exit ?_; refine Wk ?_; have H := Vu H m0 ▸ s1; refine Wk ?_; refine Ue ?_; exact Zf1 h3.l ({ a8 with c := ({ r3.C with N := a8.c.N, S := a8.c.S, T := a8.c.T } : Csr) } : WorkerWorker) a3 b9 c4 b7 c7 ⟨H, f4, e2, e4, e6, e7⟩ (aF rfl) (Zc Yl (Zc Yl (Zc Yl (Zc Yl (Zc Yl (Zc Yl (Zc Yl (Zc Zp (Zc Zp (Zc Zp (Zc Zb (Zc Zb (Zc Zb Zg)))))))))))))
    · refine Xt 9 [0, 1, 2, 3, 4, 5, 6, 7, 8] rfl Yy (by kernel_rfl) (by kernel_rfl) rfl (by kernel_rfl) ?_; refine TQ.move Za ?_; refine Ka Zv ?_; refine TQ.move Za ?_; refine Gh (t := 27) (b' := false) rfl (decide_eq_false h2) ?_; refine We Za ?_; refine We Za ?_; refine We Za ?_; refine We Za ?_; refine We Za ?_; refine We Za ?_; refine TQ.tail [9, 10, 11] Ys ?_; refine Zs Za ?_; refine Zs Za ?_; refine Xl Ze ?_; refine dN ?_; refine Xi rfl rfl ?_; refine T.exit ?_; refine Wk ?_; have H := Vu H m0 ▸ s1; refine Wk ?_; refine Ue ?_; exact Zf1 b8 ({ b6 with c := ({ r3.C with N := b6.c.N, S := b6.c.S, T := b6.c.T } : Csr) } : WorkerWorker) a3 b9 c4 b7 c7 ⟨H, g3, e2, e4, e6, e7⟩ (aF rfl) (Zc Zb (Zc Zb (Zc Zb (Zc Zb (Zc Zb (Zc Zb (Zc Zb (Zc Zb (Zc Zb (Zc Zb (Zc Zb (Zc Zb (Zc Zb Zg)))))))))))))
   ·
    rintro a7 a6 a2 e3 c144 c9 f3 ⟨H, e8, a5, a9, s7, b5⟩; unfold Zab at H; refine Zl ?_; refine Zl ?_; rcases Zt H with ⟨f5, H⟩ | ⟨f5, H⟩
    · refine rG Y24 rfl ?_; refine Zd Za ?_; refine Vl (xs := a2) a5 Ze Jc ?_; refine Yc Zv ?_; refine Zd Za ?_; refine Yo (t := 55) (b' := true) rfl (decide_eq_true f5) ?_; refine Zs Za ?_; refine Zs Za ?_; refine Zs Za ?_; refine Zs Za ?_; refine Zs Za ?_; refine Xn Ze ?_; refine Zd Za ?_; refine Zs Za ?_; refine Zs Za ?_; refine Zs Za ?_; refine Zs Za ?_; refine Zs Za ?_; refine Xn Ze ?_; refine Zd Za ?_; refine Zs Za ?_; refine Zs Za ?_; refine Zs Za ?_; refine Zs Za ?_; refine Zs Za ?_; refine Xn Ze ?_; refine dN ?_; refine Zq (aT [1, 75] rfl) ?_; refine Xd rfl rfl ?_; refine sR Y1 rfl ?_; refine aN Za ?_; refine T.ret ?_; refine Yv ?_; obtain rfl := ret1 H; exact Zu Za (Res.tmp rfl) Zg ⟨rfl, rfl⟩
    ·
     obtain ⟨e9, H⟩ := Yj H; rcases Zt H with ⟨f9, H⟩ | ⟨f9, H⟩
     · refine rG Y24 rfl ?_; refine Zd Za ?_; refine Vl (xs := a2) a5 Ze Jc ?_; refine Yc Zv ?_; refine Zd Za ?_; refine Yo (t := 55) (b' := false) rfl (decide_eq_false f5) ?_; refine Zd Za ?_; refine Vv b5 a9 a5 e9 Ze Jc Kw ?_; refine Z1w (f := Gu) (cs := [iV ((a2.getD (0 : Int).toNat default).Who), .int .u8 ((a2.getD (0 : Int).toNat default).What), iV ((a2.getD (0 : Int).toNat default).U), iV ((a2.getD (0 : Int).toNat default).Arc), iV ((a2.getD (0 : Int).toNat default).D), iV ((a2.getD (0 : Int).toNat default).H), iV ((a2.getD (0 : Int).toNat default).Low)]) default (fun _ => rfl) b5 a9 a5 e9 Ze Gj Jn ?_; refine Yq (t := 40) [iV 0, .int .u8 0, iV 0, iV 0, iV 0, iV 0, iV 0] [0, 1, 2, 3, 4, 5, 6] Za (by simp only [Ym, setCells, Value.cells, List.toList_toArray, List.getD_cons_zero, List.getD_cons_succ, List.set_cons_zero, List.set_cons_succ]; rfl) (by kernel_rfl) ?_; refine Z0v (us := [(a2.getD (0 : Int).toNat default).Who, (a2.getD (0 : Int).toNat default).What, (a2.getD (0 : Int).toNat default).U, (a2.getD (0 : Int).toNat default).Arc, (a2.getD (0 : Int).toNat default).D, (a2.getD (0 : Int).toNat default).H, (a2.getD (0 : Int).toNat default).Low]) (ws := [0, 2, 1, 0, 0, 1, 0]) [.i64, .u8, .i64, .i64, .i64, .i64, .i64] Z12 rr9 ?_; refine Xl Ze ?_; refine Zd Za ?_; refine Yo (t := 62) (b' := true) rfl f9 ?_; refine Zs Za ?_; refine Zs Za ?_; refine Zs Za ?_; refine Zs Za ?_; refine Zs Za ?_; refine Xn Ze ?_; refine Zd Za ?_; refine Zs Za ?_; refine Zs Za ?_; refine Zs Za ?_; refine Zs Za ?_; refine Zs Za ?_; refine Xn Ze ?_; refine dN ?_; refine Zq (aT [1, 75] rfl) ?_; refine Xd rfl rfl ?_; refine sR Y1 rfl ?_; refine aN Za ?_; refine T.ret ?_; refine Yv ?_; obtain rfl := ret1 H; exact Zu Za (Res.tmp rfl) Zg ⟨rfl, rfl⟩
     ·
      obtain ⟨g0, H⟩ := Yj H; rcases Zt H with ⟨h7, H⟩ | ⟨h7, H⟩
      · refine rG Y24 rfl ?_; refine Zd Za ?_; refine Vl (xs := a2) a5 Ze Jc ?_; refine Yc Zv ?_; refine Zd Za ?_; refine Yo (t := 55) (b' := false) rfl (decide_eq_false f5) ?_; refine Zd Za ?_; refine Vv b5 a9 a5 e9 Ze Jc Kw ?_; refine Z1w (f := Gu) (cs := [iV ((a2.getD (0 : Int).toNat default).Who), .int .u8 ((a2.getD (0 : Int).toNat default).What), iV ((a2.getD (0 : Int).toNat default).U), iV ((a2.getD (0 : Int).toNat default).Arc), iV ((a2.getD (0 : Int).toNat default).D), iV ((a2.getD (0 : Int).toNat default).H), iV ((a2.getD (0 : Int).toNat default).Low)]) default (fun _ => rfl) b5 a9 a5 e9 Ze Gj Jn ?_; refine Yq (t := 40) [iV 0, .int .u8 0, iV 0, iV 0, iV 0, iV 0, iV 0] [0, 1, 2, 3, 4, 5, 6] Za (by simp only [Ym, setCells, Value.cells, List.toList_toArray, List.getD_cons_zero, List.getD_cons_succ, List.set_cons_zero, List.set_cons_succ]; rfl) (by kernel_rfl) ?_; refine Z0v (us := [(a2.getD (0 : Int).toNat default).Who, (a2.getD (0 : Int).toNat default).What, (a2.getD (0 : Int).toNat default).U, (a2.getD (0 : Int).toNat default).Arc, (a2.getD (0 : Int).toNat default).D, (a2.getD (0 : Int).toNat default).H, (a2.getD (0 : Int).toNat default).Low]) (ws := [0, 2, 1, 0, 0, 1, 0]) [.i64, .u8, .i64, .i64, .i64, .i64, .i64] Z12 rr9 ?_; refine Xl Ze ?_; refine Zd Za ?_; refine Yo (t := 62) (b' := false) rfl (Bool.eq_false_iff.2 f9) ?_; refine Zd Za ?_; refine Vv b5 a9 a5 g0 Ze Jc Kw ?_; refine Z1w (f := Gu) (cs := [iV ((a2.getD (1 : Int).toNat default).Who), .int .u8 ((a2.getD (1 : Int).toNat default).What), iV ((a2.getD (1 : Int).toNat default).U), iV ((a2.getD (1 : Int).toNat default).Arc), iV ((a2.getD (1 : Int).toNat default).D), iV ((a2.getD (1 : Int).toNat default).H), iV ((a2.getD (1 : Int).toNat default).Low)]) default (fun _ => rfl) b5 a9 a5 g0 Ze Gj Jn ?_; refine Yq (t := 40) [iV 0, .int .u8 0, iV 0, iV 0, iV 0, iV 0, iV 0] [0, 1, 2, 3, 4, 5, 6] Za (by simp only [Ym, setCells, Value.cells, List.toList_toArray, List.getD_cons_zero, List.getD_cons_succ, List.set_cons_zero, List.set_cons_succ]; rfl) (by kernel_rfl) ?_; refine Z0v (us := [(a2.getD (1 : Int).toNat default).Who, (a2.getD (1 : Int).toNat default).What, (a2.getD (1 : Int).toNat default).U, (a2.getD (1 : Int).toNat default).Arc, (a2.getD (1 : Int).toNat default).D, (a2.getD (1 : Int).toNat default).H, (a2.getD (1 : Int).toNat default).Low]) (ws := [0, 1, 1, 2, 3, 1, 0]) [.i64, .u8, .i64, .i64, .i64, .i64, .i64] Z12 rr9 ?_; refine Xl Ze ?_; refine Zd Za ?_; refine Yo (t := 69) (b' := true) rfl h7 ?_; refine Zs Za ?_; refine Zs Za ?_; refine Zs Za ?_; refine Zs Za ?_; refine Zs Za ?_; refine Xn Ze ?_; refine dN ?_; refine Zq (aT [1, 75] rfl) ?_; refine Xd rfl rfl ?_; refine sR Y1 rfl ?_; refine aN Za ?_; refine T.ret ?_; refine Yv ?_; obtain rfl := ret1 H; exact Zu Za (Res.tmp rfl) Zg ⟨rfl, rfl⟩
      ·
       obtain ⟨j8, H⟩ := Yj H; refine rG Y24 rfl ?_; refine Zd Za ?_; refine Vl (xs := a2) a5 Ze Jc ?_; refine Yc Zv ?_; refine Zd Za ?_; refine Yo (t := 55) (b' := false) rfl (decide_eq_false f5) ?_; refine Zd Za ?_; refine Vv b5 a9 a5 e9 Ze Jc Kw ?_; refine Z1w (f := Gu) (cs := [iV ((a2.getD (0 : Int).toNat default).Who), .int .u8 ((a2.getD (0 : Int).toNat default).What), iV ((a2.getD (0 : Int).toNat default).U), iV ((a2.getD (0 : Int).toNat default).Arc), iV ((a2.getD (0 : Int).toNat default).D), iV ((a2.getD (0 : Int).toNat default).H), iV ((a2.getD (0 : Int).toNat default).Low)]) default (fun _ => rfl) b5 a9 a5 e9 Ze Gj Jn ?_; refine Yq (t := 40) [iV 0, .int .u8 0, iV 0, iV 0, iV 0, iV 0, iV 0] [0, 1, 2, 3, 4, 5, 6] Za (by simp only [Ym, setCells, Value.cells, List.toList_toArray, List.getD_cons_zero, List.getD_cons_succ, List.set_cons_zero, List.set_cons_succ]; rfl) (by kernel_rfl) ?_; refine Z0v (us := [(a2.getD (0 : Int).toNat default).Who, (a2.getD (0 : Int).toNat default).What, (a2.getD (0 : Int).toNat default).U, (a2.getD (0 : Int).toNat default).Arc, (a2.getD (0 : Int).toNat default).D, (a2.getD (0 : Int).toNat default).H, (a2.getD (0 : Int).toNat default).Low]) (ws := [0, 2, 1, 0, 0, 1, 0]) [.i64, .u8, .i64, .i64, .i64, .i64, .i64] Z12 rr9 ?_; refine Xl Ze ?_; refine Zd Za ?_; refine Yo (t := 62) (b' := false) rfl (Bool.eq_false_iff.2 f9) ?_; refine Zd Za ?_; refine Vv b5 a9 a5 g0 Ze Jc Kw ?_; refine Z1w (f := Gu) (cs := [iV ((a2.getD (1 : Int).toNat default).Who), .int .u8 ((a2.getD (1 : Int).toNat default).What), iV ((a2.getD (1 : Int).toNat default).U), iV ((a2.getD (1 : Int).toNat default).Arc), iV ((a2.getD (1 : Int).toNat default).D), iV ((a2.getD (1 : Int).toNat default).H), iV ((a2.getD (1 : Int).toNat default).Low)]) default (fun _ => rfl) b5 a9 a5 g0 Ze Gj Jn ?_; refine Yq (t := 40) [iV 0, .int .u8 0, iV 0, iV 0, iV 0, iV 0, iV 0] [0, 1, 2, 3, 4, 5, 6] Za (by simp only [Ym, setCells, Value.cells, List.toList_toArray, List.getD_cons_zero, List.getD_cons_succ, List.set_cons_zero, List.set_cons_succ]; rfl) (by kernel_rfl) ?_; refine Z0v (us := [(a2.getD (1 : Int).toNat default).Who, (a2.getD (1 : Int).toNat default).What, (a2.getD (1 : Int).toNat default).U, (a2.getD (1 : Int).toNat default).Arc, (a2.getD (1 : Int).toNat default).D, (a2.getD (1 : Int).toNat default).H, (a2.getD (1 : Int).toNat default).Low]) (ws := [0, 1, 1, 2, 3, 1, 0]) [.i64, .u8, .i64, .i64, .i64, .i64, .i64] Z12 rr9 ?_; refine Xl Ze ?_; refine Zd Za ?_; refine Yo (t := 69) (b' := false) rfl (Bool.eq_false_iff.2 h7) ?_; refine Zd Za ?_; refine Vv b5 a9 a5 j8 Ze Jc Kw ?_; refine Z1w (f := Gu) (cs := [iV ((a2.getD (2 : Int).toNat default).Who), .int .u8 ((a2.getD (2 : Int).toNat default).What), iV ((a2.getD (2 : Int).toNat default).U), iV ((a2.getD (2 : Int).toNat default).Arc), iV ((a2.getD (2 : Int).toNat default).D), iV ((a2.getD (2 : Int).toNat default).H), iV ((a2.getD (2 : Int).toNat default).Low)]) default (fun _ => rfl) b5 a9 a5 j8 Ze Gj Jn ?_; refine Yq (t := 40) [iV 0, .int .u8 0, iV 0, iV 0, iV 0, iV 0, iV 0] [0, 1, 2, 3, 4, 5, 6] Za (by simp only [Ym, setCells, Value.cells, List.toList_toArray, List.getD_cons_zero, List.getD_cons_succ, List.set_cons_zero, List.set_cons_succ]; rfl) (by kernel_rfl) ?_; refine Z0v (us := [(a2.getD (2 : Int).toNat default).Who, (a2.getD (2 : Int).toNat default).What, (a2.getD (2 : Int).toNat default).U, (a2.getD (2 : Int).toNat default).Arc, (a2.getD (2 : Int).toNat default).D, (a2.getD (2 : Int).toNat default).H, (a2.getD (2 : Int).toNat default).Low]) (ws := [0, 2, 1, 0, 0, 3, 3]) [.i64, .u8, .i64, .i64, .i64, .i64, .i64] Z12 rr9 ?_; refine Xl Ze ?_; refine dN ?_; refine Zq (aT [1, 75] rfl) ?_; rcases Zt H with ⟨h8, H⟩ | ⟨h8, H⟩
       · refine Xd rfl h8 ?_; refine sR Y1 rfl ?_; refine aN Za ?_; refine T.ret ?_; refine Yv ?_; obtain rfl := ret1 H; exact Zu Za (Res.tmp rfl) Zg ⟨rfl, rfl⟩
       ·
        refine Xi rfl (Bool.eq_false_iff.2 h8) ?_; refine T.skip ?_; refine Yk ?_; refine Zl ?_; obtain ⟨w2, p3, H⟩ := Zk H; refine rG Y53 rfl ?_; refine Zi Za Jr ?_; refine Zn Za Gg Zh rfl ?_; refine Vv e0 d9 d8 Gw Ze Jh Nu ?_; refine Zbr rfl e0 d9 d8 Gw Za Rc Kr ?_; refine Ya Vc Za (fun wc hwc => Vb (w0 := ({ a6 with c := ({ r3.C with N := a6.c.N, S := a6.c.S, T := a6.c.T } : Csr) } : WorkerWorker)) wc (hwc.hb (cs := (Zm ((sb f6), n7, c8) ((sb d1), g4, g5) ((sb d3), g6, c16) ((sb d4), g7, g8) ((sb d5), g9, h0) ((sb d6), n27, h1) ({ a6 with c := ({ r3.C with N := a6.c.N, S := a6.c.S, T := a6.c.T } : Csr) } : WorkerWorker))) Lu) p3) ?_; rintro _ _ ⟨rfl, rfl⟩; refine Zd Za ?_; refine TO.join [6, 7, 8, 9, 10, 11, 12] [13, 14, 15, 16, 17, 18, 19, 20, 21, 22, 23, 24, 25, 26, 27, 28, 29, 30, 31, 32, 33, 34, 35, 36, 37, 38, 39, 40, 41, 42, 43, 44, 45, 46, 47, 48, 49, 50, 51, 52] rfl 88 (fun l3 => Z7h r3 a7 l3 = some r0) [(1, pV g2)] ?_ ?_
        ·
         rcases Zt H with ⟨h9, H⟩ | ⟨h9, H⟩
         · obtain ⟨p4, p5, H⟩ := Zk H; refine Yo (t := 81) (b' := true) rfl h9 ?_; refine Zi Za Jr ?_; refine Zn Za Gg Zh rfl ?_; refine Vv e0 d9 d8 Gw Ze Jh Nu ?_; refine Zbr rfl e0 d9 d8 Gw Za Rc Kr ?_; refine Ya Zoa Za (fun wc hwc => Zhj (w0 := ({ a6 with c := ({ r3.C with N := a6.c.N, S := a6.c.S, T := a6.c.T } : Csr) } : WorkerWorker)) wc (hwc.hb (cs := (Zm ((sb f6), n7, c8) ((sb d1), g4, g5) ((sb d3), g6, c16) ((sb d4), g7, g8) ((sb d5), g9, h0) ((sb d6), n27, h1) ({ a6 with c := ({ r3.C with N := a6.c.N, S := a6.c.S, T := a6.c.T } : Csr) } : WorkerWorker))) Lu) p5) ?_; rintro _ _ ⟨rfl, rfl⟩; refine Yc Zv ?_; refine Xn Ze ?_; refine Zj ?_; exact Wm (b := (decide (p4 = 2))) H (aF rfl)
         · refine Yo (t := 81) (b' := false) rfl (Bool.eq_false_iff.2 h9) ?_; refine Zs Za ?_; refine Zs Za ?_; refine Zs Za ?_; refine Zs Za ?_; refine Zs Za ?_; refine Zs Za ?_; refine Xl Ze ?_; refine Zj ?_; exact Wm (b := false) H (aF rfl)
        ·
         rintro l3 H; unfold Z7h at H; refine Zd Za ?_; refine TO.join [14, 15, 16, 17, 18, 19, 20, 21, 22] [23, 24, 25, 26, 27, 28, 29, 30, 31, 32, 33, 34, 35, 36, 37, 38, 39, 40, 41, 42, 43, 44, 45, 46, 47, 48, 49, 50, 51, 52] rfl 98 (fun l4 => Z9a r3 a7 l4 = some r0) [(1, pV g2)] ?_ ?_
         ·
          rcases Zt H with ⟨i2, H⟩ | ⟨i2, H⟩
          · obtain ⟨p6, H⟩ := Yj H; obtain ⟨p7, p8, H⟩ := Zk H; refine Yo (t := 89) (b' := true) rfl i2 ?_; refine Zi Za Z0a ?_; refine Zn Za Z0j Zh rfl ?_; refine Zi Za Z2y ?_; refine TO.fieldAddr Za Gt ?_; refine Zn Za Zo Zh rfl ?_; refine Xf p6 Ze ?_; refine Ya Uc Za (fun wc hwc => Ug (b0 := (CellsBank.mk a7)) (i1 := (r3.L.Ex + 2)) wc (Uy hwc mm8 e8 f1 f2) (hwc.hb (cs := [sV d7 g1 j2]) mm7) p8) ?_; rintro _ _ ⟨rfl, rfl⟩; refine Yc Zv ?_; refine Xn Ze ?_; refine Zj ?_; exact Wm (b := (decide (p7 = 3))) H (aF rfl)
          · refine Yo (t := 89) (b' := false) rfl (Bool.eq_false_iff.2 i2) ?_; refine Zs Za ?_; refine Zs Za ?_; refine Zs Za ?_; refine Zs Za ?_; refine Zs Za ?_; refine Zs Za ?_; refine Zs Za ?_; refine Zs Za ?_; refine Xl Ze ?_; refine Zj ?_; exact Wm (b := false) H (aF rfl)
         ·
          rintro l4 H; unfold Z9a at H; refine Zd Za ?_; refine TO.join [24, 25, 26, 27, 28, 29, 30, 31, 32] [33, 34, 35, 36, 37, 38, 39, 40, 41, 42, 43, 44, 45, 46, 47, 48, 49, 50, 51, 52] rfl 108 (fun l5 => Z8l r3 a7 l5 = some r0) [(1, pV g2)] ?_ ?_
          ·
           rcases Zt H with ⟨i4, H⟩ | ⟨i4, H⟩
           · obtain ⟨p9, H⟩ := Yj H; obtain ⟨q0, q1, H⟩ := Zk H; refine Yo (t := 99) (b' := true) rfl i4 ?_; refine Zi Za Z0a ?_; refine Zn Za Z0j Zh rfl ?_; refine Zi Za Z2y ?_; refine TO.fieldAddr Za Gt ?_; refine Zn Za Zo Zh rfl ?_; refine Xf p9 Ze ?_; refine Ya Uc Za (fun wc hwc => Ug (b0 := (CellsBank.mk a7)) (i1 := (r3.L.Ex + 1)) wc (Uy hwc mm8 e8 f1 f2) (hwc.hb (cs := [sV d7 g1 j2]) mm7) q1) ?_; rintro _ _ ⟨rfl, rfl⟩; refine Yc Zv ?_; refine Xn Ze ?_; refine Zj ?_; exact Wm (b := (decide (q0 = 2))) H (aF rfl)
           · refine Yo (t := 99) (b' := false) rfl (Bool.eq_false_iff.2 i4) ?_; refine Zs Za ?_; refine Zs Za ?_; refine Zs Za ?_; refine Zs Za ?_; refine Zs Za ?_; refine Zs Za ?_; refine Zs Za ?_; refine Zs Za ?_; refine Xl Ze ?_; refine Zj ?_; exact Wm (b := false) H (aF rfl)
          ·
           rintro l5 H; unfold Z8l at H; refine Zd Za ?_; refine TO.join [34, 35, 36, 37, 38, 39, 40, 41] [42, 43, 44, 45, 46, 47, 48, 49, 50, 51, 52] rfl 117 (fun l6 => Z8f r3 a7 l6 = some r0) [(1, pV g2)] ?_ ?_
           ·
            rcases Zt H with ⟨j0, H⟩ | ⟨j0, H⟩
            · obtain ⟨q2, q3, H⟩ := Zk H; refine Yo (t := 109) (b' := true) rfl j0 ?_; refine Zi Za Z0a ?_; refine Zn Za Z0j Zh rfl ?_; refine Zi Za Z2y ?_; refine TO.fieldAddr Za Z33 ?_; refine Zn Za Zo Zh rfl ?_; refine Ya Uc Za (fun wc hwc => Ug (b0 := (CellsBank.mk a7)) (i1 := r3.L.Pending) wc (Uy hwc mm8 e8 f1 f2) (hwc.hb (cs := [sV d7 g1 j2]) mm7) q3) ?_; rintro _ _ ⟨rfl, rfl⟩; refine Yc Zv ?_; refine Xn Ze ?_; refine Zj ?_; exact Wm (b := (decide (q2 = 0))) H (aF rfl)
            · refine Yo (t := 109) (b' := false) rfl (Bool.eq_false_iff.2 j0) ?_; refine Zs Za ?_; refine Zs Za ?_; refine Zs Za ?_; refine Zs Za ?_; refine Zs Za ?_; refine Zs Za ?_; refine Zs Za ?_; refine Xl Ze ?_; refine Zj ?_; exact Wm (b := false) H (aF rfl)
           ·
            rintro l6 H; unfold Z8f at H; refine Zd Za ?_; refine TO.join [43, 44, 45, 46, 47, 48, 49, 50, 51] [52] rfl 127 (fun l7 => Z97 l7 = some r0) [] ?_ ?_
            ·
             rcases Zt H with ⟨j1, H⟩ | ⟨j1, H⟩
             · obtain ⟨q4, H⟩ := Yj H; obtain ⟨q5, q6, H⟩ := Zk H; refine Yo (t := 118) (b' := true) rfl j1 ?_; refine Zi Za Z0a ?_; refine Zn Za Z0j Zh rfl ?_; refine Zi Za Z2y ?_; refine TO.fieldAddr Za Z2p ?_; refine Zn Za Zo Zh rfl ?_; refine Xf q4 Ze ?_; refine Ya Uc Za (fun wc hwc => Ug (b0 := (CellsBank.mk a7)) (i1 := (r3.L.Flag + 1)) wc (Uy hwc mm8 e8 f1 f2) (hwc.hb (cs := [sV d7 g1 j2]) mm7) q6) ?_; rintro _ _ ⟨rfl, rfl⟩; refine Yc Zv ?_; refine Xn Ze ?_; refine Zj ?_; exact Wm (b := (decide (q5 = 0))) H (aF rfl)
             · refine Yo (t := 118) (b' := false) rfl (Bool.eq_false_iff.2 j1) ?_; refine Zs Za ?_; refine Zs Za ?_; refine Zs Za ?_; refine Zs Za ?_; refine Zs Za ?_; refine Zs Za ?_; refine Zs Za ?_; refine Zs Za ?_; refine Xl Ze ?_; refine Zj ?_; exact Wm (b := false) H (aF rfl)
            · rintro l7 H; unfold Z97 at H; refine aN Za ?_; refine T.ret ?_; obtain rfl := ret1 H; exact Zu Za (Res.tmp rfl) Zg ⟨rfl, rfl⟩
theorem w_acequialaw16_WorkerAlone {n0 : Net} {limit1 : Int} {a4 : Option Addr} {a2 a3 : Nat} (w : World) (c7 : RS w [] Wh 3 a4 a2 a3 n0.Arcs) {r0 : Bool} (H : Z56 n0 limit1 = some r0) : Fnc Tryz.prog 3 #[.agg #[iV n0.N, iV n0.S, iV n0.T, .slice a4 a2 a3], .int .u8 limit1] w [] (fun v N => v = .bool r0 ∧ N = []) := by
 unfold Z56 at H; refine Fnc.enter (vs := [.agg #[iV n0.N, iV n0.S, iV n0.T, .slice a4 a2 a3], .int .u8 limit1]) Tryz.func3 rfl rfl (Inv.refl w) ?_; refine sR Y2 rfl ?_; refine Wf Za ?_; intro b1; refine aN Za ?_; refine Zl ?_; obtain ⟨⟨r3, r4, r5⟩, e6, H⟩ := Zk H; refine rG Y11 rfl ?_; refine Xx Za Vh Zh rfl ?_; refine Zd Za ?_; refine Ya Zhq Za (fun wc hwc => Zm7 (n0 := n0) (limit2 := limit1) wc (c7.mono hwc) e6) ?_; rintro _ _ ⟨f8, n8, c9, m7, c8, f9, c13, f2, d1, g0, c17, f3, d3, g1, g2, g3, d4, n24, g4, m8, d5, g5, g6, m9, d6, g7, g8, n6, g9, h3, n7, n9, o0, b40, d7, n42, h0, f4, d8, h1, h2, o1, rfl, rfl, h4, h5, h6, h7, a5, a6, h8, a7, a8, a9, h9, b5, d9, e0, i2, e2, i4, j0, j1, j2, j3, j4, j5, j6, j7, j8, j9, l3, e3, e4, l4, e5, b6, b7, l5, b8, l6, l7, l8, l9⟩; refine Zd Za ?_; refine TO.extract Ze ?_; refine TO.extract Ze ?_; refine TO.extract Ze ?_; refine Xu Zr Z1t ?_; intro m0; refine Xk Za tk13 Z3b Zr ?_; refine Xk Za Zp Z0z Zr ?_; refine aN Za ?_; refine Zq (aT [2, 5, 6] rfl) ?_; refine Zl ?_; refine sR Y2 rfl ?_; refine Zd Za ?_; refine TO.not Za ?_; refine dN ?_; rcases Zt H with ⟨b9, H⟩ | ⟨b9, H⟩
 · refine Xd rfl b9 ?_; refine sR Y1 rfl ?_; refine aN Za ?_; refine T.ret ?_; refine Yv ?_; obtain rfl := ret1 H; exact Zu Za (Res.tmp rfl) Zg ⟨rfl, rfl⟩
 ·
  refine Xi rfl (Bool.eq_false_iff.2 b9) ?_; refine T.skip ?_; refine Yk ?_; obtain ⟨f5, H⟩ := Yj H; refine sR Y5 rfl ?_; refine Zi Za Uh ?_; refine Zn Za Zo Yx rfl ?_; refine Z2b f5 Ze Xh Yf Lf Z03 rfl ?_; intro f6; refine TO.alloc Zr Zd4 ?_; intro m1; refine Yg (cs' := [nV f6 r3.N.toNat r3.N.toNat]) Za Zb Z1r Zr ?_; refine dN ?_; obtain ⟨e7, H⟩ := Yj H; refine sR Y7 rfl ?_; refine Zn Za Wr Zh rfl ?_; refine Zi Za Uw ?_; refine Zn Za Zo Vw rfl ?_; refine Zi Za Uh ?_; refine Zn Za Zo Vw rfl ?_; refine Nn List.length_replicate e7 Ze Xh Yf ?_; refine Rv e7 Za Zp Yf ?_; refine dN ?_; refine Zq (aT [2, 5, 7] rfl) ?_; refine Zl ?_; obtain ⟨⟨m2, m3, m4, m5⟩, e8, H⟩ := Zk H; rcases Zt H with ⟨c4, H⟩ | ⟨c4, H⟩
  · obtain ⟨m6, f7, H⟩ := Zk H; refine rG Y7 rfl ?_; refine Xx Za Z26 Xb rfl ?_; refine TO.makeFunc Ze ?_; refine Yn Zeh Za (Zf Yz (Zf Yz (Zf Yz (Zf Zp (Zf Zb (Gone.refl _)))))) rfl (fun wc hwc => Zdn (p0 := ({ r4 with W := ({ r4.W with c := ({ r4.C with N := r4.W.c.N, S := r4.W.c.S, T := r4.W.c.T } : Csr) } : WorkerWorker) } : Acequialaw16Phase)) (picks1 := []) (most2 := 8000) (each3_0 := ({ r4 with W := ({ r4.W with c := ({ r4.C with N := r4.W.c.N, S := r4.W.c.S, T := r4.W.c.T } : Csr) } : WorkerWorker) } : Acequialaw16Phase)) (each3_1 := r3) (each3_2 := ((List.replicate r3.N.toNat (0 : Int)).set r3.S.toNat r3.N)) wc rfl (hwc.self (Zc Yz (Zc Yz (Zc Yz (Zc Zp (Zc Zb Zg))))) rfl) e3 e4 e5 (hwc.rsM (f := iC) (s := 1) (xs := r4.C.First) (j := f2) (fun _ => rfl) (Zf Yz (Zf Yz (Zf Yz (Zf Zp (Zf Zb (Gone.refl _)))))) rfl Vw a5 a6 a7) (hwc.rsM (f := iC) (s := 1) (xs := r4.C.Head) (j := f3) (fun _ => rfl) (Zf Yz (Zf Yz (Zf Yz (Zf Zp (Zf Zb (Gone.refl _)))))) rfl Jj a8 a9 b5) (hwc.rsM (f := iC) (s := 1) (xs := r4.C.Rev) (j := g3) (fun _ => rfl) (Zf Yz (Zf Yz (Zf Yz (Zf Zp (Zf Zb (Gone.refl _)))))) rfl mm5 d9 e0 e2) (hwc.rsM (f := Vi) (s := 1) (xs := [b40]) (j := f4) (fun _ => rfl) (Zf Yz (Zf Yz (Zf Yz (Zf Zp (Zf Zb (Gone.refl _)))))) rfl Kr b6 b7 b8) (RS.nil _ _ (fun _ => rfl)) (hwc.rsM (f := iC) (s := 1) (xs := r4.C.First) (j := f2) (fun _ => rfl) (Zf Yz (Zf Yz (Zf Yz (Zf Zp (Zf Zb (Gone.refl _)))))) rfl Vw a5 a6 a7) (hwc.rsM (f := iC) (s := 1) (xs := r4.C.Head) (j := f3) (fun _ => rfl) (Zf Yz (Zf Yz (Zf Yz (Zf Zp (Zf Zb (Gone.refl _)))))) rfl Jj a8 a9 b5) (hwc.rsM (f := Vi) (s := 1) (xs := [b40]) (j := f4) (fun _ => rfl) (Zf Yz (Zf Yz (Zf Yz (Zf Zp (Zf Zb (Gone.refl _)))))) rfl Kr b6 b7 b8) (hwc.hbM (cs := [iV r4.C.N, iV r4.C.S, iV r4.C.T, sV c8 f9 c13, sV d1 g0 c17, sV d3 g1 g2, sV d4 n24 g4, sV d5 g5 g6, sV d6 g7 g8, iV r4.L.Verts, iV r4.L.Arcs, iV r4.L.Workers, iV r4.L.Room, iV r4.L.Res, iV r4.L.Ex, iV r4.L.H, iV r4.L.Flag, iV r4.L.Pending, iV r4.L.Ask, iV r4.L.Count, iV r4.L.Sense, iV r4.L.Deques, iV r4.L.Size, pV g9, sV d7 n42 h0, sV d8 h1 h2]) (Zf Yz (Zf Yz (Zf Yz (Zf Zp (Zf Zb (Gone.refl _)))))) rfl Zh) (hwc.hbM (cs := [iV r3.N, iV r3.S, iV r3.T, sV f8 n8 c9]) (Zf Yz (Zf Yz (Zf Yz (Zf Zp (Zf Zb (Gone.refl _)))))) rfl Yx) (List.length_set.trans List.length_replicate) (Nat.le_refl _) Vg e8) ?_; rintro _ _ ⟨rfl, rfl, e9, f1⟩; refine Zd Za ?_; refine Yo (t := 29) (b' := true) rfl c4 ?_; refine Ya Zkt Za (fun wc hwc => Zn4  wc  f7) ?_; rintro _ _ ⟨rfl, rfl⟩; refine Xn Ze ?_; refine aN Za ?_; refine Zq (aT [4] rfl) ?_; refine T.ret ?_; obtain rfl := ret1 H; exact Zu Za (Res.tmp rfl) Zg ⟨rfl, rfl⟩
  · refine rG Y7 rfl ?_; refine Xx Za Z26 Xb rfl ?_; refine TO.makeFunc Ze ?_; refine Yn Zeh Za (Zf Yz (Zf Yz (Zf Yz (Zf Zp (Zf Zb (Gone.refl _)))))) rfl (fun wc hwc => Zdn (p0 := ({ r4 with W := ({ r4.W with c := ({ r4.C with N := r4.W.c.N, S := r4.W.c.S, T := r4.W.c.T } : Csr) } : WorkerWorker) } : Acequialaw16Phase)) (picks1 := []) (most2 := 8000) (each3_0 := ({ r4 with W := ({ r4.W with c := ({ r4.C with N := r4.W.c.N, S := r4.W.c.S, T := r4.W.c.T } : Csr) } : WorkerWorker) } : Acequialaw16Phase)) (each3_1 := r3) (each3_2 := ((List.replicate r3.N.toNat (0 : Int)).set r3.S.toNat r3.N)) wc rfl (hwc.self (Zc Yz (Zc Yz (Zc Yz (Zc Zp (Zc Zb Zg))))) rfl) e3 e4 e5 (hwc.rsM (f := iC) (s := 1) (xs := r4.C.First) (j := f2) (fun _ => rfl) (Zf Yz (Zf Yz (Zf Yz (Zf Zp (Zf Zb (Gone.refl _)))))) rfl Vw a5 a6 a7) (hwc.rsM (f := iC) (s := 1) (xs := r4.C.Head) (j := f3) (fun _ => rfl) (Zf Yz (Zf Yz (Zf Yz (Zf Zp (Zf Zb (Gone.refl _)))))) rfl Jj a8 a9 b5) (hwc.rsM (f := iC) (s := 1) (xs := r4.C.Rev) (j := g3) (fun _ => rfl) (Zf Yz (Zf Yz (Zf Yz (Zf Zp (Zf Zb (Gone.refl _)))))) rfl mm5 d9 e0 e2) (hwc.rsM (f := Vi) (s := 1) (xs := [b40]) (j := f4) (fun _ => rfl) (Zf Yz (Zf Yz (Zf Yz (Zf Zp (Zf Zb (Gone.refl _)))))) rfl Kr b6 b7 b8) (RS.nil _ _ (fun _ => rfl)) (hwc.rsM (f := iC) (s := 1) (xs := r4.C.First) (j := f2) (fun _ => rfl) (Zf Yz (Zf Yz (Zf Yz (Zf Zp (Zf Zb (Gone.refl _)))))) rfl Vw a5 a6 a7) (hwc.rsM (f := iC) (s := 1) (xs := r4.C.Head) (j := f3) (fun _ => rfl) (Zf Yz (Zf Yz (Zf Yz (Zf Zp (Zf Zb (Gone.refl _)))))) rfl Jj a8 a9 b5) (hwc.rsM (f := Vi) (s := 1) (xs := [b40]) (j := f4) (fun _ => rfl) (Zf Yz (Zf Yz (Zf Yz (Zf Zp (Zf Zb (Gone.refl _)))))) rfl Kr b6 b7 b8) (hwc.hbM (cs := [iV r4.C.N, iV r4.C.S, iV r4.C.T, sV c8 f9 c13, sV d1 g0 c17, sV d3 g1 g2, sV d4 n24 g4, sV d5 g5 g6, sV d6 g7 g8, iV r4.L.Verts, iV r4.L.Arcs, iV r4.L.Workers, iV r4.L.Room, iV r4.L.Res, iV r4.L.Ex, iV r4.L.H, iV r4.L.Flag, iV r4.L.Pending, iV r4.L.Ask, iV r4.L.Count, iV r4.L.Sense, iV r4.L.Deques, iV r4.L.Size, pV g9, sV d7 n42 h0, sV d8 h1 h2]) (Zf Yz (Zf Yz (Zf Yz (Zf Zp (Zf Zb (Gone.refl _)))))) rfl Zh) (hwc.hbM (cs := [iV r3.N, iV r3.S, iV r3.T, sV f8 n8 c9]) (Zf Yz (Zf Yz (Zf Yz (Zf Zp (Zf Zb (Gone.refl _)))))) rfl Yx) (List.length_set.trans List.length_replicate) (Nat.le_refl _) Vg e8) ?_; rintro _ _ ⟨rfl, rfl, e9, f1⟩; refine Zd Za ?_; refine Yo (t := 29) (b' := false) rfl (Bool.eq_false_iff.2 c4) ?_; refine Zs Za ?_; refine Xl Ze ?_; refine aN Za ?_; refine Zq (aT [4] rfl) ?_; refine T.ret ?_; obtain rfl := ret1 H; exact Zu Za (Res.tmp rfl) Zg ⟨rfl, rfl⟩
end Go.Proofs.YtobnnpdfeakbbaaGreat.Ax
namespace Go.Acq
open Go
def Gf (a : Arc) (v : Nat) : Nat := if a.fr = a.to then 0 else if a.fr = v ∨ a.to = v then 1 else 0
def cnt (al : List Arc) (v : Nat) : Nat → Nat
  | 0 => 0
  | k + 1 => cnt al v k + Gf (al.getD k default) v
def Yw (al : List Arc) : Nat → Nat
  | 0 => 0
  | v + 1 => Yw al v + cnt al v al.length
def Xg (a : Arc) (s : Bool) : Int := if s then a.to else a.fr
def pos (al : List Arc) (i : Nat) (s : Bool) : Nat := Yw al (Xg (al.getD i default) s).toNat + cnt al (Xg (al.getD i default) s).toNat i
def Jg (n : Nat) (al : List Arc) : Prop := ∀ i, i < al.length → ∀ s, 0 ≤ Xg (al.getD i default) s ∧ Xg (al.getD i default) s < n
theorem Ws {α : Type} (xs : List α) (i j : Nat) (v d : α) : (xs.set i v).getD j d = if i = j ∧ i < xs.length then v else xs.getD j d := by
 rw [List.getD_eq_getElem?_getD, List.getD_eq_getElem?_getD, List.getElem?_set]
 split
 ·
  rename_i h; subst h
  split
  · rename_i h2; simp [h2]
  · rename_i h2; simp [h2]
 · rename_i h; simp [h]
theorem Xq {α : Type} {xs : List α} {i j : Nat} {v d : α} (h : i ≠ j) : (xs.set i v).getD j d = xs.getD j d := by
 rw [Ws, if_neg (fun e => h e.1)]
theorem Zap {α : Type} {xs : List α} {i : Nat} {v d : α} (h : i < xs.length) : (xs.set i v).getD i d = v := by
 rw [Ws, if_pos ⟨rfl, h⟩]
theorem Z4f {α : Type} (n j : Nat) (v : α) : (List.replicate n v).getD j v = v := by
 rw [List.getD_eq_getElem?_getD, List.getElem?_replicate]; split <;> simp
theorem hit_le (a : Arc) (v : Nat) : Gf a v ≤ 1 := by unfold Gf; split; omega; split <;> omega
theorem cnt_mono {al : List Arc} {v i j : Nat} (h : i ≤ j) : cnt al v i ≤ cnt al v j := by
 induction h with
 | refl => exact Nat.le_refl _
 | step _ ih => exact Nat.le_trans ih (Nat.le_add_right _ _)
theorem Z8h (al : List Arc) (v k : Nat) : cnt al v k ≤ k := by
 induction k with
 | zero => exact Nat.le_refl _
 | succ k ih => have := hit_le (al.getD k default) v; simp only [cnt]; omega
theorem Z02 {al : List Arc} {u v : Nat} (h : u ≤ v) : Yw al u ≤ Yw al v := by
 induction h with
 | refl => exact Nat.le_refl _
 | step _ ih => exact Nat.le_trans ih (Nat.le_add_right _ _)
theorem Zjl (al : List Arc) (v : Nat) : Yw al v ≤ v * al.length := by
 induction v with
 | zero => exact Nat.zero_le _
 | succ v ih => have := Z8h al v al.length; simp only [Yw, Nat.succ_mul]; omega
theorem hit_vtx {a : Arc} {s : Bool} (h : a.fr ≠ a.to) (h0 : 0 ≤ Xg a s) : Gf a (Xg a s).toNat = 1 := by
 unfold Gf; rw [if_neg h, if_pos]
 cases s
 · left; simp only [Xg] at h0 ⊢; simp only [Bool.false_eq_true, if_false] at h0 ⊢; omega
 · right; simp only [Xg] at h0 ⊢; simp only [if_true] at h0 ⊢; omega
theorem Z0f {al : List Arc} {i j : Nat} {s : Bool} (hij : i < j) (h : (al.getD i default).fr ≠ (al.getD i default).to) (h0 : 0 ≤ Xg (al.getD i default) s) :
    cnt al (Xg (al.getD i default) s).toNat i < cnt al (Xg (al.getD i default) s).toNat j := by
  have h1 := cnt_mono (al := al) (v := (Xg (al.getD i default) s).toNat) (i := i + 1) (j := j) hij
  have h2 := hit_vtx h h0
  simp only [cnt] at h1
  omega
theorem Re {al : List Arc} {n i : Nat} {s : Bool} (hi : i < al.length) (h : (al.getD i default).fr ≠ (al.getD i default).to) (he : Jg n al) : pos al i s < Yw al n := by
 have h1 := Z0f (s := s) hi h (he i hi s).1
 have h2 := Z02 (al := al) (u := (Xg (al.getD i default) s).toNat + 1) (v := n) (by have := he i hi s; omega)
 simp only [Yw] at h2
 unfold pos; omega
theorem Gn {al : List Arc} {n i j : Nat} {s t : Bool} (he : Jg n al) (hi : i < al.length) (hj : j < al.length) (h : (al.getD i default).fr ≠ (al.getD i default).to) (g : (al.getD j default).fr ≠ (al.getD j default).to)
    (e : pos al i s = pos al j t) : i = j ∧ s = t := by
  have hi1 := Z0f (s := s) hi h (he i hi s).1
  have hj1 := Z0f (s := t) hj g (he j hj t).1
  have hv : (Xg (al.getD i default) s).toNat = (Xg (al.getD j default) t).toNat := by
    rcases Nat.lt_trichotomy (Xg (al.getD i default) s).toNat (Xg (al.getD j default) t).toNat with h1 | h1 | h1
    · have := Z02 (al := al) (u := (Xg (al.getD i default) s).toNat + 1) h1
      simp only [Yw] at this
      unfold pos at e; omega
    · exact h1
    · have := Z02 (al := al) (u := (Xg (al.getD j default) t).toNat + 1) h1
      simp only [Yw] at this
      unfold pos at e; omega
  have hij : i = j := by
    rcases Nat.lt_trichotomy i j with h1 | h1 | h1
    · have h2 := Z0f (s := s) h1 h (he i hi s).1
      unfold pos at e; rw [hv] at e h2; omega
    · exact h1
    · have h2 := Z0f (s := t) h1 g (he j hj t).1
      unfold pos at e; rw [hv] at e; omega
  refine ⟨hij, ?_⟩
  subst hij
  have h1 := (he i hi s).1
  have h2 := (he i hi t).1
  cases s <;> cases t <;> first | rfl | (simp only [Xg, Bool.false_eq_true, if_false, if_true] at hv h1 h2; omega)
theorem Zdy {al : List Arc} {v r : Nat} : ∀ {k : Nat}, r < cnt al v k → ∃ i, i < k ∧ cnt al v i = r ∧ Gf (al.getD i default) v = 1
 | 0, h => by simp [cnt] at h
 | k + 1, h => by
  by_cases h1 : r < cnt al v k
  · obtain ⟨i, h2, h3⟩ := Zdy h1; exact ⟨i, by omega, h3⟩
  ·
   have := hit_le (al.getD k default) v
   simp only [cnt] at h
   exact ⟨k, by omega, by omega, by omega⟩
theorem Zge {al : List Arc} {p : Nat} : ∀ {n : Nat}, p < Yw al n → ∃ v, v < n ∧ Yw al v ≤ p ∧ p < Yw al (v + 1)
 | 0, h => by simp [Yw] at h
 | n + 1, h => by
  by_cases h1 : p < Yw al n
  · obtain ⟨v, h2, h3⟩ := Zge h1; exact ⟨v, by omega, h3⟩
  · exact ⟨n, by omega, by omega, h⟩
theorem Zgo {al : List Arc} {n p : Nat} (h : p < Yw al n) : ∃ i s, i < al.length ∧ (al.getD i default).fr ≠ (al.getD i default).to ∧ pos al i s = p ∧ 0 ≤ Xg (al.getD i default) s ∧ Xg (al.getD i default) s < n ∧
    Yw al (Xg (al.getD i default) s).toNat ≤ p ∧ p < Yw al ((Xg (al.getD i default) s).toNat + 1) := by
  obtain ⟨v, hv, h1, h2⟩ := Zge h
  simp only [Yw] at h2
  obtain ⟨i, hi, h3, h4⟩ := Zdy (al := al) (v := v) (r := p - Yw al v) (k := al.length) (by omega)
  unfold Gf at h4
  split at h4
  · omega
  · rename_i hne
    split at h4
    · rename_i ho
      rcases ho with ho | ho
      · refine ⟨i, false, hi, hne, ?_, ?_, ?_, ?_, ?_⟩ <;> simp only [pos, Xg, Bool.false_eq_true, if_false, ho, Int.toNat_natCast, Yw] <;> omega
      · refine ⟨i, true, hi, hne, ?_, ?_, ?_, ?_, ?_⟩ <;> simp only [pos, Xg, if_true, ho, Int.toNat_natCast, Yw] <;> omega
    · omega
def CsrAt (al : List Arc) (hs rs cs aa : List Int) (bs : List Bool) (k : Nat) : Prop :=
  ∀ i, i < k → (al.getD i default).fr ≠ (al.getD i default).to → ∀ s,
    hs.getD (pos al i s) 0 = Xg (al.getD i default) (!s) ∧ rs.getD (pos al i s) 0 = pos al i (!s) ∧ cs.getD (pos al i s) 0 = (if s then 0 else (al.getD i default).cap) ∧
    aa.getD (pos al i s) 0 = i ∧ bs.getD (pos al i s) false = s
structure CsrOK (al : List Arc) (n : Nat) (fs hs rs cs aa : List Int) (bs : List Bool) : Prop where
  lf : fs.length = n + 1
  lh : hs.length = Yw al n
  lr : rs.length = Yw al n
  lc : cs.length = Yw al n
  la : aa.length = Yw al n
  lb : bs.length = Yw al n
  hf : ∀ v, v ≤ n → fs.getD v 0 = Yw al v
  hat : CsrAt al hs rs cs aa bs al.length
theorem CsrAt.skip {al : List Arc} {hs rs cs aa : List Int} {bs : List Bool} {k : Nat} (h : CsrAt al hs rs cs aa bs k) (e : (al.getD k default).fr = (al.getD k default).to) : CsrAt al hs rs cs aa bs (k + 1) := by
 intro i hi hne s
 rcases Nat.lt_succ_iff_lt_or_eq.1 hi with h1 | h1
 · exact h i h1 hne s
 · subst h1; exact absurd e hne
theorem set2 {α : Type} {xs : List α} {p q j : Nat} {u v d : α} (hp : p < xs.length) (hq : q < xs.length) (hpq : p ≠ q) :
    ((xs.set p u).set q v).getD j d = if j = p then u else if j = q then v else xs.getD j d := by
  rw [Ws, Ws]
  by_cases h1 : j = p
  · subst h1; rw [if_pos rfl, if_neg (fun e => hpq e.1.symm), if_pos ⟨rfl, hp⟩]
  · rw [if_neg h1]
    by_cases h2 : j = q
    · subst h2; rw [if_pos rfl, if_pos ⟨rfl, by simpa using hq⟩]
    · rw [if_neg h2, if_neg (fun e => h2 e.1.symm), if_neg (fun e => h1 e.1.symm)]
theorem CsrAt.put {al : List Arc} {n : Nat} {hs rs cs aa : List Int} {bs : List Bool} {k : Nat} (h : CsrAt al hs rs cs aa bs k) (he : Jg n al) (hk : k < al.length) (hne : (al.getD k default).fr ≠ (al.getD k default).to)
    (lh : hs.length = Yw al n) (lr : rs.length = Yw al n) (lc : cs.length = Yw al n) (la : aa.length = Yw al n) (lb : bs.length = Yw al n) :
    CsrAt al ((hs.set (pos al k false) (al.getD k default).to).set (pos al k true) (al.getD k default).fr) ((rs.set (pos al k false) (pos al k true)).set (pos al k true) (pos al k false))
      ((cs.set (pos al k false) (al.getD k default).cap).set (pos al k true) 0) ((aa.set (pos al k false) k).set (pos al k true) k) ((bs.set (pos al k false) false).set (pos al k true) true) (k + 1) := by
  have hp : pos al k false < Yw al n := Re hk hne he
  have hq : pos al k true < Yw al n := Re hk hne he
  have hpq : pos al k false ≠ pos al k true := fun e => by have := (Gn he hk hk hne hne e).2; cases this
  intro i hi hni s
  have hil : i < al.length := by omega
  rw [set2 (by omega) (by omega) hpq, set2 (by omega) (by omega) hpq, set2 (by omega) (by omega) hpq, set2 (by omega) (by omega) hpq, set2 (by omega) (by omega) hpq]
  by_cases hik : i = k
  · subst hik
    cases s
    · simp [Xg]
    · simp [Xg, hpq.symm]
  · have h1 : pos al i s ≠ pos al k false := fun e => hik (Gn he hil hk hni hne e).1
    have h2 : pos al i s ≠ pos al k true := fun e => hik (Gn he hil hk hni hne e).1
    simp only [if_neg h1, if_neg h2]
    exact h i (by omega) hni s
def Counted (al : List Arc) (m k : Nat) (fs : List Int) : Prop := fs.length = m + 1 ∧ fs.getD 0 0 = 0 ∧ ∀ v : Int, 0 ≤ v → v < m → fs.getD (v + 1).toNat 0 = cnt al v.toNat k
def Summed (al : List Arc) (m k : Nat) (fs : List Int) : Prop := fs.length = m + 1 ∧ (∀ u, u ≤ k → fs.getD u 0 = Yw al u) ∧ ∀ u, k ≤ u → u < m → fs.getD (u + 1) 0 = cnt al u al.length
theorem Zaa {al : List Arc} {v : Nat} (hv : v ≤ 4096) (hl : al.length ≤ 16384) : Yw al v ≤ 67108864 :=
 Nat.le_trans (Zjl al v) (Nat.mul_le_mul hv hl)
theorem Zk4 (al : List Arc) (m : Nat) {p : Nat} (h : p = m + 1) : Counted al m 0 (List.replicate p 0) :=
 ⟨by simp [h], Z4f _ _ _, fun v _ _ => by rw [Z4f]; rfl⟩
theorem Counted.skip {al : List Arc} {m k : Nat} {fs : List Int} (h : Counted al m k fs) (e : (al.getD k default).fr = (al.getD k default).to) : Counted al m (k + 1) fs :=
 ⟨h.1, h.2.1, fun v h0 h1 => by rw [h.2.2 v h0 h1]; simp only [cnt, Gf, if_pos e, Nat.add_zero]⟩
theorem Counted.put {al : List Arc} {m k : Nat} {fs : List Int} (h : Counted al m k fs) (he : Jg m al) (hk : k < al.length) (hne : (al.getD k default).fr ≠ (al.getD k default).to) :
    Counted al m (k + 1) ((fs.set ((al.getD k default).fr + 1).toNat (fs.getD ((al.getD k default).fr + 1).toNat 0 + 1)).set ((al.getD k default).to + 1).toNat
      ((fs.set ((al.getD k default).fr + 1).toNat (fs.getD ((al.getD k default).fr + 1).toNat 0 + 1)).getD ((al.getD k default).to + 1).toNat 0 + 1)) := by
  have e0 := he k hk false
  have e1 := he k hk true
  simp only [Xg, Bool.false_eq_true, if_false, if_true] at e0 e1
  obtain ⟨hl, hz, hv⟩ := h
  refine ⟨by simpa using hl, ?_, ?_⟩
  · rw [Xq (by omega), Xq (by omega)]; exact hz
  · intro v h0 h1
    have hvv := hv v h0 h1
    rw [Xq (i := ((al.getD k default).fr + 1).toNat) (j := ((al.getD k default).to + 1).toNat) (by omega), set2 (by omega) (by omega) (by omega)]
    simp only [cnt, Gf, if_neg hne]
    by_cases a1 : v = (al.getD k default).fr
    · rw [if_pos (by omega), if_pos (by omega), ← a1, hvv]; omega
    · rw [if_neg (by omega)]
      by_cases a2 : v = (al.getD k default).to
      · rw [if_pos (by omega), if_pos (by omega), ← a2, hvv]; omega
      · rw [if_neg (by omega), if_neg (by omega), hvv]; omega
theorem Counted.summed {al : List Arc} {m : Nat} {fs : List Int} (h : Counted al m al.length fs) : Summed al m 0 fs :=
 ⟨h.1, fun u hu => by rw [Nat.le_zero.1 hu]; exact h.2.1, fun u _ hu => by have := h.2.2 u (by omega) (by omega); rw [show ((u : Int) + 1).toNat = u + 1 by omega] at this; simpa using this⟩
theorem Summed.put {al : List Arc} {m k : Nat} {fs : List Int} (h : Summed al m k fs) (hk : k < m) {i : Nat} (hi : i = k + 1) : Summed al m (k + 1) (fs.set i (fs.getD i 0 + fs.getD k 0)) := by
 subst hi
 obtain ⟨hl, h1, h2⟩ := h
 refine ⟨by simpa using hl, fun u hu => ?_, fun u h3 h4 => ?_⟩
 ·
  by_cases e : u = k + 1
  · subst e; rw [Zap (by omega), h1 k (Nat.le_refl _), h2 k (Nat.le_refl _) hk]; simp [Yw]; omega
  · rw [Xq (by omega)]; exact h1 u (by omega)
 · rw [Xq (by omega)]; exact h2 u (by omega) h4
theorem Z25 {N S T : Int} {al : List Arc} (h : Ky N S T al = 0) : (2 ≤ N ∧ N ≤ 4096) ∧ (al.length : Int) ≤ 16384 ∧ (Ui N S = true ∧ Ui N T = true ∧ S ≠ T) ∧ al.all (Kp N) = true ∧ al.all Gm = true ∧ (Ut 4611686018427387904 al).isSome = true := by
 unfold Ky at h
 split at h
 · omega
 ·
  rename_i h1
  split at h
  · omega
  ·
   rename_i h2
   split at h
   · omega
   ·
    rename_i h3
    split at h
    · omega
    ·
     rename_i h4
     split at h
     · omega
     ·
      rename_i h5
      split at h
      · omega
      ·
       rename_i h6
       refine ⟨Classical.not_not.1 h1, Classical.not_not.1 h2, Classical.not_not.1 h3, by simpa using h4, by simpa using h5, ?_⟩
       cases e : Ut 4611686018427387904 al <;> simp_all
theorem Zfj {m : Nat} {al : List Arc} (h : al.all (Kp (m : Int)) = true) : Jg m al := by
 intro i hi s
 have h1 := List.all_eq_true.1 h _ (Z06 hi default)
 simp only [Kp, Ui, Bool.and_eq_true, decide_eq_true_eq] at h1
 cases s
 · simp only [Xg, Bool.false_eq_true, if_false]; exact h1.1
 · simp only [Xg, if_true]; exact h1.2
def MakeAt (al : List Arc) (m k : Nat) (nx hs rs cs aa : List Int) (bs : List Bool) : Prop :=
  (nx.length = m + 1 ∧ hs.length = Yw al m ∧ rs.length = Yw al m ∧ cs.length = Yw al m ∧ aa.length = Yw al m ∧ bs.length = Yw al m) ∧
  CsrAt al hs rs cs aa bs k ∧ ∀ v : Int, 0 ≤ v → v < m → nx.getD v.toNat 0 = Yw al v.toNat + cnt al v.toNat k
theorem Zis {al : List Arc} {m : Nat} {fs : List Int} (hl : fs.length = m + 1) (hf : ∀ u, u ≤ m → fs.getD u 0 = Yw al u) :
    MakeAt al m 0 fs (List.replicate (Yw al m) 0) (List.replicate (Yw al m) 0) (List.replicate (Yw al m) 0) (List.replicate (Yw al m) 0) (List.replicate (Yw al m) false) := by
  refine ⟨⟨hl, by simp, by simp, by simp, by simp, by simp⟩, fun i hi => by omega, fun v h0 h1 => ?_⟩
  rw [hf _ (by omega)]; simp [cnt]
theorem MakeAt.skip {al : List Arc} {m k : Nat} {nx hs rs cs aa : List Int} {bs : List Bool} (h : MakeAt al m k nx hs rs cs aa bs) (e : (al.getD k default).fr = (al.getD k default).to) : MakeAt al m (k + 1) nx hs rs cs aa bs :=
 ⟨h.1, h.2.1.skip e, fun v h0 h1 => by rw [h.2.2 v h0 h1]; simp only [cnt, Gf, if_pos e, Nat.add_zero]⟩
theorem MakeAt.at {al : List Arc} {m k : Nat} {nx hs rs cs aa : List Int} {bs : List Bool} (h : MakeAt al m k nx hs rs cs aa bs) (he : Jg m al) (hk : k < al.length) (s : Bool) : nx.getD (Xg (al.getD k default) s).toNat 0 = (pos al k s : Nat) := by
 rw [h.2.2 _ (he k hk s).1 (he k hk s).2]; simp only [pos]; omega
theorem MakeAt.put {al : List Arc} {m k : Nat} {nx hs rs cs aa : List Int} {bs : List Bool} (h : MakeAt al m k nx hs rs cs aa bs) (he : Jg m al) (hk : k < al.length) (hne : (al.getD k default).fr ≠ (al.getD k default).to) :
    MakeAt al m (k + 1) ((nx.set (al.getD k default).fr.toNat ((pos al k false : Nat) + 1)).set (al.getD k default).to.toNat ((pos al k true : Nat) + 1))
      ((hs.set (pos al k false) (al.getD k default).to).set (pos al k true) (al.getD k default).fr) ((rs.set (pos al k false) (pos al k true)).set (pos al k true) (pos al k false))
      ((cs.set (pos al k false) (al.getD k default).cap).set (pos al k true) 0) ((aa.set (pos al k false) k).set (pos al k true) k) ((bs.set (pos al k false) false).set (pos al k true) true) := by
  have g0 := h.at he hk false
  have g1 := h.at he hk true
  obtain ⟨⟨l0, l1, l2, l3, l4, l5⟩, hA, hv⟩ := h
  have e0 := he k hk false
  have e1 := he k hk true
  simp only [Xg, Bool.false_eq_true, if_false, if_true] at e0 e1 g0 g1
  refine ⟨⟨by simpa using l0, by simpa using l1, by simpa using l2, by simpa using l3, by simpa using l4, by simpa using l5⟩, hA.put he hk hne l1 l2 l3 l4 l5, fun v h0 h1 => ?_⟩
  have hvv := hv v h0 h1
  rw [set2 (by omega) (by omega) (by omega)]
  simp only [cnt, Gf, if_neg hne]
  by_cases a1 : v = (al.getD k default).fr
  · rw [if_pos (by omega), if_pos (by omega), ← g0, ← a1, hvv]; omega
  · rw [if_neg (by omega)]
    by_cases a2 : v = (al.getD k default).to
    · rw [if_pos (by omega), if_pos (by omega), ← g1, ← a2, hvv]; omega
    · rw [if_neg (by omega), if_neg (by omega), hvv]; omega
theorem MakeAt.done {al : List Arc} {m : Nat} {fs nx hs rs cs aa : List Int} {bs : List Bool} (h : MakeAt al m al.length nx hs rs cs aa bs) (hl : fs.length = m + 1) (hf : ∀ u, u ≤ m → fs.getD u 0 = Yw al u) : CsrOK al m fs hs rs cs aa bs :=
 ⟨hl, h.1.2.1, h.1.2.2.1, h.1.2.2.2.1, h.1.2.2.2.2.1, h.1.2.2.2.2.2, hf, h.2.1⟩
end Go.Acq
namespace Go.Acq
open Go
theorem next_ne {S m : Int} (h0 : 0 ≤ S) (h1 : S < m) (h2 : 2 ≤ m) : 0 ≤ (S + 1).tmod m ∧ (S + 1).tmod m < m ∧ (S + 1).tmod m ≠ S := by
 rw [Int.tmod_eq_emod_of_nonneg (by omega)]
 refine ⟨Int.emod_nonneg _ (by omega), Int.emod_lt_of_pos _ (by omega), ?_⟩
 by_cases h : S + 1 < m
 · rw [Int.emod_eq_of_lt (by omega) h]; omega
 · rw [show S + 1 = m by omega, Int.emod_self]; omega
theorem Zko {x n : Int} (h : 0 ≤ x) (hn : 0 < n) : 0 ≤ x.tmod n ∧ x.tmod n < n := by
 rw [Int.tmod_eq_emod_of_nonneg h]
 exact ⟨Int.emod_nonneg _ (by omega), Int.emod_lt_of_pos _ hn⟩
def SomeAt (m : Nat) (ol : List Arc) : Prop := ∀ a, a ∈ ol → Kp m a = true ∧ 0 ≤ a.cap ∧ a.cap < 1125899906842624
theorem SomeAt.put {m : Nat} {ol : List Arc} {a : Arc} (h : SomeAt m ol) (h1 : 0 ≤ a.fr ∧ a.fr < m) (h2 : 0 ≤ a.to ∧ a.to < m) (h3 : 0 ≤ a.cap ∧ a.cap < 1125899906842624) : SomeAt m (ol ++ [a]) := by
 intro b hb
 rcases List.mem_append.1 hb with hb | hb
 · exact h b hb
 ·
  simp only [List.mem_singleton] at hb
  subst hb
  exact ⟨by simp [Kp, Ui, h1, h2], h3⟩
theorem Zh2 {m : Nat} {ol : List Arc} {left : Int} (h : SomeAt m ol) (hl : (ol.length : Int) * 1125899906842624 ≤ left) : (Ut left ol).isSome = true := by
 induction ol generalizing left with
 | nil => simp [Ut]
 | cons a ol ih =>
  have ha := (h a (.head _)).2
  simp only [List.length_cons] at hl
  have h2 : (0 : Int) ≤ (ol.length : Int) * 1125899906842624 := by omega
  simp only [Ut]
  rw [if_neg (by omega)]
  exact ih (fun b hb => h b (.tail _ hb)) (by omega)
theorem Zn7 {m : Nat} {S T : Int} {ol : List Arc} (hm : 2 ≤ m) (hm2 : m ≤ 4096) (hS : 0 ≤ S ∧ S < m) (hT : 0 ≤ T ∧ T < m) (hST : T ≠ S) (h : SomeAt m ol) (hl : ol.length ≤ 4096) : Ky m S T ol = 0 := by
 have h1 : ol.all (Kp m) = true := List.all_eq_true.2 fun a ha => (h a ha).1
 have h2 : ol.all Gm = true := List.all_eq_true.2 fun a ha => by simp [Gm, (h a ha).2.1]
 have h3 : (Ut 4611686018427387904 ol).isSome = true := Zh2 h (by omega)
 unfold Ky
 rw [if_neg (by omega), if_neg (by omega), if_neg (by simp [Ui, hS, hT, Ne.symm hST]), if_neg (by simp [h1]), if_neg (by simp [h2]), if_neg (by
  cases e : Ut 4611686018427387904 ol with
  | none => rw [e] at h3; cases h3
  | some x => simp)]
def WithinAt (al : List Arc) (n k : Nat) (fl : List Int) : Prop := fl.length = n ∧
  (∀ i, i < k → 0 ≤ fl.getD i 0 ∧ fl.getD i 0 ≤ (al.getD i default).cap ∧ ((al.getD i default).fr = (al.getD i default).to → fl.getD i 0 = 0)) ∧ ∀ i, k ≤ i → fl.getD i 0 = 0
theorem WithinAt.start (al : List Arc) (n : Nat) : WithinAt al n 0 (List.replicate n 0) := ⟨by simp, fun i h => by omega, fun i _ => Z4f _ _ _⟩
theorem WithinAt.skip {al : List Arc} {n k : Nat} {fl : List Int} (h : WithinAt al n k fl) (hc : 0 ≤ (al.getD k default).cap) : WithinAt al n (k + 1) fl := by
 refine ⟨h.1, fun i hi => ?_, fun i hi => h.2.2 i (by omega)⟩
 rcases Nat.lt_succ_iff_lt_or_eq.1 hi with h1 | h1
 · exact h.2.1 i h1
 · subst h1; have := h.2.2 i (Nat.le_refl _); rw [this]; exact ⟨Int.le_refl _, hc, fun _ => rfl⟩
theorem WithinAt.put {al : List Arc} {n k : Nat} {fl : List Int} {v : Int} (h : WithinAt al n k fl) (hk : k < n) (h0 : 0 ≤ v) (h1 : v ≤ (al.getD k default).cap) (hne : (al.getD k default).fr ≠ (al.getD k default).to) : WithinAt al n (k + 1) (fl.set k v) := by
 refine ⟨by simpa using h.1, fun i hi => ?_, fun i hi => by rw [Xq (by omega)]; exact h.2.2 i (by omega)⟩
 by_cases e : i = k
 · subst e; rw [Zap (by rw [h.1]; exact hk)]; exact ⟨h0, h1, fun e => absurd e hne⟩
 · rw [Xq (by omega)]; exact h.2.1 i (by omega)
def resOK (aa cs : List Int) (bs : List Bool) (fl : List Int) (j : Nat) : Prop := aa.getD j 0 < fl.length ∧ (bs.getD j false = true ∨ (0 ≤ fl.getD (aa.getD j 0).toNat 0 ∧ fl.getD (aa.getD j 0).toNat 0 ≤ cs.getD j 0))
def resV (aa cs : List Int) (bs : List Bool) (fl : List Int) (j : Nat) : Int := if bs.getD j false = true then fl.getD (aa.getD j 0).toNat 0 else cs.getD j 0 - fl.getD (aa.getD j 0).toNat 0
def ResAt (aa cs : List Int) (bs : List Bool) (fl : List Int) (L k : Nat) (rl : List Int) : Prop := rl.length = L ∧ ∀ j, j < k → resOK aa cs bs fl j ∧ rl.getD j 0 = resV aa cs bs fl j
theorem ResAt.put {aa cs : List Int} {bs : List Bool} {fl : List Int} {L k : Nat} {rl : List Int} {v : Int} (h : ResAt aa cs bs fl L k rl) (hk : k < L) (h1 : resOK aa cs bs fl k) (h2 : v = resV aa cs bs fl k) : ResAt aa cs bs fl L (k + 1) (rl.set k v) := by
 refine ⟨by simpa using h.1, fun j hj => ?_⟩
 by_cases e : j = k
 · subst e; rw [Zap (by rw [h.1]; exact hk)]; exact ⟨h1, h2⟩
 · rw [Xq (by omega)]; exact h.2 j (by omega)
end Go.Acq
namespace Go.Acq
open Go
def turn (a : Arc) : Arc := ⟨a.to, a.fr, a.cap⟩
theorem Zp5 (al : List Arc) (i : Nat) : (al.map turn).getD i default = turn (al.getD i default) := by
 rw [List.getD_eq_getElem?_getD, List.getD_eq_getElem?_getD, List.getElem?_map]
 cases al[i]? <;> rfl
theorem SomeAt.turn {m : Nat} {ol : List Arc} (h : SomeAt m ol) : SomeAt m (ol.map turn) := by
 intro a ha
 obtain ⟨b, hb, rfl⟩ := List.mem_map.1 ha
 obtain ⟨h1, h2⟩ := h b hb
 simp only [Kp, Bool.and_eq_true] at h1
 exact ⟨by simp only [Kp, Acq.turn, Bool.and_eq_true]; exact ⟨h1.2, h1.1⟩, h2⟩
theorem WithinAt.turn {al : List Arc} {n k : Nat} {fl : List Int} (h : WithinAt al n k fl) : WithinAt (al.map turn) n k fl :=
 ⟨h.1, fun i hi => by rw [Zp5]; exact ⟨(h.2.1 i hi).1, (h.2.1 i hi).2.1, fun e => (h.2.1 i hi).2.2 e.symm⟩, h.2.2⟩
theorem CsrOK.place {al : List Arc} {m : Nat} {fs hs rs cs aa : List Int} {bs : List Bool} (h : CsrOK al m fs hs rs cs aa bs) {j : Nat} (hj : j < Yw al m) :
    ∃ i s, i < al.length ∧ (al.getD i default).fr ≠ (al.getD i default).to ∧ pos al i s = j ∧ hs.getD j 0 = Xg (al.getD i default) (!s) ∧ rs.getD j 0 = pos al i (!s) ∧ cs.getD j 0 = (if s then 0 else (al.getD i default).cap) ∧ aa.getD j 0 = i ∧ bs.getD j false = s := by
  obtain ⟨i, s, hi, hne, hp, _⟩ := Zgo hj
  have := h.hat i hi hne s
  rw [hp] at this
  exact ⟨i, s, hi, hne, hp, this⟩
end Go.Acq
namespace Go.Acq
open Go
theorem Rz {α : Type} {m : Option α} {v : α} (h : Ok m (fun a => a = v)) : m = some v := by obtain ⟨a, h1, h2⟩ := h; rw [h1, h2]
theorem Yp {α : Type} {m : Option α} {v : α} {Q : α → Prop} (h : m = some v) (q : Q v) : Ok m Q := ⟨v, h, q⟩
abbrev lenok (n : Nat) : Prop := n ≤ 9223372036854775807
theorem Z30 {x n : Int} (h1 : n ≤ 4611686018427387904) : Lh x n = some (Gd x n) := by
 unfold Lh Gd
 by_cases h : n < 1
 · rw [if_pos h, if_pos h]
 ·
  have a1 := Int.tmod_lt_of_pos x (show 0 < n by omega)
  have a2 := Zfn x (show 0 < n by omega)
  rw [if_neg h, if_neg h, Vn (by omega), Vn (by constructor <;> omega), Vn (by omega)]
theorem Z9s (n : Net) (v : Int) : Lo n v = some (Ui n.N v) := by
 unfold Lo Ui
 by_cases h : 0 ≤ v <;> simp [h]
theorem s_rules4 (n : Net) (a : Arc) : Z3m n a = some (Kp n.N a) := by
 unfold Z3m Kp
 rw [Z9s, Z9s]
 simp only [Option.bind_some]
 cases Ui n.N a.fr <;> simp
theorem s_of4 (n : Net) (h : lenok n.Arcs.length) : Z40 n = some (n.Arcs.all (Kp n.N)) := by
 refine Rz ?_
 unfold Z40 Z7s Z5c
 refine Ok.bind.2 (Ok.bind.2 (Ok.bind.2 (Z6y (fun x => 0 ≤ x ∧ x ≤ n.Arcs.length ∧ ∀ i, i < x.toNat → Kp n.N (n.Arcs.getD i default) = true) (fun x => (n.Arcs.length - x).toNat) ⟨by omega, by omega, fun i hi => by omega⟩ (by unfold Xm; omega) ?_)))
 rintro x ⟨h0, h1, h2⟩
 unfold Z34 Z69
 refine Ok.ite.2 ⟨fun hx => ?_, fun hx => ?_⟩
 ·
  refine Ok.gd.2 ⟨(by omega), Ok.bind.2 (Ok.bind.2 (Yp (s_rules4 _ _) (Ok.some.2 (Ok.ite.2 ⟨fun hb => ?_, fun hb => ?_⟩))))⟩
  ·
   refine Ok.some.2 (Ok.some.2 (Ok.some.2 (Ok.some.2 ?_)))
   simp only [h0, decide_true, Bool.not_true]
   refine Eq.symm (Bool.eq_false_iff.2 fun hall => ?_)
   have := List.all_eq_true.1 hall _ (Z06 (show x.toNat < n.Arcs.length by omega) default)
   rw [this] at hb; cases hb
  ·
   refine Ok.gd.2 ⟨(by omega), Ok.some.2 ⟨⟨by omega, by omega, fun i hi => ?_⟩, by omega⟩⟩
   rcases Nat.lt_or_ge i x.toNat with h3 | h3
   · exact h2 i h3
   · rw [show i = x.toNat by omega]; simpa using hb
 ·
  refine Ok.some.2 (Ok.some.2 (Ok.some.2 (Ok.some.2 ?_)))
  refine Eq.symm (List.all_eq_true.2 fun a ha => ?_)
  obtain ⟨i, hi, rfl⟩ := List.getElem_of_mem ha
  have := h2 i (by omega)
  rwa [List.getD_eq_getElem?_getD, List.getElem?_eq_getElem hi] at this
theorem s_of5 (n : Net) (h : lenok n.Arcs.length) : Z2t n = some (n.Arcs.all Gm) := by
 refine Rz ?_
 unfold Z2t Z8t Z5e
 refine Ok.bind.2 (Ok.bind.2 (Ok.bind.2 (Z6y (fun x => 0 ≤ x ∧ x ≤ n.Arcs.length ∧ ∀ i, i < x.toNat → Gm (n.Arcs.getD i default) = true) (fun x => (n.Arcs.length - x).toNat) ⟨by omega, by omega, fun i hi => by omega⟩ (by unfold Xm; omega) ?_)))
 rintro x ⟨h0, h1, h2⟩
 unfold Z2q Z5q Z5r
 refine Ok.ite.2 ⟨fun hx => ?_, fun hx => ?_⟩
 ·
  refine Ok.gd.2 ⟨(by omega), Ok.bind.2 (Ok.bind.2 (Ok.some.2 (Ok.some.2 (Ok.ite.2 ⟨fun hb => ?_, fun hb => ?_⟩))))⟩
  ·
   refine Ok.some.2 (Ok.some.2 (Ok.some.2 (Ok.some.2 ?_)))
   simp only [h0, decide_true, Bool.not_true]
   refine Eq.symm (Bool.eq_false_iff.2 fun hall => ?_)
   have := List.all_eq_true.1 hall _ (Z06 (show x.toNat < n.Arcs.length by omega) default)
   simp only [Gm] at this
   rw [this] at hb; cases hb
  ·
   refine Ok.gd.2 ⟨(by omega), Ok.some.2 ⟨⟨by omega, by omega, fun i hi => ?_⟩, by omega⟩⟩
   rcases Nat.lt_or_ge i x.toNat with h3 | h3
   · exact h2 i h3
   · rw [show i = x.toNat by omega]; simpa [Gm] using hb
 ·
  refine Ok.some.2 (Ok.some.2 (Ok.some.2 (Ok.some.2 ?_)))
  refine Eq.symm (List.all_eq_true.2 fun a ha => ?_)
  obtain ⟨i, hi, rfl⟩ := List.getElem_of_mem ha
  have := h2 i (by omega)
  rwa [List.getD_eq_getElem?_getD, List.getElem?_eq_getElem hi] at this
theorem s_Sum (n : Net) (h : lenok n.Arcs.length) : Z48 n = some (match Ut 4611686018427387904 n.Arcs with | some l => (4611686018427387904 - l, true) | none => (0, false)) := by
 refine Rz ?_
 unfold Z48
 refine Ok.bind.2 (Z6y (fun s => 0 ≤ s.2 ∧ s.2 ≤ n.Arcs.length ∧ 0 ≤ s.1 ∧ s.1 ≤ 4611686018427387904 ∧ Ut 4611686018427387904 n.Arcs = Ut s.1 (n.Arcs.drop s.2.toNat)) (fun s => (n.Arcs.length - s.2).toNat) ⟨by simp, by simp, by simp, by simp, by simp⟩ (by unfold Xm; simp; omega) ?_)
 rintro ⟨left, x⟩ ⟨h0, h1, h2, h3, h4⟩
 simp only at h0 h1 h2 h3 h4 ⊢
 unfold Z4e Z2v
 refine Ok.ite.2 ⟨fun hx => ?_, fun hx => ?_⟩
 ·
  rw [Zef (by omega)] at h4
  refine Ok.gd.2 ⟨(by omega), Ok.ite.2 ⟨fun hb => ?_, fun hb => ?_⟩⟩
  ·
   rw [if_pos rfl]
   refine Ok.some.2 (Ok.some.2 ?_)
   rw [h4, if_pos (.inl hb)]
  ·
   by_cases hc : left < (n.Arcs.getD x.toNat default).cap
   ·
    rw [if_pos (decide_eq_true hc)]
    refine Ok.some.2 (Ok.some.2 ?_)
    rw [h4, if_pos (.inr hc)]
   ·
    rw [if_neg (by simpa using hc)]
    refine Ok.gd.2 ⟨(by omega), Ok.gd.2 ⟨(by omega), Ok.some.2 ⟨⟨by simp only; omega, by simp only; omega, by simp only; omega, by simp only; omega, ?_⟩, by simp only; omega⟩⟩⟩
    rw [h4, if_neg (by omega)]
    simp only
    rw [show (x + 1).toNat = x.toNat + 1 by omega]
 ·
  unfold Z72
  refine Ok.some.2 (Ok.gd.2 ⟨(by omega), Ok.some.2 ?_⟩)
  rw [h4, List.drop_eq_nil_of_le (by omega)]
  rfl
theorem s_Check (n : Net) (h : lenok n.Arcs.length) : Z4j n = some (Ky n.N n.S n.T n.Arcs) := by
 unfold Z4j Z66 Z7z Z73 Z5k Z5d Z99 Z8e Z78
 rw [Z9s, Z9s, s_of4 n h, s_of5 n h, s_Sum n h]
 unfold Ky
 simp only [Option.bind_some]
 by_cases h1 : 2 ≤ n.N ∧ n.N ≤ 4096
 ·
  rw [if_pos h1.1, if_neg (not_not_intro h1)]
  simp only [Option.bind_some, decide_eq_true h1.2, Bool.not_true, Bool.false_eq_true, if_false]
  by_cases h2 : (n.Arcs.length : Int) ≤ 16384
  ·
   rw [if_neg (by simp [h2]), if_neg (not_not_intro h2)]
   by_cases h3 : Ui n.N n.S = true ∧ Ui n.N n.T = true ∧ n.S ≠ n.T
   ·
    rw [if_pos h3.1, if_pos h3.2.1, if_neg (not_not_intro h3)]
    simp only [Option.bind_some, decide_eq_true h3.2.2, Bool.not_true, Bool.false_eq_true, if_false]
    cases h4 : n.Arcs.all (Kp n.N)
    · simp
    ·
     cases h5 : n.Arcs.all Gm
     · simp
     · cases h6 : Ut 4611686018427387904 n.Arcs <;> simp
   ·
    rw [if_pos h3]
    by_cases a1 : Ui n.N n.S = true
    ·
     by_cases a2 : Ui n.N n.T = true
     ·
      have a3 : ¬ n.S ≠ n.T := fun e => h3 ⟨a1, a2, e⟩
      simp [a1, a2, a3]
     · simp [a1, a2]
    · simp [a1]
  · rw [if_pos (by simp [h2]), if_pos h2]
 ·
  rw [if_pos h1]
  by_cases a1 : 2 ≤ n.N
  ·
   have a2 : ¬ n.N ≤ 4096 := fun e => h1 ⟨a1, e⟩
   simp [a1, a2]
  · simp [a1]
end Go.Acq
namespace Go.Acq
open Go
structure NetIn (n : Net) : Prop where
  nN : i64ok n.N
  nS : i64ok n.S
  nT : i64ok n.T
  arcs : ∀ a, a ∈ n.Arcs → i64ok a.fr ∧ i64ok a.to ∧ i64ok a.cap
  len : n.Arcs.length ≤ 9223372036854775807
structure Made (n : Net) (v a : Int) : Prop where
  check : Ky n.N n.S n.T n.Arcs = 0
  rows : SomeAt n.N.toNat n.Arcs
  verts : n.N ≤ v
  arcs : (n.Arcs.length : Int) ≤ a
  ends : 2 ≤ n.N ∧ 0 ≤ n.S ∧ n.S < n.N ∧ 0 ≤ n.T ∧ n.T < n.N ∧ n.S ≠ n.T
theorem Made.nat {n : Net} {v a : Int} (h : Made n v a) : ∃ m : Nat, n.N = m ∧ SomeAt m n.Arcs := ⟨n.N.toNat, by have := h.ends.1; omega, h.rows⟩
theorem Made.caps {n : Net} {m : Nat} (h : SomeAt m n.Arcs) : ∀ i, i < n.Arcs.length → 0 ≤ (n.Arcs.getD i default).cap ∧ (n.Arcs.getD i default).cap < 1125899906842624 := fun _ hi => (h _ (Z06 hi default)).2
theorem s_Some {n : Net} {v a : Int} (h : NetIn n) (hv0 : 2 ≤ v) (hv1 : v ≤ 4096) (ha0 : 0 ≤ a) (ha1 : a ≤ 4096) : Ok (Z38 n v a) (fun r => Made r v a) := by
 have hN := Z35 (x := n.N) (n := v - 1) (by omega)
 unfold Z38
 refine Ok.gd.2 ⟨(by omega), Ok.bind.2 (Yp (Z30 (by omega)) (Ok.gd.2 ⟨(by omega), ?_⟩))⟩
 obtain ⟨m, hm⟩ : ∃ m : Nat, 2 + Gd n.N (v - 1) = m := ⟨(2 + Gd n.N (v - 1)).toNat, by omega⟩
 rw [hm]
 have hS := Z35 (x := n.S) (n := (m : Int)) (by omega)
 have hT := Z35 (x := n.T) (n := (m : Int)) (by omega)
 refine Ok.bind.2 (Yp (Z30 (by omega)) (Ok.bind.2 (Yp (Z30 (by omega)) ?_)))
 have key : ∀ t : Int, 0 ≤ t → t < m → t ≠ Gd n.S m → Ok (Z23 n a (Gd n.N (v - 1)) (Gd n.S m) t) (fun r => Made r v a) := by
  intro t t0 t1 t2
  unfold Z23
  refine Ok.gd.2 ⟨(by omega), Ok.bind.2 ?_⟩
  obtain ⟨q, hq⟩ : ∃ q : Nat, min (n.Arcs.length : Int) a = q := ⟨(min (n.Arcs.length : Int) a).toNat, by omega⟩
  obtain ⟨al, hal⟩ : ∃ l, l = n.Arcs.take (q : Int).toNat := ⟨_, rfl⟩
  have hlen : al.length = q := by rw [hal, List.length_take]; omega
  have hcap : ∀ b, b ∈ al → i64ok b.cap := fun b hb => (h.arcs b (List.mem_of_mem_take (by rw [← hal]; exact hb))).2.2
  refine Kv (fun s => ∃ k : Nat, s.2 = k ∧ k ≤ q ∧ s.1.length = k ∧ SomeAt m s.1) (fun s => (q - s.2).toNat) ⟨0, rfl, by omega, rfl, fun b hb => by cases hb⟩ (by unfold Xm; simp only; omega) ?_
  rintro ⟨ol, x⟩ ⟨k, h1, h2, h3, h4⟩ P next exit
  simp only at h1 h2 h3 h4 next ⊢
  subst h1
  unfold Z4s
  rw [hq, ← hal]
  simp only [Int.toNat_natCast]
  refine Ok.ite.2 ⟨fun hx => ?_, fun hx => ?_⟩
  ·
   have hkl : k < al.length := by omega
   have hc := hcap _ (Z06 hkl default)
   have hj : ∀ c : Int, 0 ≤ c → Ok (Z1e n a (Gd n.N (v - 1)) ol k c) P := by
    intro c hc0
    unfold Z1e
    rw [hq, ← hal, hm]
    refine Ok.bind.2 (Yp (Z30 (by omega)) (Ok.bind.2 (Yp (Z30 (by omega)) (Ok.gd.2 ⟨?_, Ok.gd.2 ⟨(by omega), Ok.some.2 (next _ ⟨k + 1, by simp, by omega, by simp [h3], ?_⟩ (by simp only; omega))⟩⟩))))
    · rw [List.length_append, h3]; simp only [List.length_cons, List.length_nil]; constructor <;> omega
    · exact h4.put (Z35 (by omega)) (Z35 (by omega)) (Zko hc0 (by omega))
   refine Ok.gd.2 ⟨(by omega), Ok.ite.2 ⟨fun hn => ?_, fun hn => ?_⟩⟩
   · exact Ok.gd.2 ⟨by constructor <;> omega, Ok.gd.2 ⟨by constructor <;> omega, hj (-((al.getD k default).cap + 1)) (by omega)⟩⟩
   · exact hj (al.getD k default).cap (by omega)
  ·
   refine Ok.some.2 (exit _ ?_)
   unfold Z59
   refine Ok.some.2 ?_
   rw [hm]
   exact ⟨Zn7 (by omega) (by omega) hS ⟨t0, t1⟩ t2 h4 (show ol.length ≤ 4096 by omega), by simpa using h4, by simp only; omega, by show (ol.length : Int) ≤ a; omega, ⟨by simp only; omega, hS.1, hS.2, t0, t1, fun e => t2 e.symm⟩⟩
 refine Ok.ite.2 ⟨fun he => ?_, fun he => ?_⟩
 ·
  refine Ok.gd.2 ⟨(by omega), Ok.gd.2 ⟨by omega, ?_⟩⟩
  obtain ⟨n1, n2, n3⟩ := next_ne hS.1 hS.2 (by omega)
  exact key _ n1 n2 n3
 · exact key _ hT.1 hT.2 (fun e => he e.symm)
theorem Zl2 {n : Net} {m : Nat} (hN : n.N = m) (hm : m ≤ 4096) (hl : n.Arcs.length ≤ 16384) (he : Jg m n.Arcs) :
    Ok (Z46 n) (fun fs => fs.length = m + 1 ∧ ∀ u, u ≤ m → fs.getD u 0 = Yw n.Arcs u) := by
  unfold Z46
  simp only [hN]
  refine Ok.gd.2 ⟨(by omega), Ok.gd.2 ⟨(by omega), Ok.bind.2 (Kv (fun s => ∃ k : Nat, s.2 = k ∧ k ≤ n.Arcs.length ∧ Counted n.Arcs m k s.1) (fun s => (n.Arcs.length - s.2).toNat) ⟨0, rfl, by omega, Zk4 n.Arcs m (by omega)⟩ (by unfold Xm; simp only; omega) ?_)⟩⟩
  rintro ⟨fs, x⟩ ⟨k, h1, h2, h3⟩ P next exit
  simp only at h1 h2 h3 next ⊢
  subst h1
  unfold Z4u
  simp only [Int.toNat_natCast]
  refine Ok.ite.2 ⟨fun hx => ?_, fun hx => ?_⟩
  · have hkl : k < n.Arcs.length := by omega
    have hfl := h3.1
    have e0 := he k hkl false
    have e1 := he k hkl true
    simp only [Xg, Bool.false_eq_true, if_false, if_true] at e0 e1
    have c0 := h3.2.2 _ e0.1 e0.2
    have c1 := h3.2.2 _ e1.1 e1.2
    have d0 := Z8h n.Arcs (n.Arcs.getD k default).fr.toNat k
    have d1 := Z8h n.Arcs (n.Arcs.getD k default).to.toNat k
    refine Ok.gd.2 ⟨(by omega), Ok.ite.2 ⟨fun hne => ?_, fun hne => ?_⟩⟩
    · have c2 : (fs.set ((n.Arcs.getD k default).fr + 1).toNat (fs.getD ((n.Arcs.getD k default).fr + 1).toNat 0 + 1)).getD ((n.Arcs.getD k default).to + 1).toNat 0 = cnt n.Arcs (n.Arcs.getD k default).to.toNat k := by rw [Xq (by omega)]; exact c1
      refine Ok.gd.2 ⟨(by omega), Ok.gd.2 ⟨(by omega), Ok.gd.2 ⟨(by omega), Ok.gd.2 ⟨(by omega), Ok.gd.2 ⟨(by omega), Ok.gd.2 ⟨(by simp only [List.length_set, List.length_replicate]; omega), Ok.gd.2 ⟨(by omega), Ok.gd.2 ⟨(by simp only [List.length_set, List.length_replicate]; omega), Ok.gd.2 ⟨(by omega), Ok.some.2 (next _ ⟨k + 1, by simp, by omega, ?_⟩ (by simp only; omega))⟩⟩⟩⟩⟩⟩⟩⟩⟩
      exact h3.put he hkl hne
    · refine Ok.gd.2 ⟨(by omega), Ok.some.2 (next _ ⟨k + 1, by simp, by omega, h3.skip (Classical.not_not.1 hne)⟩ (by simp only; omega))⟩
  · refine Ok.some.2 (exit _ ?_)
    have hk : k = n.Arcs.length := by omega
    subst hk
    unfold Z7k
    refine Ok.bind.2 (Kv (fun s => ∃ v : Nat, s.2 = v ∧ v ≤ m ∧ Summed n.Arcs m v s.1) (fun s => (m - s.2).toNat) ⟨0, rfl, by omega, h3.summed⟩ (by unfold Xm; simp only; omega) ?_)
    rintro ⟨gs, y⟩ ⟨v, g1, g2, g3⟩ P2 next2 exit2
    simp only at g1 g2 g3 next2 ⊢
    subst g1
    unfold Z2m
    simp only [hN, Int.toNat_natCast]
    have hgl := g3.1
    have b0 := g3.2.1 v (Nat.le_refl _)
    refine Ok.ite.2 ⟨fun hv => ?_, fun hv => ?_⟩
    · have b1 := g3.2.2 v (Nat.le_refl _) (by omega)
      have b2 := Zaa (al := n.Arcs) (v := v) (by omega) hl
      have b3 := Z8h n.Arcs v n.Arcs.length
      have b5 : ((v : Int) + 1).toNat = v + 1 := by omega
      simp only [b5]
      refine Ok.gd.2 ⟨(by omega), Ok.gd.2 ⟨(by omega), Ok.gd.2 ⟨(by omega), Ok.gd.2 ⟨(by omega), Ok.gd.2 ⟨(by omega), Ok.gd.2 ⟨(by omega), Ok.some.2 (next2 _ ⟨v + 1, by simp, by omega, ?_⟩ (by simp only; omega))⟩⟩⟩⟩⟩⟩
      exact g3.put (by omega) rfl
    · refine Ok.some.2 (exit2 _ ?_)
      unfold Z8k
      have : v = m := by omega
      subst this
      exact Ok.some.2 ⟨hgl, g3.2.1⟩
structure CsrIs (n : Net) (m : Nat) (c : Csr) : Prop where
  hN : c.N = m
  hS : c.S = n.S
  hT : c.T = n.T
  ok : CsrOK n.Arcs m c.First c.Head c.Rev c.Cap c.Arc c.Back
theorem s_Make {n : Net} {m : Nat} (hN : n.N = m) (hc : Ky n.N n.S n.T n.Arcs = 0) (hl : lenok n.Arcs.length) :
    Ok (Z3w n) (fun r => CsrIs n m r.1 ∧ r.2 = 0) := by
  have hz := Z25 hc
  have hm : m ≤ 4096 := by omega
  have he : Jg m n.Arcs := Zfj (by rw [← hN]; exact hz.2.2.2.1)
  unfold Z3w
  refine Ok.bind.2 (Yp (s_Check n hl) (Ok.ite.2 ⟨fun h => absurd hc h, fun _ => Ok.bind.2 (Ok.mono (Zl2 hN hm (by omega) he) ?_)⟩))
  rintro fs ⟨hfl, hfs⟩
  simp only [hN, Int.toNat_natCast, hfs m (Nat.le_refl _)]
  have hbs := Zaa (al := n.Arcs) (v := m) hm (by omega)
  unfold Z7e
  refine Ok.gd.2 ⟨(by omega), Ok.gd.2 ⟨(by omega), Ok.gd.2 ⟨(by omega), Ok.gd.2 ⟨(by omega), Ok.gd.2 ⟨(by omega), Ok.gd.2 ⟨(by omega), Ok.bind.2 (Ok.gd.2 ⟨(by omega), Ok.some.2 (Ok.bind.2 ?_)⟩)⟩⟩⟩⟩⟩⟩
  refine Kv (fun s => ∃ k : Nat, s.2.2.2.2.2.2 = k ∧ k ≤ n.Arcs.length ∧ MakeAt n.Arcs m k s.2.2.2.2.2.1 s.1 s.2.1 s.2.2.1 s.2.2.2.1 s.2.2.2.2.1) (fun s => (n.Arcs.length - s.2.2.2.2.2.2).toNat) ⟨0, rfl, by omega, Zis hfl hfs⟩ (by unfold Xm; simp only; omega) ?_
  rintro ⟨hs, rs, cs, aa, bs, nx, x⟩ ⟨k, h1, h2, h3⟩ P next exit
  simp only at h1 h2 h3 next ⊢
  subst h1
  unfold Z3g
  simp only [Int.toNat_natCast]
  refine Ok.ite.2 ⟨fun hx => ?_, fun hx => ?_⟩
  · have hkl : k < n.Arcs.length := by omega
    refine Ok.gd.2 ⟨(by omega), Ok.ite.2 ⟨fun heq => ?_, fun hne => ?_⟩⟩
    · exact Ok.gd.2 ⟨(by omega), Ok.some.2 (next _ ⟨k + 1, by simp, by omega, h3.skip heq⟩ (by simp only; omega))⟩
    · have e0 := he k hkl false
      have e1 := he k hkl true
      have n0 := h3.at he hkl false
      have n1 := h3.at he hkl true
      have p0 : pos n.Arcs k false < Yw n.Arcs m := Re hkl hne he
      have p1 : pos n.Arcs k true < Yw n.Arcs m := Re hkl hne he
      simp only [Xg, Bool.false_eq_true, if_false, if_true] at e0 e1 n0 n1
      have hh := h3
      obtain ⟨⟨l0, l1, l2, l3, l4, l5⟩, _, _⟩ := h3
      unfold Z4m
      simp only [n0, Int.toNat_natCast]
      have n2 : (nx.set (n.Arcs.getD k default).fr.toNat ((pos n.Arcs k false : Int) + 1)).getD (n.Arcs.getD k default).to.toNat 0 = (pos n.Arcs k true : Nat) := by rw [Xq (by omega)]; exact n1
      refine Ok.bind.2 (Ok.gd.2 ⟨(by omega), Ok.gd.2 ⟨(by omega), Ok.gd.2 ⟨(by omega), Ok.gd.2 ⟨(by omega), Ok.gd.2 ⟨(by omega), Ok.gd.2 ⟨(by omega), Ok.gd.2 ⟨(by omega), Ok.gd.2 ⟨(by omega), Ok.some.2 (Ok.bind.2 ?_)⟩⟩⟩⟩⟩⟩⟩⟩)
      simp only [n2, Int.toNat_natCast]
      refine Ok.gd.2 ⟨(by simp only [List.length_set, List.length_replicate]; omega), Ok.gd.2 ⟨(by simp only [List.length_set, List.length_replicate]; omega), Ok.gd.2 ⟨(by omega), Ok.gd.2 ⟨(by simp only [List.length_set, List.length_replicate]; omega), Ok.gd.2 ⟨(by simp only [List.length_set, List.length_replicate]; omega), Ok.gd.2 ⟨(by simp only [List.length_set, List.length_replicate]; omega), Ok.gd.2 ⟨(by simp only [List.length_set, List.length_replicate]; omega), Ok.gd.2 ⟨(by simp only [List.length_set, List.length_replicate]; omega), Ok.some.2 (Ok.gd.2 ⟨(by omega), Ok.gd.2 ⟨(by simp only [List.length_set, List.length_replicate]; omega), Ok.gd.2 ⟨(by omega), Ok.some.2 (next _ ⟨k + 1, by simp, by omega, ?_⟩ (by simp only; omega))⟩⟩⟩)⟩⟩⟩⟩⟩⟩⟩⟩
      exact hh.put he hkl hne
  · refine Ok.some.2 (exit _ ?_)
    unfold Z8o
    have hk : k = n.Arcs.length := by omega
    subst hk
    exact Ok.some.2 ⟨⟨hN, rfl, rfl, h3.done hfl hfs⟩, rfl⟩
end Go.Acq
namespace Go.Acq
open Go
end Go.Acq
namespace Go.Acq
open Go
def ex (al : List Arc) (f : List Int) (v : Int) : Nat → Int
  | 0 => 0
  | k + 1 => ex al f v k - (if (al.getD k default).fr = v then f.getD k 0 else 0) + (if (al.getD k default).to = v then f.getD k 0 else 0)
def tot (f : List Int) : Nat → Int
  | 0 => 0
  | k + 1 => tot f k + f.getD k 0
def part (al : List Arc) (f : List Int) (j : Int) : Nat → Int
  | 0 => 0
  | k + 1 => part al f j k - (if (al.getD k default).fr < j then f.getD k 0 else 0) + (if (al.getD k default).to < j then f.getD k 0 else 0)
theorem Zbu {f : List Int} {n : Nat} (h : ∀ i, i < n → 0 ≤ f.getD i 0) : ∀ j k, j ≤ k → k ≤ n → tot f j ≤ tot f k
  | j, 0, hj, _ => by have : j = 0 := by omega
                      subst this; exact Int.le_refl _
  | j, k + 1, hj, hk => by
    rcases Nat.lt_or_ge j (k + 1) with h1 | h1
    · have := Zbu h j k (by omega) (by omega)
      have := h k hk
      simp only [tot]; omega
    · rw [show j = k + 1 by omega]; exact Int.le_refl _
theorem sumL_tot {f : List Int} : ∀ (al : List Arc) (left : Int) (k : Nat), (Ut left (al.drop k)).isSome = true → 0 ≤ left → k ≤ al.length → (∀ i, i < al.length → 0 ≤ f.getD i 0 ∧ f.getD i 0 ≤ (al.getD i default).cap) → tot f al.length - tot f k ≤ left := by
 intro al left k
 induction hn : al.length - k generalizing left k with
 | zero =>
  intro _ h0 hk _
  rw [show k = al.length by omega]; omega
 | succ n ih =>
  intro hs h0 hk hf
  have hkl : k < al.length := by omega
  rw [Zef hkl] at hs
  by_cases hc : (al.getD k default).cap < 0 ∨ left < (al.getD k default).cap
  · rw [if_pos hc] at hs; cases hs
  ·
   rw [if_neg hc] at hs
   have := ih (left - (al.getD k default).cap) (k + 1) (by omega) hs (by omega) (by omega) hf
   have hfk := hf k hkl
   simp only [tot] at this
   omega
def FwithinP (n : Net) (f : List Int) : Prop := Ky n.N n.S n.T n.Arcs = 0 ∧ f.length = n.Arcs.length ∧ ∀ i, i < n.Arcs.length → 0 ≤ f.getD i 0 ∧ f.getD i 0 ≤ (n.Arcs.getD i default).cap
theorem FwithinP.tot {n : Net} {f : List Int} (h : FwithinP n f) : ∀ k, k ≤ n.Arcs.length → 0 ≤ tot f k ∧ tot f k ≤ 4611686018427387904 := by
 intro k hk
 have hz := Z25 h.1
 have h1 := sumL_tot (f := f) n.Arcs 4611686018427387904 0 (by simpa using hz.2.2.2.2.2) (by omega) (by omega) h.2.2
 have h2 := Zbu (fun i hi => (h.2.2 i hi).1) k n.Arcs.length hk (Nat.le_refl _)
 have h3 := Zbu (fun i hi => (h.2.2 i hi).1) 0 k (by omega) hk
 simp only [Acq.tot] at h1 h3
 omega
end Go.Acq
namespace Go.Acq
open Go
theorem Zcg {α : Type} {xs ys : List α} {d : α} {i : Nat} (h : i < xs.length) : (xs ++ ys).getD i d = xs.getD i d := by
 rw [List.getD_eq_getElem?_getD, List.getElem?_append_left h, List.getD_eq_getElem?_getD]
theorem Zfe {α : Type} {xs ys : List α} {d : α} {i : Nat} (h : xs.length ≤ i) : (xs ++ ys).getD i d = ys.getD (i - xs.length) d := by
 rw [List.getD_eq_getElem?_getD, List.getElem?_append_right h, List.getD_eq_getElem?_getD]
theorem pos_row {al : List Arc} {i v : Nat} {s : Bool} (hi : i < al.length) (hne : (al.getD i default).fr ≠ (al.getD i default).to) (h0 : 0 ≤ Xg (al.getD i default) s) (h1 : Yw al v ≤ pos al i s) (h2 : pos al i s < Yw al (v + 1)) : Xg (al.getD i default) s = v ∧ pos al i s = Yw al v + cnt al v i := by
 obtain ⟨u, hu⟩ : ∃ u : Nat, Xg (al.getD i default) s = u := ⟨(Xg (al.getD i default) s).toNat, by omega⟩
 have hcl := Z0f (s := s) hi hne h0
 have hpos : pos al i s = Yw al u + cnt al u i := by unfold pos; rw [hu, Int.toNat_natCast]
 rw [hu, Int.toNat_natCast] at hcl
 have hb1 : Yw al (u + 1) = Yw al u + cnt al u al.length := rfl
 have : u = v := by
  rcases Nat.lt_trichotomy u v with h | h | h
  · have := Z02 (al := al) (show u + 1 ≤ v by omega); omega
  · exact h
  · have := Z02 (al := al) (show v + 1 ≤ u by omega); omega
 subst this
 exact ⟨hu, hpos⟩
end Go.Acq
namespace Go.Acq
open Go
def Uf (c : List Bool) (v : Int) : Bool := c.getD v.toNat false
def acK (al : List Arc) (f : List Int) (c : List Bool) : Nat → Int
  | 0 => 0
  | k + 1 => acK al f c k + (if Uf c (al.getD k default).fr = true ∧ Uf c (al.getD k default).to = false then f.getD k 0 else 0) - (if Uf c (al.getD k default).fr = false ∧ Uf c (al.getD k default).to = true then f.getD k 0 else 0)
def totC (al : List Arc) : Nat → Int
  | 0 => 0
  | k + 1 => totC al k + (al.getD k default).cap
theorem Zey (al : List Arc) : ∀ k, k ≤ al.length → totC al k = tot (al.map (·.cap)) k
 | 0, _ => rfl
 | k + 1, hk => by
  simp only [totC, tot, Zey al k (by omega)]
  rw [List.getD_eq_getElem?_getD, List.getD_eq_getElem?_getD, List.getElem?_map, List.getElem?_eq_getElem (show k < al.length by omega)]; rfl
theorem Zo1 {al : List Arc} {i : Nat} (hi : i < al.length) : (al.map (·.cap)).getD i 0 = (al.getD i default).cap := by
 rw [List.getD_eq_getElem?_getD, List.getD_eq_getElem?_getD, List.getElem?_map, List.getElem?_eq_getElem hi]; rfl
theorem Zjd {n : Net} (h : Ky n.N n.S n.T n.Arcs = 0) (hc : ∀ i, i < n.Arcs.length → 0 ≤ (n.Arcs.getD i default).cap) : FwithinP n (n.Arcs.map (·.cap)) :=
 ⟨h, by simp, fun i hi => by rw [Zo1 hi]; exact ⟨hc i hi, Int.le_refl _⟩⟩
theorem Zgm {n : Net} (h : Ky n.N n.S n.T n.Arcs = 0) : ∀ i, i < n.Arcs.length → 0 ≤ (n.Arcs.getD i default).cap := fun i hi => by
 have := List.all_eq_true.1 (Z25 h).2.2.2.2.1 _ (Z06 hi default)
 simpa [Gm] using this
theorem Zfg {n : Net} (h : Ky n.N n.S n.T n.Arcs = 0) : ∀ k, k ≤ n.Arcs.length → 0 ≤ totC n.Arcs k ∧ totC n.Arcs k ≤ 4611686018427387904 := fun k hk => by
 rw [Zey _ k hk]
 have := (Zjd h (Zgm h)).tot k (by simpa using hk)
 exact this
end Go.Acq
namespace Go.Acq
open Go
inductive Reach (G : Nat → Nat → Prop) (s : Nat) : Nat → Prop
  | refl : Reach G s s
  | step {u v : Nat} : Reach G s u → G u v → Reach G s v
theorem Reach.trans {G : Nat → Nat → Prop} {a b c : Nat} (h : Reach G a b) (g : Reach G b c) : Reach G a c := by
 induction g with
 | refl => exact h
 | step _ h2 ih => exact .step ih h2
theorem Reach.mono {G K : Nat → Nat → Prop} {a b : Nat} (h : Reach G a b) (hk : ∀ u v, G u v → K u v) : Reach K a b := by
 induction h with
 | refl => exact .refl
 | step _ h2 ih => exact .step ih (hk _ _ h2)
def tc (l : List Bool) : Nat → Nat
  | 0 => 0
  | k + 1 => tc l k + if l.getD k false = true then 1 else 0
theorem tc_le (l : List Bool) : ∀ k, tc l k ≤ k
 | 0 => Nat.le_refl _
 | k + 1 => by have := tc_le l k; simp only [tc]; split <;> omega
theorem tc_set {l : List Bool} {i : Nat} (hi : i < l.length) (hf : l.getD i false = false) : ∀ k : Nat, tc (l.set i true) k = tc l k + (if i < k then 1 else 0)
 | 0 => by simp [tc]
 | k + 1 => by
  have ih := tc_set hi hf k
  simp only [tc, ih, Ws]
  by_cases c : i = k
  ·
   subst c
   rw [if_neg (show ¬ i < i by omega), if_pos (show i = i ∧ i < l.length from ⟨rfl, hi⟩), hf, if_pos rfl, if_pos (show i < i + 1 by omega)]; rfl
  ·
   rw [if_neg (show ¬(i = k ∧ i < l.length) from fun h => c h.1)]
   by_cases c2 : i < k
   · rw [if_pos c2, if_pos (show i < k + 1 by omega)]; omega
   · rw [if_neg c2, if_neg (show ¬ i < k + 1 by omega)]; omega
structure MetI (G : Nat → Nat → Prop) (s m : Nat) (xs : List Bool) (row : List Int) : Prop where
  len : xs.length = m
  nat : ∀ q, q < row.length → ∃ v : Nat, row.getD q 0 = v ∧ v < m ∧ xs.getD v false = true ∧ Reach G s v
  has : ∀ v, v < m → xs.getD v false = true → ∃ q, q < row.length ∧ row.getD q 0 = (v : Int)
  cnt : row.length = tc xs m
theorem MetI.le {G : Nat → Nat → Prop} {s m : Nat} {xs : List Bool} {row : List Int} (h : MetI G s m xs row) : row.length ≤ m := by rw [h.cnt]; exact tc_le _ _
theorem MetI.put {G : Nat → Nat → Prop} {s m v : Nat} {xs : List Bool} {row : List Int} (h : MetI G s m xs row) (hv : v < m) (hf : xs.getD v false = false) (hr : Reach G s v) : MetI G s m (xs.set v true) (row ++ [(v : Int)]) := by
 have hl := h.len
 refine ⟨by simp [hl], fun q hq => ?_, fun u hu hx => ?_, ?_⟩
 ·
  rw [List.length_append, List.length_singleton] at hq
  rcases Nat.lt_or_ge q row.length with h1 | h1
  ·
   obtain ⟨u, h2, h3, h4, h5⟩ := h.nat q h1
   refine ⟨u, by rw [Zcg h1]; exact h2, h3, ?_, h5⟩
   rw [Ws]; split
   · rfl
   · exact h4
  ·
   refine ⟨v, ?_, hv, by rw [Ws, if_pos ⟨rfl, by omega⟩], hr⟩
   rw [Zfe h1, show q - row.length = 0 by omega]; rfl
 ·
  rw [Ws] at hx
  by_cases c : v = u
  ·
   refine ⟨row.length, by simp, ?_⟩
   rw [Zfe (Nat.le_refl _), Nat.sub_self, ← c]; rfl
  ·
   rw [if_neg (fun h => c h.1)] at hx
   obtain ⟨q, h1, h2⟩ := h.has u hu hx
   exact ⟨q, by rw [List.length_append]; omega, by rw [Zcg h1]; exact h2⟩
 · rw [List.length_append, List.length_singleton, tc_set (by omega) hf, if_pos hv, h.cnt]
end Go.Acq
namespace Go.Acq
open Go
def Gb (al : List Arc) (f : List Int) (c : List Bool) (j : Int) : Nat → Int
  | 0 => 0
  | k + 1 => Gb al f c j k - (if (al.getD k default).fr < j ∧ Uf c (al.getD k default).fr = false then f.getD k 0 else 0) + (if (al.getD k default).to < j ∧ Uf c (al.getD k default).to = false then f.getD k 0 else 0)
theorem Zdm {al : List Arc} {f : List Int} {c : List Bool} (j : Int) : ∀ k, Gb al f c (j + 1) k = Gb al f c j k + (if Uf c j = false then ex al f j k else 0)
 | 0 => by simp [Gb, ex]
 | k + 1 => by
  have ih := Zdm (al := al) (f := f) (c := c) j k
  simp only [Gb, ex, ih]
  have e1 : ∀ x : Int, (if x < j + 1 ∧ Uf c x = false then f.getD k 0 else 0) = (if x < j ∧ Uf c x = false then f.getD k 0 else 0) + (if x = j ∧ Uf c j = false then f.getD k 0 else 0) := fun x => by
   by_cases h1 : x < j
   ·
    by_cases h3 : Uf c x = false
    · rw [if_pos ⟨by omega, h3⟩, if_pos ⟨h1, h3⟩, if_neg (fun h => by omega)]; omega
    · rw [if_neg (fun h => h3 h.2), if_neg (fun h => h3 h.2), if_neg (fun h => by omega)]; omega
   ·
    by_cases h2 : x = j
    ·
     subst h2
     by_cases h3 : Uf c x = false
     · rw [if_pos ⟨by omega, h3⟩, if_neg (fun h => h1 h.1), if_pos ⟨rfl, h3⟩]; omega
     · rw [if_neg (fun h => h3 h.2), if_neg (fun h => h3 h.2), if_neg (fun h => h3 h.2)]; omega
    · rw [if_neg (fun h => by omega), if_neg (fun h => by omega), if_neg (fun h => h2 h.1)]; omega
  rw [e1, e1]
  by_cases h : Uf c j = false
  ·
   simp only [h, and_true, if_true]
   omega
  ·
   simp only [h, Bool.not_eq_false, and_false, if_false, ite_false, reduceCtorEq]
   omega
theorem Zf6 {al : List Arc} {f : List Int} {c : List Bool} {m : Nat} (he : Jg m al) : ∀ k, k ≤ al.length → Gb al f c 0 k = 0
 | 0, _ => rfl
 | k + 1, hk => by
  have h0 := he k hk false
  have h1 := he k hk true
  simp only [Xg, Bool.false_eq_true, if_false, if_true] at h0 h1
  simp only [Gb, Zf6 he k (by omega)]
  rw [if_neg (fun h => by omega), if_neg (fun h => by omega)]; rfl
theorem Zdr {al : List Arc} {f : List Int} {c : List Bool} {m : Nat} (he : Jg m al) : ∀ k, k ≤ al.length → Gb al f c m k = acK al f c k
 | 0, _ => rfl
 | k + 1, hk => by
  have h0 := he k hk false
  have h1 := he k hk true
  simp only [Xg, Bool.false_eq_true, if_false, if_true] at h0 h1
  simp only [Gb, acK, Zdr he k (by omega)]
  obtain ⟨A, hA⟩ : ∃ A, al.getD k default = A := ⟨_, rfl⟩
  obtain ⟨F, hF⟩ : ∃ F, f.getD k 0 = F := ⟨_, rfl⟩
  rw [hA] at h0 h1 ⊢
  rw [hF]
  cases a : Uf c A.fr <;> cases b : Uf c A.to <;> simp [h0.2, h1.2] <;> omega
end Go.Acq
namespace Go.Acq
open Go
structure Pre where
  Res : List Int
  Ex : List Int
  H : List Int
  deriving DecidableEq
instance : Inhabited Pre := ⟨⟨default, default, default⟩⟩
def Z5b (c0 : Csr) (u1 : Int) : Option (Unit) :=
  some ()
def Zgd {S_ X_ : Type} (a3 : S_ → Int → Option (S_ ⊕ X_)) (c1 : Csr) (c2 : Int) (a2 : Int) (a1 : S_ ⊕ X_) : Option ((Int × (S_ ⊕ X_)) ⊕ ((S_ ⊕ X_))) :=
  gd (i64ok (c2 + 1)) <|
  gd (inb (c2 + 1) c1.First.length) <|
  if a2 < (c1.First.getD (c2 + 1).toNat 0) then
  (Option.bind (yieldM a3 a1 a2) fun a0 =>
  if (!a0.isLeft) = true then
  (some (.inr a0))
  else
  gd (i64ok (a2 + 1)) <|
  some (.inl ((a2 + 1), a0)))
  else
  some (.inr a1)
def Z8b {S_ X_ : Type} (a0 : S_ → Int → Option (S_ ⊕ X_)) (c1 : Csr) (c2 : Int) (a1 : S_ ⊕ X_) : Option ((S_ ⊕ X_)) :=
  gd (inb c2 c1.First.length) <|
  Option.bind (Wa (fun s => Zgd a0 c1 c2 s.1 s.2) Xm ((c1.First.getD c2.toNat 0), a1)) fun p1_0_0 => some p1_0_0
def Z7x (c0 : Csr) (p1 : Pre) (u2 : Int) : Option (Bool) :=
  if u2 ≠ c0.S then
  (if u2 ≠ c0.T then
  (gd (inb u2 p1.Ex.length) <|
  some (decide (0 < (p1.Ex.getD u2.toNat 0))))
  else
  some false)
  else
  some false
def Z74 (c0 : Csr) (p1 : Pre) (u2 a3 : Int) : Option (Bool) :=
  gd (inb a3 p1.Res.length) <|
  if 0 < (p1.Res.getD a3.toNat 0) then
  (gd (inb u2 p1.H.length) <|
  gd (inb a3 c0.Head.length) <|
  gd (inb (c0.Head.getD a3.toNat 0) p1.H.length) <|
  gd (i64ok ((p1.H.getD (c0.Head.getD a3.toNat 0).toNat 0) + 1)) <|
  some (decide ((p1.H.getD u2.toNat 0) = ((p1.H.getD (c0.Head.getD a3.toNat 0).toNat 0) + 1))))
  else
  some false
def Zg1 (c0 : Csr) (p1 : Pre) (u2 a0 : Int) : Option ((Unit) ⊕ (Unit)) :=
  Option.bind (Z74 c0 p1 u2 a0) fun a1 =>
  if a1 = true then
  (some (.inr ()))
  else
  some (.inl ())
def Zao (c0 : Csr) (p1 : Pre) (u2 : Int) : Option (Bool) :=
  Option.bind (Z5b c0 u2) fun _ =>
  Option.bind (Z8b (fun s v => Zg1 c0 p1 u2 v) c0 u2 (.inl ())) fun t => match t with | .inl _ => (Option.bind (Z7x c0 p1 u2) fun a0 => some a0) | .inr _ => (some false)
def Zdg (u0 : Int) (c1 : Csr) (c2 : Pre) : Option (Bool) :=
  Option.bind (Zao c1 c2 u0) fun r1 =>
  some r1
def Zb4 (c0 a2 : Csr) (a3 : Pre) (a0 : List Int) (a1 : Int) : Option ((List Int × Int) ⊕ (List Int)) :=
  if a1 < c0.N then
  (Option.bind (Zdg a1 a2 a3) fun a4 =>
  if a4 = true then
  (gd (apok (a0 ++ ([a1])).length 8) <|
  gd (i64ok (a1 + 1)) <|
  some (.inl ((a0 ++ ([a1])), (a1 + 1))))
  else
  gd (i64ok (a1 + 1)) <|
  some (.inl (a0, (a1 + 1))))
  else
  some (.inr a0)
def Zd2 (a0 : List Int) : Option (List Int) :=
  some a0
def Zd9 (c0 a1 : Csr) (a0 : Pre) : Option (List Int) :=
  Option.bind (Wa (fun s => Zb4 c0 a1 a0 s.1 s.2) Xm ([], 0)) fun p1_0_0 => Zd2 p1_0_0
def Z6g (a0 : List Int) (a1 : Int) (a2 : Bool) : Option ((List Int) ⊕ (Empty)) :=
  if a2 = true then
  (gd (apok (a0 ++ ([a1])).length 8) <|
  some (.inl (a0 ++ ([a1]))))
  else
  some (.inl a0)
def Zdd (c0 : Csr) (p1 : Pre) (a2 : Int) (a0 : List Int) (a1 : Int) : Option ((List Int) ⊕ (Empty)) :=
  Option.bind (Z7x c0 p1 a2) fun a3 =>
  if a3 = true then
  (Option.bind (Z74 c0 p1 a2 a1) fun a4 =>
  Z6g a0 a1 a4)
  else
  Z6g a0 a1 false
def Zdu (c0 : Csr) (p1 : Pre) (a1 : List Int) (a0 : Int) : Option ((List Int × Int) ⊕ (List Int)) :=
  if a0 < c0.N then
  (Option.bind (Z5b c0 a0) fun _ =>
  Option.bind (Z8b (fun s v => Zdd c0 p1 a0 s v) c0 a0 (.inl a1)) fun t => match t with | .inl a2 => (gd (i64ok (a0 + 1)) <| some (.inl (a2, (a0 + 1)))) | .inr x => nomatch x)
  else
  some (.inr a1)
def Ze1 (c0 : Csr) (p1 : Pre) (a0 : List Int) : Option (List Int × List Int) :=
  Option.bind (Zd9 c0 c0 p1) fun a1 =>
  some (a0, a1)
def Zbn (c0 : Csr) (p1 : Pre) : Option (List Int × List Int) :=
  Option.bind (Wa (fun s => Zdu c0 p1 s.1 s.2) Xm ([], 0)) fun p1_0_0 => Ze1 c0 p1 p1_0_0
end Go.Acq
namespace Go.Acq
open Go
def Ww (g : Nat → Int) : Nat → Int
  | 0 => 0
  | k + 1 => Ww g k + g k
theorem Z9m {g h : Nat → Int} : ∀ {k : Nat}, (∀ i, i < k → g i = h i) → Ww g k = Ww h k
 | 0, _ => rfl
 | k + 1, e => by simp only [Ww]; rw [Z9m fun i hi => e i (by omega), e k (by omega)]
theorem Z61 (g h : Nat → Int) : ∀ k, Ww (fun i => g i + h i) k = Ww g k + Ww h k
 | 0 => rfl
 | k + 1 => by simp only [Ww, Z61 g h k]; omega
theorem Zal {g : Nat → Int} {k : Nat} (h : ∀ i, i < k → g i = 0) : Ww g k = 0 := by
 induction k with
 | zero => rfl
 | succ k ih => simp only [Ww]; rw [ih fun i hi => h i (by omega), h k (by omega)]; rfl
theorem Z55 {g : Nat → Int} {i : Nat} : ∀ {k : Nat}, i < k → (∀ j, j < k → j ≠ i → g j = 0) → Ww g k = g i
 | 0, h, _ => by omega
 | k + 1, h, e => by
  simp only [Ww]
  by_cases c : i = k
  · subst c; rw [Zal fun j hj => e j (by omega) (by omega)]; omega
  · rw [Z55 (show i < k by omega) fun j hj hne => e j (by omega) hne, e k (by omega) (fun h => c h.symm)]; omega
theorem Zeq (F : Nat → Nat → Int) (K : Nat) : ∀ L, Ww (fun j => Ww (fun i => F i j) K) L = Ww (fun i => Ww (fun j => F i j) L) K
 | 0 => (Zal fun _ _ => rfl).symm
 | L + 1 => by
  simp only [Ww]
  rw [Zeq F K L, ← Z61]
theorem Zfs {g h : Nat → Int} : ∀ {k : Nat}, (∀ i, i < k → g i ≤ h i) → Ww g k ≤ Ww h k
 | 0, _ => Int.le_refl _
 | k + 1, e => by
  have := Zfs (k := k) fun i hi => e i (by omega)
  have := e k (by omega)
  simp only [Ww]; omega
theorem posSum {al : List Arc} {m : Nat} (he : Jg m al) (g : Nat → Int) : Ww g (Yw al m) = Ww (fun i => if (al.getD i default).fr = (al.getD i default).to then 0 else g (pos al i false) + g (pos al i true)) al.length := by
 let F : Nat → Nat → Int := fun i j => if (al.getD i default).fr = (al.getD i default).to then 0 else (if pos al i false = j then g j else 0) + (if pos al i true = j then g j else 0)
 have e1 : Ww g (Yw al m) = Ww (fun j => Ww (fun i => F i j) al.length) (Yw al m) := by
  refine Z9m fun j hj => ?_
  obtain ⟨i, s, hi, hne, hp, _⟩ := Zgo (al := al) hj
  rw [Z55 (i := i) hi]
  ·
   simp only [F]
   rw [if_neg hne]
   cases s
   ·
    have h2 : pos al i true ≠ j := fun e => by have := (Gn he hi hi hne hne (hp.trans e.symm)).2; cases this
    rw [if_pos hp, if_neg h2]; omega
   ·
    have h2 : pos al i false ≠ j := fun e => by have := (Gn he hi hi hne hne (hp.trans e.symm)).2; cases this
    rw [if_neg h2, if_pos hp]; omega
  ·
   intro i' hi' hii
   simp only [F]
   by_cases c : (al.getD i' default).fr = (al.getD i' default).to
   · rw [if_pos c]
   · rw [if_neg c, if_neg fun e => hii (Gn he hi' hi c hne (e.trans hp.symm)).1, if_neg fun e => hii (Gn he hi' hi c hne (e.trans hp.symm)).1]; rfl
 rw [e1, Zeq]
 refine Z9m fun i hi => ?_
 by_cases c : (al.getD i default).fr = (al.getD i default).to
 ·
  rw [if_pos c]
  exact Zal fun j _ => by simp only [F]; rw [if_pos c]
 ·
  rw [if_neg c]
  have e2 : Ww (fun j => F i j) (Yw al m) = Ww (fun j => (if pos al i false = j then g j else 0) + (if pos al i true = j then g j else 0)) (Yw al m) := Z9m fun j _ => by simp only [F]; rw [if_neg c]
  rw [e2, Z61, Z55 (i := pos al i false) (Re hi c he) fun j _ hj => if_neg fun e => hj e.symm, Z55 (i := pos al i true) (Re hi c he) fun j _ hj => if_neg fun e => hj e.symm, if_pos rfl, if_pos rfl]
def hd (c : Csr) (j : Nat) : Nat := (c.Head.getD j 0).toNat
def rv (c : Csr) (j : Nat) : Nat := (c.Rev.getD j 0).toNat
def fs (c : Csr) (v : Nat) : Nat := (c.First.getD v 0).toNat
def tl (c : Csr) (j : Nat) : Nat := hd c (rv c j)
def bk (c : Csr) (j : Nat) : Bool := c.Back.getD j false
def cp (c : Csr) (j : Nat) : Int := max (c.Cap.getD j 0) (c.Cap.getD (rv c j) 0)
structure Row (n : Net) (m L : Nat) (c : Csr) : Prop where
  is : CsrIs n m c
  chk : Ky n.N n.S n.T n.Arcs = 0
  hm : n.N = m
  hL : Yw n.Arcs m = L
section row
variable {n : Net} {m L : Nat} {c : Csr}
theorem Row.he (r : Row n m L c) : Jg m n.Arcs := Zfj (by rw [← r.hm]; exact (Z25 r.chk).2.2.2.1)
theorem Row.bd (r : Row n m L c) : 2 ≤ m ∧ m ≤ 4096 ∧ n.Arcs.length ≤ 16384 ∧ L ≤ 67108864 := by
 have hz := Z25 r.chk
 have := r.hm
 have hb := Zaa (al := n.Arcs) (v := m) (by omega) (by omega)
 have := r.hL
 omega
theorem Row.ends (r : Row n m L c) : (∃ S : Nat, n.S = S ∧ c.S = S ∧ S < m) ∧ (∃ T : Nat, n.T = T ∧ c.T = T ∧ T < m) ∧ n.S ≠ n.T ∧ c.N = m := by
 have hz := Z25 r.chk
 simp only [Ui, decide_eq_true_eq] at hz
 have h1 := r.hm
 have h2 := r.is.hS
 have h3 := r.is.hT
 exact ⟨⟨n.S.toNat, by omega, by omega, by omega⟩, ⟨n.T.toNat, by omega, by omega, by omega⟩, hz.2.2.1.2.2, r.is.hN⟩
theorem Row.caps (r : Row n m L c) : ∀ i, i < n.Arcs.length → 0 ≤ (n.Arcs.getD i default).cap ∧ (n.Arcs.getD i default).cap ≤ 4611686018427387904 := fun i hi => by
 have h0 := Zgm r.chk i hi
 have h1 := Zfg r.chk (i + 1) hi
 have h2 := Zfg r.chk i (by omega)
 simp only [totC] at h1
 omega
theorem Row.lens (r : Row n m L c) : c.First.length = m + 1 ∧ c.Head.length = L ∧ c.Rev.length = L ∧ c.Cap.length = L ∧ c.Arc.length = L ∧ c.Back.length = L := by
 have h := r.is.ok
 rw [← r.hL]
 exact ⟨h.lf, h.lh, h.lr, h.lc, h.la, h.lb⟩
theorem Row.at (r : Row n m L c) {j : Nat} (hj : j < L) : ∃ i s, i < n.Arcs.length ∧ (n.Arcs.getD i default).fr ≠ (n.Arcs.getD i default).to ∧ pos n.Arcs i s = j ∧ c.Head.getD j 0 = (hd c j : Nat) ∧ (hd c j : Int) = Xg (n.Arcs.getD i default) (!s) ∧ (tl c j : Int) = Xg (n.Arcs.getD i default) s ∧
    c.Rev.getD j 0 = (rv c j : Nat) ∧ rv c j = pos n.Arcs i (!s) ∧ c.Cap.getD j 0 = (if s then 0 else (n.Arcs.getD i default).cap) ∧ c.Arc.getD j 0 = i ∧ bk c j = s := by
  obtain ⟨i, s, hi, hne, hp, q1, q2, q3, q4, q5⟩ := r.is.ok.place (by rw [r.hL]; exact hj)
  have hv := r.he i hi (!s)
  have hv2 := r.he i hi s
  have hr : rv c j = pos n.Arcs i (!s) := by unfold rv; rw [q2, Int.toNat_natCast]
  refine ⟨i, s, hi, hne, hp, by unfold hd; omega, by unfold hd; omega, ?_, by unfold rv; omega, hr, q3, q4, q5⟩
  unfold tl hd
  rw [hr, (r.is.ok.hat i hi hne (!s)).1, Bool.not_not]; omega
theorem Row.head (r : Row n m L c) {j : Nat} (hj : j < L) : c.Head.getD j 0 = (hd c j : Nat) ∧ hd c j < m := by
 obtain ⟨i, s, hi, hne, hp, q1, q2, q3, q4, q5, q6, q7, q8⟩ := r.at hj
 have hv := r.he i hi (!s)
 exact ⟨q1, by omega⟩
theorem Row.rev (r : Row n m L c) {j : Nat} (hj : j < L) : c.Rev.getD j 0 = (rv c j : Nat) ∧ rv c j < L ∧ rv c (rv c j) = j ∧ rv c j ≠ j := by
 obtain ⟨i, s, hi, hne, hp, q1, q2, q3, q4, q5, q6, q7, q8⟩ := r.at hj
 have hq : pos n.Arcs i (!s) < L := by rw [← r.hL]; exact Re hi hne r.he
 refine ⟨q4, by rw [q5]; exact hq, ?_, fun e => ?_⟩
 ·
  have := (r.is.ok.hat i hi hne (!s)).2.1
  rw [q5]; unfold rv; rw [this, Int.toNat_natCast, Bool.not_not, hp]
 ·
  have := (Gn r.he hi hi hne hne (q5.symm.trans (e.trans hp.symm))).2
  cases s <;> cases this
theorem Row.tlh (r : Row n m L c) {j : Nat} (hj : j < L) : tl c j < m ∧ tl c (rv c j) = hd c j ∧ hd c (rv c j) = tl c j ∧ tl c j ≠ hd c j := by
 obtain ⟨i, s, hi, hne, hp, q1, q2, q3, q4, q5, q6, q7, q8⟩ := r.at hj
 have hv := r.he i hi s
 refine ⟨by omega, ?_, rfl, fun e => ?_⟩
 · unfold tl; rw [(r.rev hj).2.2.1]
 ·
  apply hne
  have : Xg (n.Arcs.getD i default) s = Xg (n.Arcs.getD i default) (!s) := by omega
  cases s <;> simpa [Xg, eq_comm] using this
theorem Row.back (r : Row n m L c) {j : Nat} (hj : j < L) : bk c (rv c j) = !bk c j := by
 obtain ⟨i, s, hi, hne, hp, q1, q2, q3, q4, q5, q6, q7, q8⟩ := r.at hj
 unfold bk at q8 ⊢
 rw [q5, (r.is.ok.hat i hi hne (!s)).2.2.2.2, q8]
theorem Row.first (r : Row n m L c) : (∀ v, v ≤ m → c.First.getD v 0 = (fs c v : Nat) ∧ fs c v = Yw n.Arcs v) ∧ fs c 0 = 0 ∧ fs c m = L ∧ ∀ v, v < m → fs c v ≤ fs c (v + 1) ∧ fs c (v + 1) ≤ L := by
 have h : ∀ v, v ≤ m → c.First.getD v 0 = (fs c v : Nat) ∧ fs c v = Yw n.Arcs v := fun v hv => by
  have := r.is.ok.hf v hv
  unfold fs; rw [this, Int.toNat_natCast]; exact ⟨rfl, rfl⟩
 refine ⟨h, by rw [(h 0 (by omega)).2]; rfl, by rw [(h m (Nat.le_refl _)).2]; exact r.hL, fun v hv => ?_⟩
 rw [(h v (by omega)).2, (h (v + 1) (by omega)).2, ← r.hL]
 exact ⟨Z02 (by omega), Z02 (by omega)⟩
theorem Row.range (r : Row n m L c) {j u : Nat} (hj : j < L) (hu : u < m) : (fs c u ≤ j ∧ j < fs c (u + 1)) ↔ tl c j = u := by
 obtain ⟨i, s, hi, hne, hp, q1, q2, q3, q4, q5, q6, q7, q8⟩ := r.at hj
 have hv := r.he i hi s
 have f1 := (r.first.1 u (by omega)).2
 have f2 := (r.first.1 (u + 1) (by omega)).2
 constructor
 ·
  rintro ⟨h1, h2⟩
  have := (pos_row (v := u) hi hne hv.1 (by omega) (by omega)).1
  omega
 ·
  intro h
  have hcl := Z0f (s := s) hi hne hv.1
  have hpos : pos n.Arcs i s = Yw n.Arcs (Xg (n.Arcs.getD i default) s).toNat + cnt n.Arcs (Xg (n.Arcs.getD i default) s).toNat i := rfl
  have e : (Xg (n.Arcs.getD i default) s).toNat = u := by omega
  rw [e] at hcl hpos
  have hb1 : Yw n.Arcs (u + 1) = Yw n.Arcs u + cnt n.Arcs u n.Arcs.length := rfl
  omega
theorem Row.cap (r : Row n m L c) {j : Nat} (hj : j < L) : 0 ≤ c.Cap.getD j 0 ∧ c.Cap.getD j 0 + c.Cap.getD (rv c j) 0 = cp c j ∧ cp c (rv c j) = cp c j ∧ 0 ≤ cp c j ∧ cp c j ≤ 4611686018427387904 ∧ (bk c j = true → c.Cap.getD j 0 = 0) := by
 obtain ⟨i, s, hi, hne, hp, q1, q2, q3, q4, q5, q6, q7, q8⟩ := r.at hj
 have hc := r.caps i hi
 have h2 : c.Cap.getD (rv c j) 0 = if (!s) then 0 else (n.Arcs.getD i default).cap := by rw [q5]; exact (r.is.ok.hat i hi hne (!s)).2.2.1
 have h3 := (r.rev hj).2.2.1
 unfold cp
 rw [h3, q6, h2, q8]
 cases s
 · simp only [Bool.not_false, if_true, Bool.false_eq_true, if_false, false_implies, and_true]; omega
 · simp only [Bool.not_true, if_true, Bool.false_eq_true, if_false, true_implies, and_true]; omega
theorem Row.cpPos (r : Row n m L c) {i : Nat} (hi : i < n.Arcs.length) (hne : (n.Arcs.getD i default).fr ≠ (n.Arcs.getD i default).to) (s : Bool) : cp c (pos n.Arcs i s) = (n.Arcs.getD i default).cap ∧ rv c (pos n.Arcs i s) = pos n.Arcs i (!s) ∧ pos n.Arcs i s < L := by
 have z := r.is.ok.hat i hi hne s
 have z2 := r.is.ok.hat i hi hne (!s)
 have hc := r.caps i hi
 have hr : rv c (pos n.Arcs i s) = pos n.Arcs i (!s) := by unfold rv; rw [z.2.1, Int.toNat_natCast]
 refine ⟨?_, hr, by rw [← r.hL]; exact Re hi hne r.he⟩
 unfold cp
 rw [hr, z.2.2.1, z2.2.2.1]
 cases s <;> simp only [Bool.not_true, Bool.not_false, if_true, Bool.false_eq_true, if_false] <;> omega
theorem s_arcs {S X : Type} {y : S → Int → Option (S ⊕ X)} {s0 : S} {u : Nat} (r : Row n m L c) (hu : u < m) (I : Nat → S → Prop) (J : X → Prop) (h0 : I (fs c u) s0)
    (hstep : ∀ j s, fs c u ≤ j → j < fs c (u + 1) → I j s → Ok (y s (j : Nat)) (fun t => match t with | .inl s' => I (j + 1) s' | .inr x => J x)) :
    Ok (Z8b y c (u : Nat) (.inl s0)) (fun t => match t with | .inl s => I (fs c (u + 1)) s | .inr x => J x) := by
  have lf := r.lens.1
  have b := r.bd
  have f1 := (r.first.1 u (by omega)).1
  have f2 := (r.first.1 (u + 1) (by omega)).1
  have f3 := r.first.2.2.2 u hu
  have e1 : ((u : Int) + 1).toNat = u + 1 := by omega
  unfold Z8b
  simp only [Int.toNat_natCast, f1]
  refine Ok.gd.2 ⟨(by omega), Ok.bind.2 (Kv (fun s => ∃ (k : Nat) (st : S), s = ((k : Int), Sum.inl st) ∧ fs c u ≤ k ∧ k ≤ fs c (u + 1) ∧ I k st) (fun s => (fs c (u + 1) - s.1).toNat) ⟨fs c u, s0, rfl, Nat.le_refl _, f3.1, h0⟩ (by unfold Xm; simp only; omega) ?_)⟩
  rintro s ⟨k, st, rfl, hk0, hk, hI⟩ P next exit
  unfold Zgd
  simp only [Int.toNat_natCast, e1, f2]
  refine Ok.gd.2 ⟨(by omega), Ok.gd.2 ⟨(by omega), Ok.ite.2 ⟨fun hx => ?_, fun hx => Ok.some.2 (exit _ (Ok.some.2 ?_))⟩⟩⟩
  · refine Ok.bind.2 ?_
    show Ok (y st _) _
    refine Ok.mono (hstep k st hk0 (by omega) hI) ?_
    rintro (s' | x) hr
    · exact Ok.ite.2 ⟨fun h => by simp at h, fun _ => Ok.gd.2 ⟨(by omega), Ok.some.2 (next _ ⟨k + 1, s', by simp, by omega, by omega, hr⟩ (by simp only; omega))⟩⟩
    · exact Ok.ite.2 ⟨fun _ => Ok.some.2 (exit _ (Ok.some.2 hr)), fun h => by simp at h⟩
  · obtain rfl : k = fs c (u + 1) := by omega
    exact hI
def Jb (al : List Arc) (R : List Int) : List Int := (List.range al.length).map fun i => if (al.getD i default).fr = (al.getD i default).to then 0 else R.getD (pos al i true) 0
theorem flN_len (al : List Arc) (R : List Int) : (Jb al R).length = al.length := by simp [Jb]
theorem Z60 {al : List Arc} {R : List Int} {i : Nat} (h : i < al.length) : (Jb al R).getD i 0 = if (al.getD i default).fr = (al.getD i default).to then 0 else R.getD (pos al i true) 0 := by
 unfold Jb
 rw [List.getD_eq_getElem?_getD, List.getElem?_map, List.getElem?_range h]; rfl
structure ResOK (n : Net) (m L : Nat) (c : Csr) (R X : List Int) : Prop where
  lr : R.length = L
  lx : X.length = m
  res : ∀ j, j < L → 0 ≤ R.getD j 0 ∧ R.getD j 0 + R.getD (rv c j) 0 = cp c j
  ex : ∀ v : Nat, v < m → X.getD v 0 = ex n.Arcs (Jb n.Arcs R) v n.Arcs.length
theorem Znh {R : List Int} (r : Row n m L c) (h : ∀ j, j < L → 0 ≤ R.getD j 0 ∧ R.getD j 0 + R.getD (rv c j) 0 = cp c j) : FwithinP n (Jb n.Arcs R) := by
 refine ⟨r.chk, flN_len _ _, fun i hi => ?_⟩
 rw [Z60 hi]
 have hc := r.caps i hi
 by_cases e : (n.Arcs.getD i default).fr = (n.Arcs.getD i default).to
 · rw [if_pos e]; omega
 ·
  rw [if_neg e]
  obtain ⟨a1, a2, a3⟩ := r.cpPos hi e true
  have h1 := h _ a3
  have h2 := h _ (r.rev a3).2.1
  omega
theorem ResOK.within {R X : List Int} (h : ResOK n m L c R X) (r : Row n m L c) : FwithinP n (Jb n.Arcs R) := Znh r h.res
def mvR (c : Csr) (R : List Int) (j : Nat) (d : Int) : List Int := (R.set j (R.getD j 0 - d)).set (rv c j) (R.getD (rv c j) 0 + d)
def mvX (c : Csr) (X : List Int) (j : Nat) (d : Int) : List Int := (X.set (tl c j) (X.getD (tl c j) 0 - d)).set (hd c j) (X.getD (hd c j) 0 + d)
theorem Z64 {R : List Int} {j k : Nat} {d : Int} (r : Row n m L c) (hl : R.length = L) (hj : j < L) : (mvR c R j d).getD k 0 = if k = rv c j then R.getD (rv c j) 0 + d else if k = j then R.getD j 0 - d else R.getD k 0 := by
 have := r.rev hj
 unfold mvR
 rw [Ws, Ws, List.length_set]
 by_cases c1 : k = rv c j
 · rw [if_pos ⟨c1.symm, by omega⟩, if_pos c1]
 ·
  rw [if_neg fun h => c1 h.1.symm, if_neg c1]
  by_cases c2 : k = j
  · rw [if_pos ⟨c2.symm, by omega⟩, if_pos c2]
  · rw [if_neg fun h => c2 h.1.symm, if_neg c2]
theorem Zct {X : List Int} {j k : Nat} {d : Int} (r : Row n m L c) (hl : X.length = m) (hj : j < L) : (mvX c X j d).getD k 0 = X.getD k 0 - (if tl c j = k then d else 0) + (if hd c j = k then d else 0) := by
 have h1 := r.tlh hj
 have h2 := r.head hj
 unfold mvX
 rw [Ws, Ws, List.length_set]
 by_cases c1 : hd c j = k
 ·
  subst c1
  rw [if_pos ⟨rfl, by omega⟩, if_neg h1.2.2.2, if_pos rfl]; omega
 ·
  rw [if_neg fun h => c1 h.1]
  by_cases c2 : tl c j = k
  ·
   subst c2
   rw [if_pos ⟨rfl, by omega⟩, if_pos rfl, if_neg c1]; omega
  · rw [if_neg fun h => c2 h.1, if_neg c2, if_neg c1]; omega
theorem ex_bump {al : List Arc} {f g : List Int} {i : Nat} {δ : Int} {K : Nat} (v : Int) (hi : i < K) (h : ∀ k, k < K → g.getD k 0 = f.getD k 0 + if k = i then δ else 0) :
    ex al g v K = ex al f v K + ((if (al.getD i default).to = v then δ else 0) - (if (al.getD i default).fr = v then δ else 0)) := by
  have key : ∀ k, k ≤ K → ex al g v k = ex al f v k + if i < k then ((if (al.getD i default).to = v then δ else 0) - (if (al.getD i default).fr = v then δ else 0)) else 0 := by
    intro k
    induction k with
    | zero => intro _; rw [if_neg (by omega)]; rfl
    | succ k ih =>
      intro hk
      simp only [ex]
      rw [ih (by omega), h k (by omega)]
      by_cases e : k = i
      · subst e
        rw [if_neg (show ¬ k < k by omega), if_pos rfl, if_pos (show k < k + 1 by omega)]
        split <;> split <;> omega
      · rw [if_neg e]
        by_cases e2 : i < k
        · rw [if_pos e2, if_pos (show i < k + 1 by omega)]; simp only [Int.add_zero]; omega
        · rw [if_neg e2, if_neg (show ¬ i < k + 1 by omega)]; simp only [Int.add_zero]
  rw [key K (Nat.le_refl _), if_pos hi]
theorem ResOK.move {R X : List Int} {j : Nat} {d : Int} (h : ResOK n m L c R X) (r : Row n m L c) (hj : j < L) (d0 : 0 ≤ d) (d1 : d ≤ R.getD j 0) : ResOK n m L c (mvR c R j d) (mvX c X j d) := by
 have hr := r.rev hj
 have hlr := h.lr
 have hlx := h.lx
 refine ⟨by simp [mvR, hlr], by simp [mvX, hlx], fun k hk => ?_, fun v hv => ?_⟩
 ·
  have hk2 := r.rev hk
  have a := h.res k hk
  have a2 := h.res _ hr.2.1
  have a3 := h.res j hj
  have a4 := r.cap hj
  rw [Z64 r hlr hj, Z64 r hlr hj]
  by_cases c1 : k = rv c j
  ·
   subst c1
   rw [if_pos rfl, hr.2.2.1, if_neg fun e => hr.2.2.2 e.symm, if_pos rfl, a4.2.2.1]; omega
  ·
   by_cases c2 : k = j
   ·
    subst c2
    rw [if_neg c1, if_pos rfl, if_pos rfl]; omega
   ·
    have c3 : rv c k ≠ rv c j := fun e => c2 (by rw [← hk2.2.2.1, e, hr.2.2.1])
    have c4 : rv c k ≠ j := fun e => c1 (by rw [← e, hk2.2.2.1])
    rw [if_neg c1, if_neg c2, if_neg c3, if_neg c4]; exact a
 ·
  obtain ⟨i, s, hi, hne, hp, q1, q2, q3, q4, q5, q6, q7, q8⟩ := r.at hj
  rw [Zct r hlx hj, h.ex v hv, ex_bump (f := Jb n.Arcs R) (g := Jb n.Arcs (mvR c R j d)) (i := i) (δ := if s then -d else d) (v : Int) hi fun k hk => ?_]
  ·
   have t1 : (tl c j = v) ↔ Xg (n.Arcs.getD i default) s = (v : Int) := by rw [← q3]; omega
   have t2 : (hd c j = v) ↔ Xg (n.Arcs.getD i default) (!s) = (v : Int) := by rw [← q2]; omega
   simp only [t1, t2]
   cases s <;> simp only [Xg, Bool.not_false, Bool.not_true, if_true, if_false, Bool.false_eq_true] <;> split <;> split <;> omega
  ·
   rw [Z60 hk, Z60 hk]
   by_cases e : (n.Arcs.getD k default).fr = (n.Arcs.getD k default).to
   ·
    have : k ≠ i := fun e2 => by subst e2; exact hne e
    rw [if_pos e, if_pos e, if_neg this]; rfl
   ·
    rw [if_neg e, if_neg e, Z64 r hlr hj]
    by_cases e2 : k = i
    ·
     subst e2
     cases s
     ·
      have b1 : pos n.Arcs k true = rv c j := by rw [q5]; rfl
      rw [if_pos b1, if_pos rfl, b1]; rfl
     ·
      have b1 : pos n.Arcs k true ≠ rv c j := fun e3 => by rw [q5] at e3; have := (Gn r.he hk hk e e e3).2; cases this
      rw [if_neg b1, if_pos hp, if_pos rfl, hp]; rfl
    ·
     have b1 : pos n.Arcs k true ≠ rv c j := fun e3 => by rw [q5] at e3; exact e2 (Gn r.he hk hi e hne e3).1
     have b2 : pos n.Arcs k true ≠ j := fun e3 => by rw [← hp] at e3; exact e2 (Gn r.he hk hi e hne e3).1
     rw [if_neg b1, if_neg b2, if_neg e2, Int.add_zero]
end row
end Go.Acq
namespace Go.Acq
open Go
section row
variable {n : Net} {m L : Nat} {c : Csr}
def HeightsP (n : Net) (m : Nat) (h : List Int) : Prop := h.length = m ∧ (∀ s : Nat, n.S = s → h.getD s 0 = m) ∧ (∀ t : Nat, n.T = t → h.getD t 0 = 0) ∧ ∀ v, v < m → 0 ≤ h.getD v 0 ∧ h.getD v 0 < 2 * m
structure PreOK (n : Net) (m L : Nat) (c : Csr) (p : Pre) : Prop where
  ok : ResOK n m L c p.Res p.Ex
  nn : ∀ v, v < m → (v : Int) ≠ n.S → 0 ≤ p.Ex.getD v 0
  hs : HeightsP n m p.H
  val : ∀ j, j < L → 0 < p.Res.getD j 0 → p.H.getD (tl c j) 0 ≤ p.H.getD (hd c j) 0 + 1
structure PreLen (p : Pre) : Prop where
  r : lenok p.Res.length
  x : lenok p.Ex.length
  h : lenok p.H.length
theorem PreOK.len {p : Pre} (h : PreOK n m L c p) (r : Row n m L c) : PreLen p := by
 have := r.bd
 have h1 := h.ok.lr
 have h2 := h.ok.lx
 have h3 := h.hs.1
 exact ⟨by omega, by omega, by omega⟩
end row
end Go.Acq
namespace Go.Acq
open Go
def Uz (n : Net) (X : List Int) (u : Nat) : Prop := (u : Int) ≠ n.S ∧ (u : Int) ≠ n.T ∧ 0 < X.getD u 0
instance (n : Net) (X : List Int) (u : Nat) : Decidable (Uz n X u) := by unfold Uz; infer_instance
def Ul (c : Csr) (p : Pre) (u j : Nat) : Prop := 0 < p.Res.getD j 0 ∧ p.H.getD u 0 = p.H.getD (hd c j) 0 + 1
instance (c : Csr) (p : Pre) (u j : Nat) : Decidable (Ul c p u j) := by unfold Ul; infer_instance
def Lq (n : Net) (c : Csr) (p : Pre) (u : Nat) : Prop := Uz n p.Ex u ∧ ∀ j, fs c u ≤ j → j < fs c (u + 1) → ¬Ul c p u j
instance (n : Net) (c : Csr) (p : Pre) (u : Nat) : Decidable (Lq n c p u) :=
  if h : Uz n p.Ex u ∧ ∀ j, j < fs c (u + 1) → fs c u ≤ j → ¬Ul c p u j then .isTrue ⟨h.1, fun j a b => h.2 j b a⟩ else .isFalse fun g => h ⟨g.1, fun j a b => g.2 j b a⟩
def Ux (p : Nat → Bool) : Nat → List Int
  | 0 => []
  | k + 1 => Ux p k ++ (if p k = true then [(k : Int)] else [])
theorem Zbb (p : Nat → Bool) : ∀ k, (Ux p k).length ≤ k
 | 0 => Nat.le_refl _
 | k + 1 => by
  have := Zbb p k
  simp only [Ux, List.length_append]
  split <;> simp <;> omega
section row
variable {n : Net} {m L : Nat} {c : Csr}
theorem Zcx {p : Pre} {u : Nat} (r : Row n m L c) (lx : p.Ex.length = m) (hu : u < m) : Z7x c p (u : Nat) = some (decide (Uz n p.Ex u)) := by
 have h2 := r.is.hS
 have h3 := r.is.hT
 unfold Z7x Uz
 rw [h2, h3]
 by_cases a : (u : Int) ≠ n.S
 ·
  by_cases b : (u : Int) ≠ n.T
  · rw [if_pos a, if_pos b, Vn (by constructor <;> omega), Int.toNat_natCast]; simp [a, b]
  · rw [if_pos a, if_neg b]; simp [b]
 · rw [if_neg a]; simp [a]
def HtB (m : Nat) (h : List Int) : Prop := h.length = m ∧ ∀ v, v < m → -1000000 ≤ h.getD v 0 ∧ h.getD v 0 ≤ 1000000
theorem HeightsP.hb {h : List Int} (r : Row n m L c) (hh : HeightsP n m h) : HtB m h := ⟨hh.1, fun v hv => by have := hh.2.2.2 v hv; have := r.bd; omega⟩
theorem Zcy {p : Pre} {u j : Nat} (r : Row n m L c) (lr : p.Res.length = L) (hb : HtB m p.H) (hu : u < m) (hj : j < L) : Z74 c p (u : Nat) (j : Nat) = some (decide (Ul c p u j)) := by
 have g1 := r.head hj
 have g2 := hb.2 _ g1.2
 have := hb.1
 have := r.lens.2.1
 unfold Z74 Ul
 simp only [Int.toNat_natCast, g1.1]
 rw [Vn (by constructor <;> omega)]
 by_cases h : 0 < p.Res.getD j 0
 ·
  rw [if_pos h, Vn (by constructor <;> omega), Vn (by constructor <;> omega), Vn (by constructor <;> omega), Vn (by constructor <;> omega)]
  exact congrArg some (decide_eq_decide.2 ⟨fun e => ⟨h, e⟩, fun e => e.2⟩)
 ·
  rw [if_neg h]
  exact congrArg some (decide_eq_false fun e => h e.1).symm
theorem s_stuck {p : Pre} {u : Nat} (r : Row n m L c) (lr : p.Res.length = L) (lx : p.Ex.length = m) (hb : HtB m p.H) (hu : u < m) : Ok (Zao c p (u : Nat)) (fun b => b = decide (Lq n c p u)) := by
 have hfl := r.first.2.2.2 u hu
 unfold Zao Z5b
 refine Ok.bind.2 (Ok.some.2 (Ok.bind.2 (Ok.mono (s_arcs r hu (fun j _ => ∀ i, fs c u ≤ i → i < j → ¬Ul c p u i) (fun _ => ∃ j, fs c u ≤ j ∧ j < fs c (u + 1) ∧ Ul c p u j) (fun i h1 h2 => by omega) fun j s h1 h2 h3 => ?_) ?_)))
 ·
  unfold Zg1
  refine Ok.bind.2 (Yp (Zcy r lr hb hu (by omega)) (Ok.ite.2 ⟨fun h => Ok.some.2 ⟨j, h1, h2, of_decide_eq_true h⟩, fun h => Ok.some.2 fun i h4 h5 => ?_⟩))
  rcases Nat.lt_or_ge i j with h6 | h6
  · exact h3 i h4 h6
  · rw [show i = j by omega]; exact fun h7 => h (decide_eq_true h7)
 ·
  rintro (s | x) h
  ·
   refine Ok.bind.2 (Yp (Zcx r lx hu) (Ok.some.2 ?_))
   rw [Bool.eq_iff_iff, decide_eq_true_iff, decide_eq_true_iff]
   exact ⟨fun h1 => ⟨h1, h⟩, fun h1 => h1.1⟩
  ·
   obtain ⟨j, h1, h2, h3⟩ := h
   exact Ok.some.2 (decide_eq_false fun h4 => h4.2 j h1 h2 h3).symm
theorem s_all {p : Nat → Bool} {step : List Int → Int → Option ((List Int × Int) ⊕ List Int)} (hm : m ≤ 4096)
    (hs : ∀ (o : List Int) (k : Nat), k ≤ m → o.length ≤ k → step o k = if k < m then (if p k = true then some (.inl (o ++ [(k : Int)], (k : Int) + 1)) else some (.inl (o, (k : Int) + 1))) else some (.inr o)) : Ok (Wa (fun s => step s.1 s.2) Xm ([], 0)) (fun o => o = Ux p m) := by
  refine Kv (fun s => ∃ k : Nat, s.2 = k ∧ k ≤ m ∧ s.1 = Ux p k) (fun s => (m - s.2).toNat) ⟨0, rfl, by omega, rfl⟩ (by unfold Xm; simp only; omega) ?_
  rintro ⟨o, x⟩ ⟨k, h1, hk, ho⟩ P next exit
  simp only at h1 ho next ⊢
  subst h1; subst ho
  rw [hs _ k hk (Zbb p k)]
  refine Ok.ite.2 ⟨fun hx => Ok.ite.2 ⟨fun h => Ok.some.2 (next _ ⟨k + 1, by simp, by omega, by simp only [Ux]; rw [if_pos h]⟩ (by simp only; omega)), fun h => Ok.some.2 (next _ ⟨k + 1, by simp, by omega, by simp only [Ux]; rw [if_neg h, List.append_nil]⟩ (by simp only; omega))⟩, fun hx => Ok.some.2 (exit _ (by rw [show k = m by omega]))⟩
theorem s_May {p : Pre} (r : Row n m L c) (lr : p.Res.length = L) (lx : p.Ex.length = m) (hb : HtB m p.H) : Zbn c p = some (Ux (fun j => decide (Uz n p.Ex (tl c j) ∧ Ul c p (tl c j) j)) L, Ux (fun u => decide (Lq n c p u)) m) := by
 have b := r.bd
 have hN := r.is.hN
 refine Rz ?_
 unfold Zbn
 refine Ok.bind.2 (Kv (fun s => ∃ k : Nat, s.2 = k ∧ k ≤ m ∧ s.1 = Ux (fun j => decide (Uz n p.Ex (tl c j) ∧ Ul c p (tl c j) j)) (fs c k)) (fun s => (m - s.2).toNat) ⟨0, rfl, by omega, by rw [r.first.2.1]; rfl⟩ (by unfold Xm; simp only; omega) ?_)
 rintro ⟨o, x⟩ ⟨k, h1, hk, ho⟩ P next exit
 simp only at h1 ho next ⊢
 subst h1
 unfold Zdu
 rw [hN]
 refine Ok.ite.2 ⟨fun hx => ?_, fun hx => Ok.some.2 (exit _ ?_)⟩
 ·
  have hkm : k < m := by omega
  have hfl := r.first.2.2.2 k hkm
  unfold Z5b
  refine Ok.bind.2 (Ok.some.2 (Ok.bind.2 (Ok.mono (s_arcs r hkm (fun j s => s = Ux (fun j => decide (Uz n p.Ex (tl c j) ∧ Ul c p (tl c j) j)) j) (fun _ => False) ho fun j s g1 g2 g3 => ?_) ?_)))
  ·
   have hjL : j < L := by omega
   have ht := (r.range hjL hkm).1 ⟨g1, g2⟩
   subst g3
   have hle := Zbb (fun j => decide (Uz n p.Ex (tl c j) ∧ Ul c p (tl c j) j)) j
   have j3 : ∀ (b : Bool) (P : List Int ⊕ Empty → Prop), (P (.inl (Ux (fun j => decide (Uz n p.Ex (tl c j) ∧ Ul c p (tl c j) j)) (j + 1)))) → (b = true ↔ (Uz n p.Ex k ∧ Ul c p k j)) → Ok (Z6g (Ux (fun j => decide (Uz n p.Ex (tl c j) ∧ Ul c p (tl c j) j)) j) (j : Nat) b) P := by
    intro b P hP hb
    unfold Z6g
    have e : decide (Uz n p.Ex (tl c j) ∧ Ul c p (tl c j) j) = b := by rw [ht, Bool.eq_iff_iff, decide_eq_true_iff]; exact hb.symm
    refine Ok.ite.2 ⟨fun h => Ok.gd.2 ⟨?_, Ok.some.2 ?_⟩, fun h => Ok.some.2 ?_⟩
    · rw [List.length_append, List.length_singleton]; constructor <;> omega
    · simp only [Ux] at hP; rw [if_pos (e.trans h)] at hP; exact hP
    · simp only [Ux] at hP; rw [if_neg (by rw [e]; exact h), List.append_nil] at hP; exact hP
   unfold Zdd
   refine Ok.bind.2 (Yp (Zcx r lx hkm) (Ok.ite.2 ⟨fun h => Ok.bind.2 (Yp (Zcy r lr hb hkm hjL) (j3 _ _ rfl ?_)), fun h => j3 false _ rfl ⟨fun h2 => (by cases h2), fun h2 => absurd (decide_eq_true h2.1) h⟩⟩))
   rw [decide_eq_true_iff]
   exact ⟨fun h2 => ⟨of_decide_eq_true h, h2⟩, fun h2 => h2.2⟩
  ·
   rintro (s | x) h
   · exact Ok.gd.2 ⟨(by omega), Ok.some.2 (next _ ⟨k + 1, by simp, by omega, h⟩ (by simp only; omega))⟩
   · exact h.elim
 ·
  obtain rfl : k = m := by omega
  unfold Ze1 Zd9
  refine Ok.bind.2 (Ok.bind.2 (Ok.mono (s_all (m := k) (p := fun u => decide (Lq n c p u)) (step := fun o x => Zb4 c c p o x) (by omega) fun o q hq hol => ?_) fun o2 ho2 => ?_))
  ·
   unfold Zb4 Zdg
   rw [hN]
   by_cases h : q < k
   ·
    obtain ⟨b, hb1, hb2⟩ := s_stuck r lr lx hb h
    rw [if_pos (by omega), if_pos h, hb1]
    simp only [Option.bind_some]
    rw [hb2]
    by_cases h2 : decide (Lq n c p q) = true
    · rw [if_pos h2, if_pos h2, Vn (by rw [List.length_append, List.length_singleton]; constructor <;> omega), Vn (by constructor <;> omega)]
    · rw [if_neg h2, if_neg h2, Vn (by constructor <;> omega)]
   · rw [if_neg (by omega), if_neg h]
  ·
   unfold Zd2
   refine Ok.some.2 (Ok.some.2 ?_)
   rw [ho, r.first.2.2.1, ho2]
def pushD (c : Csr) (p : Pre) (j : Nat) : Int := min (p.Ex.getD (tl c j) 0) (p.Res.getD j 0)
def pushP (c : Csr) (p : Pre) (j : Nat) : Pre := ⟨mvR c p.Res j (pushD c p j), mvX c p.Ex j (pushD c p j), p.H⟩
theorem PreOK.push {p : Pre} {j : Nat} (h : PreOK n m L c p) (r : Row n m L c) (hj : j < L) (hA : Uz n p.Ex (tl c j)) (hB : Ul c p (tl c j) j) : PreOK n m L c (pushP c p j) := by
 have h1 := hA.2.2
 have h2 := hB.1
 have hD : pushD c p j = min (p.Ex.getD (tl c j) 0) (p.Res.getD j 0) := rfl
 have hlr := h.ok.lr
 have hlx := h.ok.lx
 have ht := r.tlh hj
 have hr := r.rev hj
 refine ⟨h.ok.move r hj (by omega) (by omega), fun v hv hvS => ?_, h.hs, fun k hk h0 => ?_⟩
 ·
  have := h.nn v hv hvS
  simp only [pushP]
  rw [Zct r hlx hj]
  by_cases c1 : tl c j = v
  ·
   subst c1
   rw [if_pos rfl, if_neg fun e => ht.2.2.2 e.symm]; omega
  · rw [if_neg c1]; split <;> omega
 ·
  simp only [pushP] at h0 ⊢
  rw [Z64 r hlr hj] at h0
  by_cases c1 : k = rv c j
  ·
   subst c1
   rw [ht.2.1, ht.2.2.1]
   have := hB.2
   omega
  ·
   rw [if_neg c1] at h0
   by_cases c2 : k = j
   · subst c2; exact h.val k hk h2
   · rw [if_neg c2] at h0; exact h.val k hk h0
def Gz (c : Csr) (p : Pre) (m : Nat) (a : Nat) : Nat → Int
  | 0 => 2 * m
  | k + 1 => if 0 < p.Res.getD (a + k) 0 then min (Gz c p m a k) (p.H.getD (hd c (a + k)) 0) else Gz c p m a k
def Jq (c : Csr) (p : Pre) (m u : Nat) : Int := Gz c p m (fs c u) (fs c (u + 1) - fs c u)
def Z1s (c : Csr) (p : Pre) (m u : Nat) : Pre := ⟨p.Res, p.Ex, p.H.set u (Jq c p m u + 1)⟩
theorem Zf3 {p : Pre} {a : Nat} : ∀ {k i : Nat}, i < k → 0 < p.Res.getD (a + i) 0 → Gz c p m a k ≤ p.H.getD (hd c (a + i)) 0
 | 0, _, h, _ => by omega
 | k + 1, i, h, h0 => by
  simp only [Gz]
  rcases Nat.lt_or_ge i k with h1 | h1
  ·
   have := Zf3 h1 h0
   split <;> omega
  ·
   have : i = k := by omega
   subst this
   rw [if_pos h0]; omega
theorem Zcd (p : Pre) (a : Nat) : ∀ k : Nat, Gz c p m a k ≤ 2 * m ∧ (Gz c p m a k = 2 * m ∨ ∃ i, i < k ∧ 0 < p.Res.getD (a + i) 0 ∧ p.H.getD (hd c (a + i)) 0 = Gz c p m a k)
 | 0 => ⟨Int.le_refl _, .inl rfl⟩
 | k + 1 => by
  obtain ⟨h1, h2⟩ := Zcd p a k
  simp only [Gz]
  by_cases h : 0 < p.Res.getD (a + k) 0
  ·
   rw [if_pos h]
   refine ⟨by omega, ?_⟩
   by_cases h3 : p.H.getD (hd c (a + k)) 0 ≤ Gz c p m a k
   · exact .inr ⟨k, by omega, h, by omega⟩
   ·
    rcases h2 with h2 | ⟨i, g1, g2, g3⟩
    · exact .inl (by omega)
    · exact .inr ⟨i, by omega, g2, by omega⟩
  ·
   rw [if_neg h]
   refine ⟨h1, ?_⟩
   rcases h2 with h2 | ⟨i, g1, g2, g3⟩
   · exact .inl h2
   · exact .inr ⟨i, by omega, g2, g3⟩
theorem lowV_le {p : Pre} {u j : Nat} (r : Row n m L c) (hu : u < m) (hj : j < L) (ht : tl c j = u) (h0 : 0 < p.Res.getD j 0) : Jq c p m u ≤ p.H.getD (hd c j) 0 := by
 have h1 := (r.range hj hu).2 ht
 have e : fs c u + (j - fs c u) = j := by omega
 have := Zf3 (c := c) (m := m) (p := p) (a := fs c u) (k := fs c (u + 1) - fs c u) (i := j - fs c u) (by omega) (by rw [e]; exact h0)
 rw [e] at this; exact this
theorem lowV_at (p : Pre) {u : Nat} (r : Row n m L c) (hu : u < m) : Jq c p m u ≤ 2 * m ∧ (Jq c p m u = 2 * m ∨ ∃ j, j < L ∧ tl c j = u ∧ 0 < p.Res.getD j 0 ∧ p.H.getD (hd c j) 0 = Jq c p m u) := by
 have hfl := r.first.2.2.2 u hu
 obtain ⟨h1, h2⟩ := Zcd (c := c) (m := m) p (fs c u) (fs c (u + 1) - fs c u)
 refine ⟨h1, ?_⟩
 rcases h2 with h2 | ⟨i, g1, g2, g3⟩
 · exact .inl h2
 · exact .inr ⟨fs c u + i, by omega, (r.range (by omega) hu).1 ⟨by omega, by omega⟩, g2, g3⟩
def OpenJ (c : Csr) (L : Nat) (R : List Int) (u v : Nat) : Prop := ∃ j, j < L ∧ tl c j = u ∧ hd c j = v ∧ 0 < R.getD j 0
theorem OpenJ.lt {R : List Int} (r : Row n m L c) {u v : Nat} (h : OpenJ c L R u v) : u < m ∧ v < m := by
 obtain ⟨j, h1, h2, h3, _⟩ := h
 exact ⟨by rw [← h2]; exact (r.tlh h1).1, by rw [← h3]; exact (r.head h1).2⟩
theorem Zhb {H : Nat → Int} {G : Nat → Nat → Prop} (hG : ∀ u v, G u v → H u ≤ H v + 1) {u v : Nat} (hr : Reach G u v) : ∀ k : Int, H v ≤ k → k ≤ H u → ∃ w, Reach G u w ∧ H w = k := by
 induction hr with
 | refl => intro k h1 h2; exact ⟨u, .refl, by omega⟩
 | step h1 h2 ih =>
  rename_i x y
  intro k h3 h4
  by_cases c : H x ≤ k
  · exact ih k c h4
  ·
   have := hG _ _ h2
   exact ⟨y, .step h1 h2, by omega⟩
theorem pigeon : ∀ (m : Nat) (f : Nat → Nat), (∀ k, k ≤ m → f k < m) → ∃ i j, i < j ∧ j ≤ m ∧ f i = f j
 | 0, f, h => absurd (h 0 (Nat.le_refl _)) (by omega)
 | m + 1, f, h => by
  by_cases e : ∃ i, i ≤ m ∧ f i = f (m + 1)
  ·
   obtain ⟨i, h1, h2⟩ := e
   exact ⟨i, m + 1, by omega, by omega, h2⟩
  ·
   have ne : ∀ i, i ≤ m → f i ≠ f (m + 1) := fun i hi h2 => e ⟨i, hi, h2⟩
   obtain ⟨i, j, h1, h2, h3⟩ := pigeon m (fun k => if f (m + 1) < f k then f k - 1 else f k) fun k hk => by
    have a := h k (by omega)
    have a2 := h (m + 1) (by omega)
    have a3 := ne k hk
    split <;> omega
   have a1 := ne i (by omega)
   have a2 := ne j (by omega)
   refine ⟨i, j, h1, by omega, ?_⟩
   split at h3 <;> split at h3 <;> omega
theorem Zon {H : Nat → Int} {a : Int} (h : ∀ k : Nat, k ≤ m → ∃ w, w < m ∧ H w = a + k) : False := by
 have : ∀ k : Nat, ∃ w, k ≤ m → w < m ∧ H w = a + k := fun k => by
  by_cases c : k ≤ m
  · obtain ⟨w, hw⟩ := h k c; exact ⟨w, fun _ => hw⟩
  · exact ⟨0, fun h => absurd h c⟩
 obtain ⟨f, hf⟩ := Classical.axiomOfChoice this
 obtain ⟨i, j, h1, h2, h3⟩ := pigeon m f fun k hk => (hf k hk).1
 have a1 := (hf i (by omega)).2
 have a2 := (hf j h2).2
 rw [h3] at a1
 omega
theorem reach_lt {R : List Int} (r : Row n m L c) {u v : Nat} (hu : u < m) (h : Reach (OpenJ c L R) u v) : v < m := by
 induction h with
 | refl => exact hu
 | step _ h2 _ => exact (h2.lt r).2
theorem Zja {R X : List Int} {S u : Nat} (r : Row n m L c) (h : ResOK n m L c R X) (hS : n.S = S) (nn : ∀ v, v < m → v ≠ S → 0 ≤ X.getD v 0) (hu : u < m) (hx : 0 < X.getD u 0) : Reach (OpenJ c L R) u S := by
 refine Classical.byContradiction fun hno => ?_
 let q : Nat → Bool := fun v => @decide (¬Reach (OpenJ c L R) u v) (Classical.propDecidable _)
 have hq : ∀ v, q v = true ↔ ¬Reach (OpenJ c L R) u v := fun v => @decide_eq_true_iff _ (Classical.propDecidable _)
 obtain ⟨cl, hcl⟩ : ∃ cl : List Bool, cl = (List.range m).map q := ⟨_, rfl⟩
 have inc : ∀ v : Nat, v < m → (Uf cl v = true ↔ ¬Reach (OpenJ c L R) u v) := fun v hv => by
  unfold Uf
  rw [hcl, Int.toNat_natCast, List.getD_eq_getElem?_getD, List.getElem?_map, List.getElem?_range hv]
  exact hq v
 have inf : ∀ v : Nat, v < m → (Uf cl v = false ↔ Reach (OpenJ c L R) u v) := fun v hv => by
  rw [Bool.eq_false_iff, ne_eq, inc v hv]; exact Classical.not_not
 have he := r.he
 have hw := h.within r
 have hac : ∀ k, k ≤ n.Arcs.length → acK n.Arcs (Jb n.Arcs R) cl k ≤ 0 := by
  intro k
  induction k with
  | zero => intro _; simp [acK]
  | succ k ih =>
   intro hk
   have h0 := he k hk false
   have h1 := he k hk true
   simp only [Xg, Bool.false_eq_true, if_false, if_true] at h0 h1
   have hf := (hw.2.2 k hk).1
   have ih := ih (by omega)
   simp only [acK]
   by_cases c1 : Uf cl (n.Arcs.getD k default).fr = true ∧ Uf cl (n.Arcs.getD k default).to = false
   ·
    have hz : (Jb n.Arcs R).getD k 0 = 0 := by
     rw [Z60 hk]
     by_cases e : (n.Arcs.getD k default).fr = (n.Arcs.getD k default).to
     · rw [if_pos e]
     ·
      rw [if_neg e]
      obtain ⟨-, a2, a3⟩ := r.cpPos hk e true
      have z := r.is.ok.hat k hk e true
      have z2 := r.is.ok.hat k hk e false
      have nnR := (h.res _ a3).1
      refine Int.le_antisymm (Int.not_lt.1 fun hpos => ?_) nnR
      obtain ⟨p, hp⟩ : ∃ p : Nat, (n.Arcs.getD k default).fr = p := ⟨(n.Arcs.getD k default).fr.toNat, by omega⟩
      obtain ⟨t, ht⟩ : ∃ t : Nat, (n.Arcs.getD k default).to = t := ⟨(n.Arcs.getD k default).to.toNat, by omega⟩
      rw [hp, ht] at c1
      have r1 := (inf t (by omega)).1 c1.2
      refine (inc p (by omega)).1 c1.1 (.step r1 ⟨_, a3, ?_, ?_, hpos⟩)
      · unfold tl hd; rw [a2]; simp only [Bool.not_true]; rw [z2.1]; simp only [Xg, Bool.not_false, if_true, ht]; omega
      · unfold hd; rw [z.1]; simp only [Xg, Bool.not_true, Bool.false_eq_true, if_false, hp]; omega
    rw [if_pos c1, hz]; split <;> omega
   · rw [if_neg c1]; split <;> omega
 have hpc : ∀ j, j ≤ m → 0 ≤ Gb n.Arcs (Jb n.Arcs R) cl j n.Arcs.length ∧ (u < j → 0 < Gb n.Arcs (Jb n.Arcs R) cl j n.Arcs.length) := by
  intro j
  induction j with
  | zero => intro _; rw [show ((0 : Nat) : Int) = 0 from rfl, Zf6 he _ (Nat.le_refl _)]; exact ⟨Int.le_refl _, fun h => by omega⟩
  | succ j ih =>
   intro hj
   obtain ⟨i1, i2⟩ := ih (by omega)
   rw [Int.natCast_succ, Zdm]
   by_cases c1 : Uf cl j = false
   ·
    rw [if_pos c1, ← h.ex j (by omega)]
    have hjS : j ≠ S := fun e => hno (by rw [← e]; exact (inf j (by omega)).1 c1)
    have := nn j (by omega) hjS
    refine ⟨by omega, fun hlt => ?_⟩
    by_cases e : u = j
    · subst e; omega
    · have := i2 (by omega); omega
   ·
    rw [if_neg c1]
    refine ⟨by omega, fun hlt => ?_⟩
    by_cases e : u = j
    · subst e; exact absurd ((inf u hu).2 .refl) c1
    · have := i2 (by omega); omega
 have := (hpc m (Nat.le_refl _)).2 hu
 rw [Zdr he _ (Nat.le_refl _)] at this
 have := hac _ (Nat.le_refl _)
 omega
theorem Zjz {R : List Int} {H : Nat → Int} {S u : Nat} (r : Row n m L c) (hu : u < m) (hval : ∀ j, j < L → 0 < R.getD j 0 → H (tl c j) ≤ H (hd c j) + 1) (hHS : H S = m) (hr : Reach (OpenJ c L R) u S) : H u < 2 * m := by
 refine Int.not_le.1 fun hge => ?_
 refine Zon (m := m) (H := H) (a := m) fun k hk => ?_
 obtain ⟨w, h1, h2⟩ := Zhb (H := H) (G := OpenJ c L R) (fun a b ⟨j, g1, g2, g3, g4⟩ => by rw [← g2, ← g3]; exact hval j g1 g4) hr (m + k) (by omega) (by omega)
 exact ⟨w, reach_lt r hu h1, h2⟩
theorem PreOK.lift {p : Pre} {u : Nat} (h : PreOK n m L c p) (r : Row n m L c) (hu : u < m) (hS : Lq n c p u) : PreOK n m L c (Z1s c p m u) ∧ p.H.getD u 0 ≤ Jq c p m u := by
 obtain ⟨⟨S, hnS, -, hSm⟩, ⟨T, hnT, -, hTm⟩, -, -⟩ := r.ends
 have lh := h.hs.1
 obtain ⟨⟨hA1, hA2, hA3⟩, hB⟩ := hS
 have huS : u ≠ S := by omega
 have huT : u ≠ T := by omega
 have hlow : p.H.getD u 0 ≤ Jq c p m u := by
  have h2 := h.hs.2.2.2 u hu
  rcases (lowV_at p r hu).2 with h1 | ⟨j, h1, h3, h4, h5⟩
  · omega
  ·
   have h6 := h.val j h1 h4
   rw [h3] at h6
   have h7 := (r.range h1 hu).2 h3
   have h8 := hB j h7.1 h7.2
   have : p.H.getD u 0 ≠ p.H.getD (hd c j) 0 + 1 := fun e => h8 ⟨h4, e⟩
   omega
 have hHu : ∀ v, (p.H.set u (Jq c p m u + 1)).getD v 0 = if v = u then Jq c p m u + 1 else p.H.getD v 0 := fun v => by
  rw [Ws]
  by_cases e : v = u
  · rw [if_pos ⟨e.symm, by omega⟩, if_pos e]
  · rw [if_neg fun h => e h.1.symm, if_neg e]
 have hval : ∀ j, j < L → 0 < p.Res.getD j 0 → (p.H.set u (Jq c p m u + 1)).getD (tl c j) 0 ≤ (p.H.set u (Jq c p m u + 1)).getD (hd c j) 0 + 1 := fun j hj h0 => by
  have ht := r.tlh hj
  rw [hHu, hHu]
  by_cases c1 : tl c j = u
  ·
   have := lowV_le r hu hj c1 h0
   rw [if_pos c1, if_neg fun e => ht.2.2.2 (c1.trans e.symm)]; omega
  ·
   rw [if_neg c1]
   have := h.val j hj h0
   by_cases c2 : hd c j = u
   · rw [if_pos c2]; rw [c2] at this; omega
   · rw [if_neg c2]; exact this
 have hreach := Zja r h.ok hnS (fun v hv hvS => h.nn v hv (by omega)) hu hA3
 have hbound := Zjz (H := fun v => (p.H.set u (Jq c p m u + 1)).getD v 0) r hu hval (by simp only [hHu]; rw [if_neg fun e => huS e.symm]; exact h.hs.2.1 S hnS) hreach
 simp only [hHu, if_true] at hbound
 refine ⟨⟨h.ok, h.nn, ⟨by simp [Z1s, lh], fun s hs => ?_, fun t ht => ?_, fun v hv => ?_⟩, hval⟩, hlow⟩
 · simp only [Z1s]; rw [hHu, if_neg (by omega)]; exact h.hs.2.1 s hs
 · simp only [Z1s]; rw [hHu, if_neg (by omega)]; exact h.hs.2.2.1 t ht
 ·
  have h1 := h.hs.2.2.2 v hv
  have h2 := h.hs.2.2.2 u hu
  simp only [Z1s]; rw [hHu]
  by_cases e : v = u
  · rw [if_pos e]; omega
  · rw [if_neg e]; exact h1
end row
end Go.Acq
namespace Go.Acq
open Go
theorem Zgn {α : Type} {z v : α} {k i : Int} : ∀ mp : List (Int × α), Gc z i (Ni k v mp) = if i = k then v else Gc z i mp
 | [] => by simp only [Ni, Gc]
 | x :: mp => by
  simp only [Ni]
  by_cases h : k = x.1
  ·
   rw [if_pos h]; simp only [Gc]
   by_cases e : i = k
   · rw [if_pos e, if_pos e]
   · rw [if_neg e, if_neg e, if_neg (by omega)]
  ·
   rw [if_neg h]; simp only [Gc]
   by_cases e : i = x.1
   · rw [if_pos e, if_pos e, if_neg (by omega)]
   · rw [if_neg e, if_neg e, Zgn mp]
theorem Zbj {α : Type} {v : α} {k : Int} : ∀ {mp : List (Int × α)} {x : Int × α}, x ∈ Ni k v mp → x.1 = k ∨ ∃ y, y ∈ mp ∧ y.1 = x.1
 | [], x, h => by simp only [Ni, List.mem_singleton] at h; left; rw [h]
 | y :: mp, x, h => by
  simp only [Ni] at h
  by_cases e : k = y.1
  ·
   rw [if_pos e] at h
   rcases List.mem_cons.1 h with h | h
   · left; rw [h]
   · exact .inr ⟨x, List.mem_cons_of_mem _ h, rfl⟩
  ·
   rw [if_neg e] at h
   rcases List.mem_cons.1 h with h | h
   · exact .inr ⟨y, List.mem_cons_self, by rw [h]⟩
   ·
    rcases Zbj h with h | ⟨z, h1, h2⟩
    · exact .inl h
    · exact .inr ⟨z, List.mem_cons_of_mem _ h1, h2⟩
def Apart {α : Type} : List (Int × α) → Prop
  | [] => True
  | x :: mp => (∀ y, y ∈ mp → y.1 ≠ x.1) ∧ Apart mp
theorem Apart.put {α : Type} {v : α} {k : Int} : ∀ {mp : List (Int × α)}, Apart mp → Apart (Ni k v mp)
 | [], _ => ⟨fun y h => (by cases h), trivial⟩
 | x :: mp, h => by
  simp only [Ni]
  by_cases e : k = x.1
  · rw [if_pos e]; exact ⟨fun y hy => by rw [e]; exact h.1 y hy, h.2⟩
  ·
   rw [if_neg e]
   refine ⟨fun y hy => ?_, Apart.put h.2⟩
   rcases Zbj hy with h1 | ⟨z, h1, h2⟩
   · rw [h1]; exact e
   · rw [← h2]; exact h.1 z h1
theorem Apart.at {α : Type} {z : α} (d : Int × α) : ∀ {mp : List (Int × α)} {j : Nat}, Apart mp → j < mp.length → Gc z (mp.getD j d).1 mp = (mp.getD j d).2
 | [], j, _, h => by simp at h
 | x :: mp, 0, _, _ => by simp [Gc]
 | x :: mp, j + 1, h, hj => by
  have hj' : j < mp.length := by simpa using hj
  have hm := h.1 _ (Z06 hj' d)
  show Gc z (mp.getD j d).1 (x :: mp) = (mp.getD j d).2
  simp only [Gc]
  rw [if_neg hm]; exact Apart.at d h.2 hj'
def hok (n : Net) (h : Hop) : Prop := 0 ≤ h.Arc ∧ h.Arc < n.Arcs.length
def cntH (l : List Hop) (i : Int) : Nat → Int
  | 0 => 0
  | k + 1 => cntH l i k + (if (l.getD k default).Arc = i then (if (l.getD k default).Back = true then -1 else 1) else 0)
structure MapIs (n : Net) (mp : List (Int × Int)) (l : List Hop) (k : Nat) : Prop where
  val : ∀ i, Gc 0 i mp = cntH l i k
  key : ∀ x, x ∈ mp → 0 ≤ x.1 ∧ x.1 < n.Arcs.length
  apart : Apart mp
theorem MapIs.put {n : Net} {mp : List (Int × Int)} {l : List Hop} {k : Nat} (h : MapIs n mp l k) (hk : hok n (l.getD k default)) {v : Int} (hv : v = cntH l (l.getD k default).Arc k + (if (l.getD k default).Back = true then -1 else 1)) : MapIs n (Ni (l.getD k default).Arc v mp) l (k + 1) := by
 refine ⟨fun i => ?_, fun x hx => ?_, h.apart.put⟩
 ·
  rw [Zgn]
  simp only [cntH]
  by_cases e : i = (l.getD k default).Arc
  · rw [if_pos e, if_pos e.symm, hv, e]
  · rw [if_neg e, if_neg (fun h => e h.symm), h.val, Int.add_zero]
 ·
  rcases Zbj hx with h1 | ⟨y, h1, h2⟩
  · rw [h1]; exact hk
  · rw [← h2]; exact h.key y h1
end Go.Acq
namespace Go.Acq
open Go
def fits (n : Net) (f : List Int) (i : Nat) (c d : Int) : Prop := 0 ≤ f.getD i 0 + d * c ∧ f.getD i 0 + d * c ≤ (n.Arcs.getD i default).cap
def limit (n : Net) (f : List Int) (x : Int × Int) : Int :=
  if 0 < x.2 then ((n.Arcs.getD x.1.toNat default).cap - f.getD x.1.toNat 0).tdiv x.2 else if x.2 < 0 then (f.getD x.1.toNat 0).tdiv (-x.2) else 4611686018427387904
end Go.Acq
namespace Go.Acq
open Go
section row
variable {n : Net} {m L : Nat} {c : Csr}
def StepP (n : Net) (m L : Nat) (c : Csr) (was p : Pre) : Prop :=
  (∃ j, j < L ∧ Uz n was.Ex (tl c j) ∧ Ul c was (tl c j) j ∧ p = pushP c was j) ∨ (∃ u, u < m ∧ Lq n c was u ∧ p = Z1s c was m u)
theorem PreOK.hb {p : Pre} (h : PreOK n m L c p) (r : Row n m L c) : HtB m p.H := h.hs.hb r
theorem PreOK.step {was p : Pre} (h : PreOK n m L c was) (r : Row n m L c) (hs : StepP n m L c was p) : PreOK n m L c p := by
 rcases hs with ⟨j, h1, h2, h3, rfl⟩ | ⟨u, h1, h2, rfl⟩
 · exact h.push r h1 h2 h3
 · exact (h.lift r h1 h2).1
def arcsOf (n : Net) (L : Nat) (c : Csr) (p : Pre) : List Int := Ux (fun j => decide (Uz n p.Ex (tl c j) ∧ Ul c p (tl c j) j)) L
def vertsOf (n : Net) (m : Nat) (c : Csr) (p : Pre) : List Int := Ux (fun u => decide (Lq n c p u)) m
theorem PreOK.may {p : Pre} (h : PreOK n m L c p) (r : Row n m L c) : Zbn c p = some (arcsOf n L c p, vertsOf n m c p) := s_May r h.ok.lr h.ok.lx (h.hb r)
theorem row_of {m : Nat} (hc : CsrIs n m c) (hm : n.N = m) (hk : Ky n.N n.S n.T n.Arcs = 0) : Row n m (Yw n.Arcs m) c := ⟨hc, hk, hm, rfl⟩
end row
end Go.Acq
namespace Go.Acq
open Go
section row
variable {n : Net} {m L : Nat} {c : Csr}
end row
end Go.Acq
namespace Go.Acq
open Go
section bank
variable {l : List Int} {i d v old : Int} {q : Nat}
theorem Us (e : i = q) (h : q < l.length) : Vm ⟨l⟩ i = some (l.getD q 0) := by
 subst e
 have h1 : inb (q : Int) l.length := by constructor <;> omega
 unfold Vm Gx Z7p
 simp only [if_pos h1, if_neg (show ¬((q : Int) < 0) by omega), if_neg (show ¬((l.length : Int) ≤ (q : Int)) by omega), Vn h1, Int.toNat_natCast]
 rfl
theorem Kj (e : i = q) (h : q < l.length) : Ua ⟨l⟩ i v = some ⟨l.set q v⟩ := by
 subst e
 have h1 : inb (q : Int) l.length := by constructor <;> omega
 unfold Ua Gx Z7u
 simp only [if_pos h1, if_neg (show ¬((q : Int) < 0) by omega), if_neg (show ¬((l.length : Int) ≤ (q : Int)) by omega), Vn h1, Int.toNat_natCast]
 rfl
theorem Jy (e : i = q) (h : q < l.length) (o : i64ok (l.getD q 0 + d)) : Ks ⟨l⟩ i d = some (l.getD q 0 + d, ⟨l.set q (l.getD q 0 + d)⟩) := by
 subst e
 have h1 : inb (q : Int) l.length := by constructor <;> omega
 unfold Ks Gx Z9j
 simp only [if_pos h1, if_neg (show ¬((q : Int) < 0) by omega), if_neg (show ¬((l.length : Int) ≤ (q : Int)) by omega), Vn h1, Int.toNat_natCast, Vn o]
 rfl
theorem s_CAS (e : i = q) (h : q < l.length) : Z1l ⟨l⟩ i old v = some (decide (l.getD q 0 = old), ⟨l.set q (if l.getD q 0 = old then v else l.getD q 0)⟩) := by
 subst e
 have h1 : inb (q : Int) l.length := by constructor <;> omega
 unfold Z1l Gx Z5g
 simp only [if_pos h1, if_neg (show ¬((q : Int) < 0) by omega), if_neg (show ¬((l.length : Int) ≤ (q : Int)) by omega), Vn h1, Int.toNat_natCast]
 rfl
end bank
theorem band_le {x : Int} {k : Nat} (hk : k < 8192) : 0 ≤ Gy .i64 x k ∧ Gy .i64 x k ≤ k := by
 have h1 : (BitVec.ofInt 64 x &&& BitVec.ofInt 64 (k : Int)).toNat ≤ k := by
  rw [BitVec.toNat_and]
  have h2 : (BitVec.ofInt 64 (k : Int)).toNat = k := by
   rw [BitVec.ofInt_natCast, BitVec.toNat_ofNat]
   exact Nat.mod_eq_of_lt (by omega)
  rw [h2]; exact Nat.and_le_right
 unfold Gy
 have e : IntKind.bits .i64 = 64 := rfl
 rw [e, Ji (by omega) (by omega)]
 omega
def Xj (m L R : Nat) : Layout := ⟨m, L, 1, R, 0, L, L + m, L + 2 * m, L + 3 * m, L + 3 * m + 1, L + 3 * m + 2, L + 3 * m + 3, L + 3 * m + 4, L + 3 * m + R + 6⟩
structure Bk (m L R : Nat) (t : Int) (l : List Int) : Prop where
  len : l.length = L + 3 * m + R + 6
  ex : ∀ v, v < m → -(1125899906842624 * (28 + t)) ≤ l.getD (L + v) 0 ∧ l.getD (L + v) 0 ≤ 1125899906842624 * (28 + t)
  hh : ∀ v, v < m → 0 ≤ l.getD (L + m + v) 0 ∧ l.getD (L + m + v) 0 ≤ m
  oth : ∀ q, L + 2 * m ≤ q → q < L + 3 * m + 6 → -(100 + t) ≤ l.getD q 0 ∧ l.getD q 0 ≤ 100 + t
  slot : ∀ q, L + 3 * m + 6 ≤ q → q < L + 3 * m + R + 6 → 0 ≤ l.getD q 0 ∧ l.getD q 0 < m
section
variable {m L R : Nat} {t : Int} {l : List Int}
theorem Bk.up {t' : Int} (h : Bk m L R t l) (ht : t ≤ t') : Bk m L R t' l :=
 ⟨h.len, fun v hv => by have := h.ex v hv; omega, h.hh, fun q h1 h2 => by have := h.oth q h1 h2; omega, h.slot⟩
theorem Bk.set {q : Nat} {x : Int} (h : Bk m L R t l) (h1 : L ≤ q → q < L + m → -(1125899906842624 * (28 + t)) ≤ x ∧ x ≤ 1125899906842624 * (28 + t)) (h2 : L + m ≤ q → q < L + 2 * m → 0 ≤ x ∧ x ≤ m)
    (h3 : L + 2 * m ≤ q → q < L + 3 * m + 6 → -(100 + t) ≤ x ∧ x ≤ 100 + t) (h4 : L + 3 * m + 6 ≤ q → q < L + 3 * m + R + 6 → 0 ≤ x ∧ x < m) : Bk m L R t (l.set q x) := by
  refine ⟨by rw [List.length_set]; exact h.len, fun v hv => ?_, fun v hv => ?_, fun p p1 p2 => ?_, fun p p1 p2 => ?_⟩ <;> rw [Ws] <;> split
  · exact h1 (by omega) (by omega)
  · exact h.ex v hv
  · exact h2 (by omega) (by omega)
  · exact h.hh v hv
  · exact h3 (by omega) (by omega)
  · exact h.oth p p1 p2
  · exact h4 (by omega) (by omega)
  · exact h.slot p p1 p2
end
structure RsI (c : Csr) (m L : Nat) (l : List Int) : Prop where
  nn : ∀ a, a < L → 0 ≤ l.getD a 0 ∧ l.getD a 0 + l.getD (rv c a) 0 = cp c a
  val : ∀ a, a < L → 0 < l.getD a 0 → l.getD (L + m + tl c a) 0 ≤ l.getD (L + m + hd c a) 0 + 1
section row
variable {n : Net} {m L R : Nat} {c : Csr} {t : Int} {l : List Int}
theorem RsI.other {q : Nat} {x : Int} (r : Row n m L c) (h : RsI c m L l) (h1 : L ≤ q) (h2 : q < L + m ∨ L + 2 * m ≤ q) : RsI c m L (l.set q x) := by
 refine ⟨fun a ha => ?_, fun a ha => ?_⟩
 ·
  have := r.rev ha
  rw [Xq (by omega), Xq (by omega)]; exact h.nn a ha
 ·
  have g1 := r.head ha
  have g2 := r.tlh ha
  rw [Xq (by omega), Xq (by omega), Xq (by omega)]; exact h.val a ha
theorem RsI.push {g : Nat} {d : Int} (r : Row n m L c) (h : RsI c m L l) (hl : L + 2 * m ≤ l.length) (hg : g < L) (h0 : 0 ≤ d) (h1 : d ≤ l.getD g 0) (h2 : l.getD (L + m + tl c g) 0 = l.getD (L + m + hd c g) 0 + 1) :
    RsI c m L ((l.set g (l.getD g 0 + -d)).set (rv c g) (l.getD (rv c g) 0 + d)) := by
  have k1 := r.rev hg
  have k2 := r.tlh hg
  have k3 := r.head hg
  have e : ∀ a, ((l.set g (l.getD g 0 + -d)).set (rv c g) (l.getD (rv c g) 0 + d)).getD a 0 = if a = rv c g then l.getD (rv c g) 0 + d else if a = g then l.getD g 0 + -d else l.getD a 0 := fun a => by
    rw [Ws, List.length_set]
    by_cases c1 : a = rv c g
    · subst c1; rw [if_pos ⟨rfl, by omega⟩, if_pos rfl]
    · rw [if_neg (fun h => c1 h.1.symm), if_neg c1, Ws]
      by_cases c2 : a = g
      · subst c2; rw [if_pos ⟨rfl, by omega⟩, if_pos rfl]
      · rw [if_neg (fun h => c2 h.1.symm), if_neg c2]
  refine ⟨fun a ha => ?_, fun a ha => ?_⟩
  · have j1 := r.rev ha
    have n1 := h.nn a ha
    have n2 := h.nn g hg
    have n3 := h.nn _ k1.2.1
    rw [e, e]
    by_cases c1 : a = rv c g
    · subst c1
      rw [if_pos rfl, k1.2.2.1, if_neg (fun h => k1.2.2.2 h.symm), if_pos rfl]
      rw [k1.2.2.1] at n1
      exact ⟨by omega, by omega⟩
    · rw [if_neg c1]
      by_cases c2 : a = g
      · subst c2
        rw [if_pos rfl, if_pos rfl]
        exact ⟨by omega, by omega⟩
      · rw [if_neg c2, if_neg (fun h => c2 (by rw [← j1.2.2.1, h, k1.2.2.1])), if_neg (fun h => c1 (by rw [← j1.2.2.1, h]))]
        exact n1
  · have j1 := r.tlh ha
    have j2 := r.head ha
    have eh : ∀ q, L ≤ q → ((l.set g (l.getD g 0 + -d)).set (rv c g) (l.getD (rv c g) 0 + d)).getD q 0 = l.getD q 0 := fun q hq => by rw [e, if_neg (by omega), if_neg (by omega)]
    rw [eh (L + m + tl c a) (by omega), eh (L + m + hd c a) (by omega), e a]
    by_cases c1 : a = rv c g
    · subst c1; intro _; rw [k2.2.1, k2.2.2.1]; omega
    · rw [if_neg c1]
      by_cases c2 : a = g
      · subst c2; intro _; omega
      · rw [if_neg c2]; exact h.val a ha
theorem RsI.lift {u : Nat} {x : Int} (r : Row n m L c) (h : RsI c m L l) (hl : L + 2 * m ≤ l.length) (hu : u < m) (h1 : ∀ a, a < L → tl c a = u → 0 < l.getD a 0 → x ≤ l.getD (L + m + hd c a) 0 + 1) (h2 : l.getD (L + m + u) 0 ≤ x) :
    RsI c m L (l.set (L + m + u) x) := by
  refine ⟨fun a ha => ?_, fun a ha => ?_⟩
  · have := r.rev ha
    rw [Xq (by omega), Xq (by omega)]; exact h.nn a ha
  · have g1 := r.head ha
    have g2 := r.tlh ha
    rw [Xq (by omega)]
    intro h0
    have hv := h.val a ha h0
    by_cases c1 : tl c a = u
    · have h3 := h1 a ha c1 h0
      rw [Ws, if_pos ⟨by omega, by omega⟩, Xq (by omega)]; exact h3
    · rw [Xq (by omega), Ws]
      split
      · rename_i e
        have e1 : hd c a = u := by omega
        rw [e1] at hv; omega
      · exact hv
end row
structure ScI (c : Csr) (m L : Nat) (l : List Int) (u k : Nat) (target low room : Int) : Prop where
  neg : target < 0 → ∀ a, fs c u ≤ a → a < k → l.getD a 0 ≤ 0
  pos : 0 ≤ target → ∃ g : Nat, target = g ∧ fs c u ≤ g ∧ g < k ∧ 0 < l.getD g 0 ∧ room = l.getD g 0 ∧ low = l.getD (L + m + hd c g) 0 ∧ ∀ a, fs c u ≤ a → a < k → 0 < l.getD a 0 → low ≤ l.getD (L + m + hd c a) 0
structure PaI (m L R : Nat) (t k : Int) (p : DequePart) : Prop where
  hl : p.l = Xj m L R
  hw : p.w = 0
  dn : p.done = false
  at' : 0 ≤ p.at_ ∧ p.at_ ≤ k
  ht : -(100 + t) ≤ p.t ∧ p.t ≤ 100 + t
  hb : -(100 + t) ≤ p.b ∧ p.b ≤ 100 + t
  hx : 0 ≤ p.x ∧ p.x < m
structure ArI (m L R : Nat) (p : BarrierArrive) : Prop where
  hl : p.l = Xj m L R
  at' : 0 ≤ p.next ∧ p.next ≤ 4
  ow : 0 ≤ p.own ∧ p.own ≤ 1
inductive Ph (c : Csr) (m L R : Nat) (t : Int) (w : WorkerWorker) (l : List Int) (u : Nat) : Prop
  | take : w.at_ = 0 → PaI m L R t 5 w.pop.part → Ph c m L R t w l u
  | idle : (w.at_ = 2 ∨ w.at_ = 3 ∨ w.at_ = 4 ∨ w.at_ = 21 ∨ w.at_ = 22 ∨ w.at_ = 23 ∨ w.at_ = 25) → Ph c m L R t w l u
  | exc : w.at_ = 5 → w.h = l.getD (L + m + u) 0 → Ph c m L R t w l u
  | left (a : Nat) : w.at_ = 6 → w.h = l.getD (L + m + u) 0 → w.e = l.getD (L + u) 0 → 0 < w.e → w.a = a → fs c u ≤ a → a < fs c (u + 1) → ScI c m L l u a w.target w.low w.room → Ph c m L R t w l u
  | low (a : Nat) : w.at_ = 7 → w.h = l.getD (L + m + u) 0 → w.e = l.getD (L + u) 0 → 0 < w.e → w.a = a → fs c u ≤ a → a < fs c (u + 1) → ScI c m L l u a w.target w.low w.room → w.d = l.getD a 0 → 0 < w.d → Ph c m L R t w l u
  | push : w.at_ = 8 → w.h = l.getD (L + m + u) 0 → w.e = l.getD (L + u) 0 → 0 < w.e → ScI c m L l u (fs c (u + 1)) w.target w.low w.room → 0 ≤ w.target → w.low < w.h → Ph c m L R t w l u
  | back (g : Nat) : w.at_ = 9 → w.h = l.getD (L + m + u) 0 → w.e = l.getD (L + u) 0 → w.target = g → g < L → tl c g = u → 0 < w.d → w.d ≤ w.e → w.d ≤ 1125899906842624 → RsI c m L (l.set (rv c g) (l.getD (rv c g) 0 + w.d)) → Ph c m L R t w l u
  | frm (g : Nat) : w.at_ = 10 → w.h = l.getD (L + m + u) 0 → w.e = l.getD (L + u) 0 → w.target = g → g < L → tl c g = u → 0 < w.d → w.d ≤ w.e → w.d ≤ 1125899906842624 → Ph c m L R t w l u
  | to (g : Nat) : w.at_ = 11 → w.h = l.getD (L + m + u) 0 → w.e = l.getD (L + u) 0 → 0 ≤ w.e → w.target = g → g < L → tl c g = u → 0 < w.d → w.d ≤ 1125899906842624 → Ph c m L R t w l u
  | mid : (w.at_ = 12 ∨ w.at_ = 13 ∨ w.at_ = 16 ∨ w.at_ = 17) → w.h = l.getD (L + m + u) 0 → w.e = l.getD (L + u) 0 → 0 ≤ w.e → Ph c m L R t w l u
  | put : w.at_ = 14 → w.h = l.getD (L + m + u) 0 → w.e = l.getD (L + u) 0 → 0 ≤ w.e → PaI m L R t 3 w.put.part → 0 ≤ w.put.v → w.put.v < m → Ph c m L R t w l u
  | lift : w.at_ = 15 → w.h = l.getD (L + m + u) 0 → w.e = l.getD (L + u) 0 → 0 < w.e → ScI c m L l u (fs c (u + 1)) w.target w.low w.room → 0 ≤ w.target → w.h ≤ w.low → Ph c m L R t w l u
  | free : (w.at_ = 18 ∨ w.at_ = 19) → w.h = l.getD (L + m + u) 0 → Ph c m L R t w l u
  | recl : w.at_ = 20 → w.h = l.getD (L + m + u) 0 → w.e = l.getD (L + u) 0 → 0 < w.e → Ph c m L R t w l u
  | arr : w.at_ = 24 → ArI m L R w.arrive → Ph c m L R t w l u
structure SB (c : Csr) (m L R : Nat) (t : Int) (w : WorkerWorker) (l Hs : List Int) (u : Nat) : Prop where
  hc : w.c = c
  hl : w.l = Xj m L R
  hid : w.id = 0
  hlim : 1 ≤ w.limit
  hli : 0 ≤ w.lifts ∧ w.lifts ≤ t
  hu : w.u = u ∧ u < m
  hv : 0 ≤ w.v ∧ w.v < m
  hs : Hs.length = m ∧ ∀ v, v < m → Hs.getD v 0 = l.getD (L + m + v) 0
  bk : Bk m L R t l
  rs : w.at_ ≠ 9 → RsI c m L l
  ph : Ph c m L R t w l u
def SI (c : Csr) (m L R : Nat) (t : Int) (w : WorkerWorker) (l Hs : List Int) : Prop := ∃ u, SB c m L R t w l Hs u
end Go.Acq
