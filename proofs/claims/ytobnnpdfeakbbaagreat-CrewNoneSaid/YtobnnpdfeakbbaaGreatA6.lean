/- Texts of this claim, one behind the other. -/
import Derived.Test.YtobnnpdfeakbbaaGreatA1
import Derived.Test.YtobnnpdfeakbbaaGreatA3
import Derived.Test.YtobnnpdfeakbbaaGreatA5
set_option linter.unusedVariables false
set_option linter.unusedSimpArgs false
namespace Go.Proofs.YtobnnpdfeakbbaaGreat.Ax
open Go Go.Acq Go.RowKit Go.Proofs
set_option maxHeartbeats 8000000
set_option maxRecDepth 20000
theorem Z1s : Wi Tryz.prog 31 14 = true := by kernel_rfl
theorem Z4i : Wi Tryz.prog 70 4 = true := by kernel_rfl
theorem Z8h : Wu Tryz.prog 226 = some 8 := by kernel_rfl
theorem Z9s : Yj Tryz.prog 102 = true := by kernel_rfl
theorem Z8v : Yj Tryz.prog 156 = true := by kernel_rfl
theorem Jq : Yj Tryz.prog 157 = true := by kernel_rfl
theorem Zb5 : Yj Tryz.prog 158 = true := by kernel_rfl
theorem Z9w : Yj Tryz.prog 159 = true := by kernel_rfl
theorem Z91 : Yj Tryz.prog 23 = true := by kernel_rfl
theorem Z2y : Yj Tryz.prog 25 = true := by kernel_rfl
theorem Z74 : Yj Tryz.prog 30 = true := by kernel_rfl
theorem Zax : Yj Tryz.prog 50 = true := by kernel_rfl
theorem Z5s : Yj Tryz.prog 71 = true := by kernel_rfl
theorem Z1x : Yj Tryz.prog 72 = true := by kernel_rfl
theorem Z9b : Yj Tryz.prog 73 = true := by kernel_rfl
theorem Z9d : Yj Tryz.prog 75 = true := by kernel_rfl
theorem Z55 : Yj Tryz.prog 78 = true := by kernel_rfl
theorem Z7p : Yj Tryz.prog 79 = true := by kernel_rfl
theorem Z9z : Yj Tryz.prog 80 = true := by kernel_rfl
theorem Z8s : Yj Tryz.prog 81 = true := by kernel_rfl
theorem Zbc : Xa Tryz.prog 29 2 = some 2 := by kernel_rfl
theorem Z8r : Xa Tryz.prog 31 10 = some 10 := by kernel_rfl
theorem Z9c : Xa Tryz.prog 31 11 = some 11 := by kernel_rfl
theorem Z80 : Xa Tryz.prog 31 12 = some 12 := by kernel_rfl
theorem Z1z : Xa Tryz.prog 31 13 = some 13 := by kernel_rfl
theorem Z7t : Xa Tryz.prog 31 3 = some 3 := by kernel_rfl
theorem Za4 : Xa Tryz.prog 31 4 = some 4 := by kernel_rfl
theorem Zba : Xa Tryz.prog 31 5 = some 5 := by kernel_rfl
theorem Za1 : Xa Tryz.prog 31 6 = some 6 := by kernel_rfl
theorem Z8u : Xa Tryz.prog 31 7 = some 7 := by kernel_rfl
theorem Z95 : Xa Tryz.prog 31 8 = some 8 := by kernel_rfl
theorem Zaa : Xa Tryz.prog 31 9 = some 9 := by kernel_rfl
theorem Zb2 : Xa Tryz.prog 80 0 = some 0 := by kernel_rfl
theorem Z7k : Xa Tryz.prog 80 2 = some 23 := by kernel_rfl
theorem Z4o : Ge Tryz.prog 3 = some .i64 := by kernel_rfl
theorem Z85 : Yb Tryz.prog 219 = some 226 := by kernel_rfl
theorem Z9q : Zy Tryz.prog 226 = some 1 := by kernel_rfl
theorem Z04 : Zy Tryz.prog 31 = some 14 := by kernel_rfl
theorem Z4g : Zy Tryz.prog 54 = some 1 := by kernel_rfl
theorem Nk : Zy Tryz.prog 70 = some 4 := by kernel_rfl
theorem Z3v : (Tryz.prog.underlying 5).isSome = true := by kernel_rfl
theorem Z7l : Jy Tryz.prog 32 = true := by kernel_rfl
theorem Z45 : Jy Tryz.prog 58 = true := by kernel_rfl
theorem Z6c : Xr Tryz.prog 32 = true := by kernel_rfl
theorem TWUCR.s4 : Xr Tryz.prog 4 = true := by kernel_rfl
theorem Nf : Xr Tryz.prog 58 = true := by kernel_rfl
theorem Zbe : Xh Tryz.prog 226 = some (.agg #[iV 0]) := by kernel_rfl
theorem Z7q : Xh Tryz.prog 26 = some (.slice none 0 0) := by kernel_rfl
theorem Z2r : Xh Tryz.prog 31 = some (.agg #[iV 0, iV 0, iV 0, iV 0, iV 0, iV 0, iV 0, iV 0, iV 0, iV 0, iV 0, iV 0, iV 0, iV 0]) := by kernel_rfl
theorem Z44 : Xh Tryz.prog 54 = some (iV 0) := by kernel_rfl
theorem Nx : Xh Tryz.prog 70 = some (.agg #[iV 0, iV 0, .bool false, .slice none 0 0]) := by kernel_rfl
theorem Zb6 : ElemT Tryz.prog 26 2 1 8 (iV 0) := ⟨Yx, Xb, Ro, Nc, rfl⟩
theorem Z9y {verts0 : Int} (w : World) {r0 : Int} (H : Z09 verts0 = some r0) : Fnc Tryz.prog 156 #[iV verts0] w [] (fun v N => v = iV r0 ∧ N = []) := by
 unfold Z09 at H; refine Fnc.enter (vs := [iV verts0]) Tryz.func156 rfl rfl (Inv.refl w) ?_; refine sR Y1 rfl ?_; refine aN Za ?_; refine sR Y1 rfl ?_; refine aN Za ?_; refine Zo ?_; refine Vj (fun (n4 : Int) => Z2h n4 = some r0) (fun (n4 : Int) => [(3, iV n4)]) (fun (n4 : Int) => []) ?_ ?_
 ·
  refine T.block ?_; obtain ⟨a5, a6, a7⟩ := Zu H; refine Lu (fun (a3 : Nat) (n1 : Int) => Xl (fun s => Z1a verts0 s) a3 n1 = some a5) (fun (a3 : Nat) (n1 : Int) => [(0, iV verts0), (3, iV n1)]) (fun (a3 : Nat) (n1 : Int) => []) (fun (a3 : Nat) (n1 : Int) => a3) Yz 1 a6 (aF rfl) Zg ?_; rintro a3 n1 H; obtain ⟨a8, a9, rfl, H, a4⟩ := Ug H; have H : Z1a verts0 n1 = some a9 := H; unfold Z1a at H; refine Zo ?_; refine sR Y3 rfl ?_; refine Zd Za ?_; refine Zd Za ?_; refine Zv Zq ?_; refine dN ?_; rcases Zw H with ⟨g2, H⟩ | ⟨g2, H⟩
  · refine Xs rfl g2 ?_; refine T.skip ?_; refine Yg ?_; refine T.block ?_; obtain ⟨g3, H⟩ := Yh H; refine rG Y3 rfl ?_; refine Zd Za ?_; refine TO.shl1 g3 Zb ?_; refine Xx Za ?_; refine Ze ?_; refine Xz ?_; have H := Vs H a4; exact Rp a8 (n1 * 2) H (Nat.lt_succ_self _) (aF rfl) Zg
  · refine Xo rfl g2 ?_; refine T.exit ?_; refine Xv ?_; have H := Wk H a4 ▸ a7; refine Xv ?_; refine Vl ?_; exact Wm n1 H (aF rfl) Zg
 · rintro n4 H; unfold Z2h at H; refine sR Y2 rfl ?_; refine Zd Za ?_; refine aN Za ?_; refine T.ret ?_; obtain rfl := ret1 H; exact Ya Za (Res.tmp rfl) Zg ⟨rfl, rfl⟩
theorem Gc {n0 : Int} {c1 : Layout} {a3 : Nat} (w : World) (hin : Inv w (([(eC a3 #[iV c1.Verts, iV c1.Arcs, iV c1.Workers, iV c1.Room, iV c1.Res, iV c1.Ex, iV c1.H, iV c1.Flag, iV c1.Pending, iV c1.Ask, iV c1.Count, iV c1.Sense, iV c1.Deques, iV c1.Size] 31)] : Heap).filterMap Prod.fst) w [(eC a3 #[iV c1.Verts, iV c1.Arcs, iV c1.Workers, iV c1.Room, iV c1.Res, iV c1.Ex, iV c1.H, iV c1.Flag, iV c1.Pending, iV c1.Ask, iV c1.Count, iV c1.Sense, iV c1.Deques, iV c1.Size] 31)]) {r0 : Int} {o0 : Layout} (H : Uh n0 c1 = some (r0, o0)) : Fnc Tryz.prog 157 #[iV n0, pV a3] w (([(eC a3 #[iV c1.Verts, iV c1.Arcs, iV c1.Workers, iV c1.Room, iV c1.Res, iV c1.Ex, iV c1.H, iV c1.Flag, iV c1.Pending, iV c1.Ask, iV c1.Count, iV c1.Sense, iV c1.Deques, iV c1.Size] 31)] : Heap).filterMap Prod.fst) (fun v N => v = iV r0 ∧ N = [(eC a3 #[iV c1.Verts, iV c1.Arcs, iV c1.Workers, iV c1.Room, iV c1.Res, iV c1.Ex, iV c1.H, iV c1.Flag, iV c1.Pending, iV c1.Ask, iV c1.Count, iV c1.Sense, iV c1.Deques, iV o0.Size] 31)]) := by
 unfold Uh at H; refine Fnc.enter (vs := [iV n0, pV a3]) Tryz.func157 rfl rfl hin ?_; refine sR Y1 rfl ?_; refine aN Za ?_; obtain ⟨g2, H⟩ := Yh H; refine sR Y6 rfl ?_; refine Zi Za Z1z ?_; refine Zm Za Zt Zk rfl ?_; refine Zd Za ?_; refine Xk g2 Zb ?_; refine Zi Za Z1z ?_; refine Wj (cs' := [iV c1.Verts, iV c1.Arcs, iV c1.Workers, iV c1.Room, iV c1.Res, iV c1.Ex, iV c1.H, iV c1.Flag, iV c1.Pending, iV c1.Ask, iV c1.Count, iV c1.Sense, iV c1.Deques, iV (c1.Size + n0)]) Za Zf Yf Zp ?_; refine dN ?_; obtain ⟨g3, H⟩ := Yh H; refine sR Y5 rfl ?_; refine Zi Za Z1z ?_; refine Zm Za Zt Zk rfl ?_; refine Zd Za ?_; refine Gb g3 Zb ?_; refine aN Za ?_; refine Zs (aT [3] rfl) ?_; refine T.ret ?_; obtain ⟨rfl, rfl⟩ := ret2 H; exact Ya Za (Res.tmp rfl) (Zc Zf Zg) ⟨rfl, rfl⟩
theorem Z67 {verts0 arcs1 workers2 : Int} (w : World) {r0 : Layout} {r1 : Int} (H : Gw verts0 arcs1 workers2 = some (r0, r1)) : Fnc Tryz.prog 71 #[iV verts0, iV arcs1, iV workers2] w [] (fun v N => v = .tuple #[.agg #[iV r0.Verts, iV r0.Arcs, iV r0.Workers, iV r0.Room, iV r0.Res, iV r0.Ex, iV r0.H, iV r0.Flag, iV r0.Pending, iV r0.Ask, iV r0.Count, iV r0.Sense, iV r0.Deques, iV r0.Size], iV r1] ∧ N = []) := by
 unfold Gw at H; refine Fnc.enter (vs := [iV verts0, iV arcs1, iV workers2]) Tryz.func71 rfl rfl (Inv.refl w) ?_; refine sR Y2 rfl ?_; refine Xg Zp Z2r ?_; intro b1; refine aN Za ?_; refine Zo ?_; refine sR Y22 rfl ?_; refine Zd Za ?_; refine Zv Zq ?_; refine Zd Za ?_; refine TO.join [3, 4, 5] [6, 7, 8, 9, 10, 11, 12, 13, 14, 15, 16, 17, 18, 19, 20, 21] rfl 15 (fun b4 => Lb verts0 arcs1 workers2 b4 = some (r0, r1)) [(0, iV verts0), (1, iV arcs1), (2, iV workers2), (6, pV b1)] ?_ ?_
 ·
  rcases Zw H with ⟨g3, H⟩ | ⟨g3, H⟩
  · refine Yn (t := 12) (b' := true) rfl (decide_eq_true g3) ?_; refine Zr Za ?_; refine Zr Za ?_; refine Xw Zb ?_; refine Ze ?_; exact Wv (b := true) H (aF rfl)
  · refine Yn (t := 12) (b' := false) rfl (decide_eq_false g3) ?_; refine Zd Za ?_; refine Zv Zq ?_; refine Wa Zb ?_; refine Ze ?_; exact Wv (b := (decide (4096 < verts0))) H (aF rfl)
 ·
  rintro b4 H; unfold Lb at H; refine Zd Za ?_; refine TO.join [7, 8, 9] [10, 11, 12, 13, 14, 15, 16, 17, 18, 19, 20, 21] rfl 19 (fun b6 => Ns verts0 arcs1 workers2 b6 = some (r0, r1)) [(0, iV verts0), (1, iV arcs1), (2, iV workers2), (6, pV b1)] ?_ ?_
  ·
   rcases Zw H with ⟨g5, H⟩ | ⟨g5, H⟩
   · refine Yn (t := 16) (b' := true) rfl g5 ?_; refine Zr Za ?_; refine Zr Za ?_; refine Xw Zb ?_; refine Ze ?_; exact Wv (b := true) H (aF rfl)
   · refine Yn (t := 16) (b' := false) rfl (Bool.eq_false_iff.2 g5) ?_; refine Zd Za ?_; refine Zv Zq ?_; refine Wa Zb ?_; refine Ze ?_; exact Wv (b := (decide (arcs1 < 0))) H (aF rfl)
  ·
   rintro b6 H; unfold Ns at H; refine Zd Za ?_; refine TO.join [11, 12, 13] [14, 15, 16, 17, 18, 19, 20, 21] rfl 23 (fun b8 => Ld verts0 arcs1 workers2 b8 = some (r0, r1)) [(0, iV verts0), (1, iV arcs1), (2, iV workers2), (6, pV b1)] ?_ ?_
   ·
    rcases Zw H with ⟨g7, H⟩ | ⟨g7, H⟩
    · refine Yn (t := 20) (b' := true) rfl g7 ?_; refine Zr Za ?_; refine Zr Za ?_; refine Xw Zb ?_; refine Ze ?_; exact Wv (b := true) H (aF rfl)
    · refine Yn (t := 20) (b' := false) rfl (Bool.eq_false_iff.2 g7) ?_; refine Zd Za ?_; refine Zv Zq ?_; refine Wa Zb ?_; refine Ze ?_; exact Wv (b := (decide (32768 < arcs1))) H (aF rfl)
   ·
    rintro b8 H; unfold Ld at H; refine Zd Za ?_; refine TO.join [15, 16, 17] [18, 19, 20, 21] rfl 27 (fun c7 => Nu verts0 arcs1 workers2 c7 = some (r0, r1)) [(0, iV verts0), (1, iV arcs1), (2, iV workers2), (6, pV b1)] ?_ ?_
    ·
     rcases Zw H with ⟨g9, H⟩ | ⟨g9, H⟩
     · refine Yn (t := 24) (b' := true) rfl g9 ?_; refine Zr Za ?_; refine Zr Za ?_; refine Xw Zb ?_; refine Ze ?_; exact Wv (b := true) H (aF rfl)
     · refine Yn (t := 24) (b' := false) rfl (Bool.eq_false_iff.2 g9) ?_; refine Zd Za ?_; refine Zv Zq ?_; refine Wa Zb ?_; refine Ze ?_; exact Wv (b := (decide (workers2 < 1))) H (aF rfl)
    ·
     rintro c7 H; unfold Nu at H; refine Zd Za ?_; refine TO.join [19, 20, 21] [] rfl 31 (fun c8 => Nr verts0 arcs1 workers2 c8 = some (r0, r1)) [(0, iV verts0), (1, iV arcs1), (2, iV workers2), (6, pV b1)] ?_ ?_
     ·
      rcases Zw H with ⟨b9, H⟩ | ⟨b9, H⟩
      · refine Yn (t := 28) (b' := true) rfl b9 ?_; refine Zr Za ?_; refine Zr Za ?_; refine Xw Zb ?_; refine Ze ?_; exact Wv (b := true) H (aF rfl)
      · refine Yn (t := 28) (b' := false) rfl (Bool.eq_false_iff.2 b9) ?_; refine Zd Za ?_; refine Zv Zq ?_; refine Wa Zb ?_; refine Ze ?_; exact Wv (b := (decide (64 < workers2))) H (aF rfl)
     ·
      rintro c8 H; unfold Nr at H; refine dN ?_; rcases Zw H with ⟨c3, H⟩ | ⟨c3, H⟩
      · refine Xq ⟨rfl, c3⟩ ?_; refine sR Y3 rfl ?_; refine Wr (t := 31) [iV 0, iV 0, iV 0, iV 0, iV 0, iV 0, iV 0, iV 0, iV 0, iV 0, iV 0, iV 0, iV 0, iV 0] [0, 1, 2, 3, 4, 5, 6, 7, 8, 9, 10, 11, 12, 13] Za (by simp only [Wb, setCells, Value.cells, List.toList_toArray, List.getD_cons_zero, List.getD_cons_succ, List.set_cons_zero, List.set_cons_succ]; rfl) (by kernel_rfl) ?_; refine Yy Za Zf Z04 Zp ?_; refine aN Za ?_; refine T.ret ?_; refine Zz ?_; obtain ⟨rfl, rfl⟩ := ret2 H; exact Ja Za (Vi rfl Z1s Zk rfl) (Res.tmp rfl) Zg ⟨rfl, rfl⟩
      · refine Wp rfl (Bool.eq_false_iff.2 c3) ?_; refine T.skip ?_; refine Yg ?_; refine Zo ?_; obtain ⟨a3, d0, H⟩ := Zu H; refine rG Y8 rfl ?_; refine Zd Za ?_; refine Zd Za ?_; refine Zd Za ?_; refine Zd Za ?_; refine Yl Z8v Za (fun wc hwc => Z9y (verts0 := verts0) wc  d0) ?_; rintro _ _ ⟨rfl, rfl⟩; refine Wr (t := 31) [iV 0, iV 0, iV 0, iV 0, iV 0, iV 0, iV 0, iV 0, iV 0, iV 0, iV 0, iV 0, iV 0, iV 0] [0, 1, 2, 3, 4, 5, 6, 7, 8, 9, 10, 11, 12, 13] Za (by simp only [Wb, setCells, Value.cells, List.toList_toArray, List.getD_cons_zero, List.getD_cons_succ, List.set_cons_zero, List.set_cons_succ]; rfl) (by kernel_rfl) ?_; refine Xg Zp Z2r ?_; intro f0; refine Yy Za Zf Z04 Zp ?_; refine dN ?_; refine sR Y2 rfl ?_; refine TO.makeFunc Zb ?_; refine aN Za ?_; refine Zs (aT [0, 1, 2, 6, 8, 9] rfl) ?_; refine Zo ?_; obtain ⟨⟨a4, c9⟩, d1, H⟩ := Zu H; refine rG Y5 rfl ?_; refine Zd Za ?_; refine Zd Za ?_; refine Kl Jq Zb (Take.gone Zf (Gone.refl _)) rfl (fun wc hwc => Gc (n0 := arcs1) (c1 := (Layout.mk verts0 arcs1 workers2 a3 0 0 0 0 0 0 0 0 0 0)) wc (hwc.self (Zc Zf Zg) rfl)  d1) ?_; rintro _ _ ⟨rfl, rfl⟩; refine Zi Za Za4 ?_; refine Wj (cs' := [iV verts0, iV arcs1, iV workers2, iV a3, iV a4, iV 0, iV 0, iV 0, iV 0, iV 0, iV 0, iV 0, iV 0, iV c9.Size]) Za Zf Yf Zp ?_; refine dS ?_; obtain ⟨⟨a5, d2⟩, d4, H⟩ := Zu H; obtain ⟨⟨a6, d5⟩, d6, H⟩ := Zu H; obtain ⟨⟨a7, b5⟩, d7, H⟩ := Zu H; refine rG Y15 rfl ?_; refine Zd Za ?_; refine Zd Za ?_; refine Kl Jq Zb (Take.gone Zf (Gone.refl _)) rfl (fun wc hwc => Gc (n0 := verts0) (c1 := (Layout.mk verts0 arcs1 workers2 a3 a4 0 0 0 0 0 0 0 0 c9.Size)) wc (hwc.self (Zc Zf Zg) rfl)  d4) ?_; rintro _ _ ⟨rfl, rfl⟩; refine Zd Za ?_; refine Zd Za ?_; refine Kl Jq Zb (Take.gone Zf (Gone.refl _)) rfl (fun wc hwc => Gc (n0 := verts0) (c1 := (Layout.mk verts0 arcs1 workers2 a3 a4 0 0 0 0 0 0 0 0 d2.Size)) wc (hwc.self (Zc Zf Zg) rfl)  d6) ?_; rintro _ _ ⟨rfl, rfl⟩; refine Zd Za ?_; refine Zd Za ?_; refine Kl Jq Zb (Take.gone Zf (Gone.refl _)) rfl (fun wc hwc => Gc (n0 := verts0) (c1 := (Layout.mk verts0 arcs1 workers2 a3 a4 0 0 0 0 0 0 0 0 d5.Size)) wc (hwc.self (Zc Zf Zg) rfl)  d7) ?_; rintro _ _ ⟨rfl, rfl⟩; refine Zi Za Zba ?_; refine Wj (cs' := [iV verts0, iV arcs1, iV workers2, iV a3, iV a4, iV a5, iV 0, iV 0, iV 0, iV 0, iV 0, iV 0, iV 0, iV b5.Size]) Za Zf Yf Zp ?_; refine Zi Za Za1 ?_; refine Wj (cs' := [iV verts0, iV arcs1, iV workers2, iV a3, iV a4, iV a5, iV a6, iV 0, iV 0, iV 0, iV 0, iV 0, iV 0, iV b5.Size]) Za Zf Yf Zp ?_; refine Zi Za Z8u ?_; refine Wj (cs' := [iV verts0, iV arcs1, iV workers2, iV a3, iV a4, iV a5, iV a6, iV a7, iV 0, iV 0, iV 0, iV 0, iV 0, iV b5.Size]) Za Zf Yf Zp ?_; refine dN ?_; refine Zs (aT [2, 6, 8, 9] rfl) ?_; refine Zo ?_; obtain ⟨⟨a8, d8⟩, d9, H⟩ := Zu H; obtain ⟨⟨a9, e0⟩, e1, H⟩ := Zu H; obtain ⟨⟨b7, e2⟩, e3, H⟩ := Zu H; obtain ⟨⟨c4, b0⟩, e4, H⟩ := Zu H; refine rG Y16 rfl ?_; refine Zd Za ?_; refine Kl Jq Zb (Take.gone Zf (Gone.refl _)) rfl (fun wc hwc => Gc (n0 := 1) (c1 := (Layout.mk verts0 arcs1 workers2 a3 a4 a5 a6 a7 0 0 0 0 0 b5.Size)) wc (hwc.self (Zc Zf Zg) rfl)  d9) ?_; rintro _ _ ⟨rfl, rfl⟩; refine Zd Za ?_; refine Kl Jq Zb (Take.gone Zf (Gone.refl _)) rfl (fun wc hwc => Gc (n0 := 1) (c1 := (Layout.mk verts0 arcs1 workers2 a3 a4 a5 a6 a7 0 0 0 0 0 d8.Size)) wc (hwc.self (Zc Zf Zg) rfl)  e1) ?_; rintro _ _ ⟨rfl, rfl⟩; refine Zd Za ?_; refine Kl Jq Zb (Take.gone Zf (Gone.refl _)) rfl (fun wc hwc => Gc (n0 := 1) (c1 := (Layout.mk verts0 arcs1 workers2 a3 a4 a5 a6 a7 0 0 0 0 0 e0.Size)) wc (hwc.self (Zc Zf Zg) rfl)  e3) ?_; rintro _ _ ⟨rfl, rfl⟩; refine Zd Za ?_; refine Kl Jq Zb (Take.gone Zf (Gone.refl _)) rfl (fun wc hwc => Gc (n0 := 1) (c1 := (Layout.mk verts0 arcs1 workers2 a3 a4 a5 a6 a7 0 0 0 0 0 e2.Size)) wc (hwc.self (Zc Zf Zg) rfl)  e4) ?_; rintro _ _ ⟨rfl, rfl⟩; refine Zi Za Z95 ?_; refine Wj (cs' := [iV verts0, iV arcs1, iV workers2, iV a3, iV a4, iV a5, iV a6, iV a7, iV a8, iV 0, iV 0, iV 0, iV 0, iV b0.Size]) Za Zf Yf Zp ?_; refine Zi Za Zaa ?_; refine Wj (cs' := [iV verts0, iV arcs1, iV workers2, iV a3, iV a4, iV a5, iV a6, iV a7, iV a8, iV a9, iV 0, iV 0, iV 0, iV b0.Size]) Za Zf Yf Zp ?_; refine Zi Za Z8r ?_; refine Wj (cs' := [iV verts0, iV arcs1, iV workers2, iV a3, iV a4, iV a5, iV a6, iV a7, iV a8, iV a9, iV b7, iV 0, iV 0, iV b0.Size]) Za Zf Yf Zp ?_; refine Zi Za Z9c ?_; refine Wj (cs' := [iV verts0, iV arcs1, iV workers2, iV a3, iV a4, iV a5, iV a6, iV a7, iV a8, iV a9, iV b7, iV c4, iV 0, iV b0.Size]) Za Zf Yf Zp ?_; refine dN ?_; refine Zs (aT [2, 6, 8, 9] rfl) ?_; refine Zo ?_; obtain ⟨e5, e6, H⟩ := Ud H; obtain ⟨⟨e7, e8⟩, e9, H⟩ := Zu H; refine rG Y9 rfl ?_; refine Zd Za ?_; refine Zd Za ?_; refine Zi Za Z7t ?_; refine Zm Za Zt Zk rfl ?_; refine Xk e5 Zb ?_; refine TO.mulG e6 Zb ?_; refine Kl Jq Zb (Take.gone Zf (Gone.refl _)) rfl (fun wc hwc => Gc (n0 := (workers2 * (a3 + 2))) (c1 := (Layout.mk verts0 arcs1 workers2 a3 a4 a5 a6 a7 a8 a9 b7 c4 0 b0.Size)) wc (hwc.self (Zc Zf Zg) rfl)  e9) ?_; rintro _ _ ⟨rfl, rfl⟩; refine Zi Za Z80 ?_; refine Wj (cs' := [iV verts0, iV arcs1, iV workers2, iV a3, iV a4, iV a5, iV a6, iV a7, iV a8, iV a9, iV b7, iV c4, iV e7, iV e8.Size]) Za Zf Yf Zp ?_; refine dN ?_; refine Zs (aT [6, 8] rfl) ?_; refine sR Y3 rfl ?_; refine Yw Za Z1s Zk rfl ?_; refine Yy Za Ye Z04 Zp ?_; refine aN Za ?_; refine T.ret ?_; obtain ⟨rfl, rfl⟩ := ret2 H; exact Ja Za (Vi rfl Z1s Zk rfl) (Res.tmp rfl) Zg ⟨rfl, rfl⟩
theorem Z9e {n0 : Int} (w : World) {r0 : CellsBank} {r1 : Int} (H : Z0z n0 = some (r0, r1)) : Fnc Tryz.prog 73 #[iV n0] w [] (fun v N => ∃ (a6 : Nat) (a3 : Option Nat) (a4 a5 : Nat) (a7 : List Value), v = .tuple #[pV a6, iV r1] ∧ N = [(eC a6 #[sV a3 a4 a5] 221), (eA a3 Kt r0.l a7 226)] ∧ r0.l.length = a4 ∧ a4 ≤ a5 ∧ a7.length = (a5 - a4) * 1 ∧ (a3 = none → a5 = 0)) := by
 unfold Z0z at H; refine Fnc.enter (vs := [iV n0]) Tryz.func73 rfl rfl (Inv.refl w) ?_; refine sR Y2 rfl ?_; refine Xx Za ?_; refine aN Za ?_; refine Zo ?_; refine Zo ?_; refine Vj (fun (x2 : Bool) => Z0l n0 x2 = some (r0, r1)) (fun (x2 : Bool) => [(0, iV n0), (9, .bool x2)]) (fun (x2 : Bool) => []) ?_ ?_
 ·
  rcases Zw H with ⟨g1, H⟩ | ⟨g1, H⟩
  · refine rG Y6 rfl ?_; refine Zd Za ?_; refine Zv Zq ?_; refine Zd Za ?_; refine Yn (t := 6) (b' := true) rfl (decide_eq_true g1) ?_; refine Zr Za ?_; refine Zr Za ?_; refine Xw Zb ?_; refine Ze ?_; exact Wm true H (aF rfl) Zg
  · refine rG Y6 rfl ?_; refine Zd Za ?_; refine Zv Zq ?_; refine Zd Za ?_; refine Yn (t := 6) (b' := false) rfl (decide_eq_false g1) ?_; refine Zd Za ?_; refine Zv Zq ?_; refine Wa Zb ?_; refine Ze ?_; exact Wm (decide (524288 < n0)) H (aF rfl) Zg
 ·
  rintro x2 H; unfold Z0l at H; rcases Zw H with ⟨g3, H⟩ | ⟨g3, H⟩
  · cases H
  · refine Wp rfl (Bool.eq_false_iff.2 g3) ?_; refine T.skip ?_; refine Yg ?_; obtain ⟨g4, H⟩ := Yh H; refine sR Y6 rfl ?_; refine Zd Za ?_; refine TO.mkS (f := Kt) (zc := default) g4 rr8 Z85 Z9q Zbe Z8h rfl ?_; intro b5; refine Wr (t := 221) [.slice none 0 0] [0] Za (by simp only [Wb, setCells, Value.cells, List.toList_toArray, List.getD_cons_zero, List.getD_cons_succ, List.set_cons_zero, List.set_cons_succ]; rfl) (by kernel_rfl) ?_; refine Xp Za ?_; intro b7; refine Xx Za ?_; refine aN Za ?_; refine T.ret ?_; obtain ⟨rfl, rfl⟩ := ret2 H; exact Ja Za (Res.tmp rfl) (Res.tmp rfl) (Zc Zf (Zc Zf Zg)) ⟨b7, (some b5), n0.toNat, n0.toNat, ([]), rfl, rfl, List.length_replicate, (Nat.le_refl _), (Xd _ _), Wf⟩
theorem Z8i {c0 : Csr} {workers1 limit2 : Int} {a7 c4 b6 c9 c8 a8 : Option Addr} {b0 b5 a5 a9 c3 a3 c7 a6 b7 d0 b9 a4 : Nat} (w : World) (d9 : RS w [] iC 1 a7 b0 b5 c0.First) (d6 : RS w [] iC 1 c4 a5 a9 c0.Head) (d7 : RS w [] iC 1 b6 c3 a3 c0.Rev) (d8 : RS w [] iC 1 c9 c7 a6 c0.Cap) (d5 : RS w [] iC 1 c8 b7 d0 c0.Arc) (d4 : RS w [] boolC 1 a8 b9 a4 c0.Back) {r0 : CrewCrew} {r1 : Int} (H : Z02 c0 workers1 limit2 = some (r0, r1)) : Fnc Tryz.prog 25 #[.agg #[iV c0.N, iV c0.S, iV c0.T, .slice a7 b0 b5, .slice c4 a5 a9, .slice b6 c3 a3, .slice c9 c7 a6, .slice c8 b7 d0, .slice a8 b9 a4], iV workers1, iV limit2] w [] (fun v N => ∃ (g7 g8 : Nat) (d2 : Option Nat) (f2 f3 : Nat) (g9 : List Value), v = .tuple #[pV g7, iV r1] ∧ N = [(eC g7 #[iV r0.c.N, iV r0.c.S, iV r0.c.T, .slice a7 b0 b5, .slice c4 a5 a9, .slice b6 c3 a3, .slice c9 c7 a6, .slice c8 b7 d0, .slice a8 b9 a4, iV r0.l.Verts, iV r0.l.Arcs, iV r0.l.Workers, iV r0.l.Room, iV r0.l.Res, iV r0.l.Ex, iV r0.l.H, iV r0.l.Flag, iV r0.l.Pending, iV r0.l.Ask, iV r0.l.Count, iV r0.l.Sense, iV r0.l.Deques, iV r0.l.Size, pV g8, iV r0.limit] 80), (eC g8 #[sV d2 f2 f3] 221), (eA d2 Kt r0.b.l g9 226)] ∧ r0.b.l.length = f2 ∧ f2 ≤ f3 ∧ g9.length = (f3 - f2) * 1 ∧ (d2 = none → f3 = 0)) := by
 unfold Z02 at H; refine Fnc.enter (vs := [.agg #[iV c0.N, iV c0.S, iV c0.T, .slice a7 b0 b5, .slice c4 a5 a9, .slice b6 c3 a3, .slice c9 c7 a6, .slice c8 b7 d0, .slice a8 b9 a4], iV workers1, iV limit2]) Tryz.func25 rfl rfl (Inv.refl w) ?_; refine sR Y3 rfl ?_; refine Xp Za ?_; intro b1; refine Xx Za ?_; refine aN Za ?_; refine Zo ?_; obtain ⟨r3, e4, H⟩ := Zu H; obtain ⟨⟨r5, r6⟩, e7, H⟩ := Zu H; apply Ku [rV [] _, rV [0] _, rV [] _, rV [2] _, rV [] _, rV [1, 3, 4] _, rV [5] _, rV [6] _, rV [6] _, ⟨[], false, [], fun _ v e => ∃ (b8 : Nat), v = pV b8 ∧ e = [(eC b8 #[iV 0, iV 0, iV 0, iV 0, iV 0, iV 0, iV 0, iV 0, iV 0, iV 0, iV 0, iV 0, iV 0, iV 0] 31)]⟩, ⟨[7, 9], false, [9], fun vl _ e => e = [(some (Rn (vl.getD 1 undef)), .cells #[(Zx (vl.getD 0 undef) 0), (Zx (vl.getD 0 undef) 1), (Zx (vl.getD 0 undef) 2), (Zx (vl.getD 0 undef) 3), (Zx (vl.getD 0 undef) 4), (Zx (vl.getD 0 undef) 5), (Zx (vl.getD 0 undef) 6), (Zx (vl.getD 0 undef) 7), (Zx (vl.getD 0 undef) 8), (Zx (vl.getD 0 undef) 9), (Zx (vl.getD 0 undef) 10), (Zx (vl.getD 0 undef) 11), (Zx (vl.getD 0 undef) 12), (Zx (vl.getD 0 undef) 13)] 31 (0, 0))]⟩] [12, 13, 14, 15, 16, 17, 11, 18, 19, 8] 11 (HRk [[]]) [[]] [] [(eC b1 #[iV c0.N, iV c0.S, iV c0.T, .slice a7 b0 b5, .slice c4 a5 a9, .slice b6 c3 a3, .slice c9 c7 a6, .slice c8 b7 d0, .slice a8 b9 a4] 29)]
 · exact Xt
 · exact rfl
 · kernel_rfl
 · kernel_rfl
 · kernel_rfl
 · exact rfl
 · exact rfl
 · exact rfl
 · exact rfl
 · exact Xc (by repeat constructor)
 ·
  refine ⟨?_, ?_, ?_, ?_, ?_, ?_, ?_, ?_, ?_, ?_, ?_, trivial⟩
  · rintro vs es Es Hx -; refine Zh (D := []) rfl ?_; refine Zi Za Ua ?_; refine Ze ?_; exact Zl rfl ⟨rfl, rfl⟩ (Zj _) rfl
  · rintro vs es Es Hx ⟨⟨e2, f5⟩, -⟩; refine Zh (D := [(12, vs 0)]) rfl ?_; rw [e2]; refine Zm Za Zt Zk rfl ?_; refine Ze ?_; exact Zl rfl ⟨rfl, rfl⟩ (Zj _) (by show [(12, vs 0)] = _; rw [e2])
  · rintro vs es Es Hx -; refine Zh (D := []) rfl ?_; refine Yw Za Wh Zk rfl ?_; refine Ze ?_; exact Zl rfl ⟨rfl, rfl⟩ (Zj _) rfl
  · rintro vs es Es Hx ⟨⟨e3, f6⟩, -⟩; refine Zh (D := [(14, vs 2)]) rfl ?_; rw [e3]; refine Yl Z1x Za (fun wc hwc => Z2b (c0 := c0) wc (d9.mono hwc) (d6.mono hwc) (d7.mono hwc) (d8.mono hwc) (d5.mono hwc) (d4.mono hwc) e4) ?_; rintro _ _ ⟨rfl, rfl⟩; refine Ze ?_; exact Zl rfl ⟨rfl, rfl⟩ (Zj _) (by show [(14, vs 2)] = _; rw [e3])
  · rintro vs es Es Hx -; refine Zh (D := []) rfl ?_; refine Zd Za ?_; refine Ze ?_; exact Zl rfl ⟨rfl, rfl⟩ (Zj _) rfl
  · rintro vs es Es Hx ⟨⟨e5, f7⟩, ⟨e6, f8⟩, ⟨e8, f9⟩, -⟩; refine Zh (D := [(13, vs 1), (15, vs 3), (16, vs 4)]) rfl ?_; rw [e5, e6, e8]; refine Yl Z5s Za (fun wc hwc => Z67 (verts0 := c0.N) (arcs1 := r3) (workers2 := workers1) wc  e7) ?_; rintro _ _ ⟨rfl, rfl⟩; refine Ze ?_; exact Zl rfl ⟨rfl, rfl⟩ (Zj _) (by show [(13, vs 1), (15, vs 3), (16, vs 4)] = _; rw [e5, e6, e8])
  · rintro vs es Es Hx ⟨⟨e9, g0⟩, -⟩; refine Zh (D := [(17, vs 5)]) rfl ?_; rw [e9]; refine Zd Za ?_; refine Ze ?_; exact Zl rfl ⟨rfl, rfl⟩ (Zj _) (by show [(17, vs 5)] = _; rw [e9])
  · rintro vs es Es Hx ⟨⟨d1, f4⟩, -⟩; refine Zh (D := [(11, vs 6)]) rfl ?_; rw [d1]; refine TO.extract Zb ?_; refine Ze ?_; exact Zl rfl ⟨rfl, rfl⟩ (Zj _) (by show [(11, vs 6)] = _; rw [d1])
  · rintro vs es Es Hx ⟨⟨d1, f4⟩, -⟩; refine Zh (D := [(11, vs 6)]) rfl ?_; rw [d1]; refine TO.extract Zb ?_; refine Ze ?_; exact Zl rfl ⟨rfl, rfl⟩ (Zj _) (by show [(11, vs 6)] = _; rw [d1])
  · rintro vs es Es Hx -; refine Zh (D := []) rfl ?_; refine Xg Zp Z2r ?_; intro b8; refine Ze ?_; exact Zl rfl ⟨b8, rfl, rfl⟩ (Xc (by repeat constructor)) rfl
  · rintro vs es Es Hx ⟨⟨e0, f0⟩, ⟨b8, e1, g1⟩, -⟩; refine Zh (D := [(18, vs 7), (8, vs 9)]) rfl ?_; rw [e0, e1]; refine Wl (H := _ ++ ((es 7 ++ (es 9 ++ ([]))) ++ _)) rfl ?_; rw [f0, g1]; refine Yy Za Ye Z04 Zp ?_; refine Wl (H := [(some (Rn (vs 9)), .cells #[(Zx (vs 7) 0), (Zx (vs 7) 1), (Zx (vs 7) 2), (Zx (vs 7) 3), (Zx (vs 7) 4), (Zx (vs 7) 5), (Zx (vs 7) 6), (Zx (vs 7) 7), (Zx (vs 7) 8), (Zx (vs 7) 9), (Zx (vs 7) 10), (Zx (vs 7) 11), (Zx (vs 7) 12), (Zx (vs 7) 13)] 31 (0, 0)), (eC b1 #[iV c0.N, iV c0.S, iV c0.T, .slice a7 b0 b5, .slice c4 a5 a9, .slice b6 c3 a3, .slice c9 c7 a6, .slice c8 b7 d0, .slice a8 b9 a4] 29)] ++ Hx) (by rw [e0, e1] <;> rfl) ?_; refine Ze ?_; exact X.obQn rfl rfl (by show Pick (_ ++ (_ ++ ((es 7 ++ ([])) ++ _))) _; rw [f0]; exact Xc (by repeat constructor)) (by show [(18, vs 7), (8, vs 9)] = _; rw [e0, e1])
 ·
  rintro vs es hb ⟨⟨e2, f5⟩, ⟨e5, f7⟩, ⟨e3, f6⟩, ⟨e6, f8⟩, ⟨e8, f9⟩, ⟨e9, g0⟩, ⟨d1, f4⟩, ⟨e0, f0⟩, ⟨h1, h2⟩, ⟨b8, e1, g1⟩, f1, -⟩ hHR; obtain rfl : hb = [] := hHR; refine Zh (D := [(12, vs 0), (13, vs 1), (14, vs 2), (15, vs 3), (16, vs 4), (17, vs 5), (11, vs 6), (18, vs 7), (19, vs 8), (8, vs 9)]) rfl ?_; refine Wl (H := [(eC b1 #[iV c0.N, iV c0.S, iV c0.T, .slice a7 b0 b5, .slice c4 a5 a9, .slice b6 c3 a3, .slice c9 c7 a6, .slice c8 b7 d0, .slice a8 b9 a4] 29), (some (Rn (vs 9)), .cells #[(Zx (vs 7) 0), (Zx (vs 7) 1), (Zx (vs 7) 2), (Zx (vs 7) 3), (Zx (vs 7) 4), (Zx (vs 7) 5), (Zx (vs 7) 6), (Zx (vs 7) 7), (Zx (vs 7) 8), (Zx (vs 7) 9), (Zx (vs 7) 10), (Zx (vs 7) 11), (Zx (vs 7) 12), (Zx (vs 7) 13)] 31 (0, 0))]) (by show _ ++ (_ ++ (es 0 ++ (es 1 ++ (es 2 ++ (es 3 ++ (es 4 ++ (es 5 ++ (es 6 ++ (es 7 ++ (es 8 ++ (es 10 ++ ([])))))))))))) = _; rw [f5, f7, f6, f8, f9, g0, f4, f0, h2, f1]; rfl) ?_; rw [e2, e5, e3, e6, e8, e9, d1, e0, h1, e1]; refine Wl (H := [(eC b1 #[iV c0.N, iV c0.S, iV c0.T, .slice a7 b0 b5, .slice c4 a5 a9, .slice b6 c3 a3, .slice c9 c7 a6, .slice c8 b7 d0, .slice a8 b9 a4] 29), (eC b8 #[iV r5.Verts, iV r5.Arcs, iV r5.Workers, iV r5.Room, iV r5.Res, iV r5.Ex, iV r5.H, iV r5.Flag, iV r5.Pending, iV r5.Ask, iV r5.Count, iV r5.Sense, iV r5.Deques, iV r5.Size] 31)]) rfl ?_; clear e1 h1 e0 d1 e9 e8 e6 e3 e5 e2 f5 f7 f6 f8 f9 g0 f4 f0 h2 g1 f1; refine aN Za ?_; refine Zs (aT [2, 3, 8, 9] rfl) ?_; refine Zo ?_; refine T.block ?_; refine sR Y3 rfl ?_; refine Zd Za ?_; refine Zv Zq ?_; refine aN Za ?_; rcases Zw H with ⟨h3, H⟩ | ⟨h3, H⟩
  · cases H
  ·
   refine Xo rfl h3 ?_; refine sR Y3 rfl ?_; refine Zd Za ?_; refine Zv Zq ?_; refine aN Za ?_; rcases Zw H with ⟨h4, H⟩ | ⟨h4, H⟩
   · cases H
   ·
    refine Xo rfl h4 ?_; refine T.skip ?_; refine Xz ?_; refine Yg ?_; refine Zo ?_; obtain ⟨⟨i4, i5⟩, h6, H⟩ := Zu H; refine rG Y8 rfl ?_; refine Zi Za Z1z ?_; refine Zm Za Zt Yi rfl ?_; refine Yl Z9b Za (fun wc hwc => Z9e (n0 := r5.Size) wc  h6) ?_; rintro _ _ ⟨h7, g2, h8, h9, i1, rfl, rfl, g3, g4, g5, g6⟩; refine Zd Za ?_; refine TO.extract Zb ?_; refine TO.extract Zb ?_; refine Xx Za ?_; refine aN Za ?_; refine Zs (aT [2, 3, 8, 9, 10] rfl) ?_; refine Zo ?_; refine sR Y2 rfl ?_; refine Zd Za ?_; refine Zv Zq ?_; refine dN ?_; rcases Zw H with ⟨h5, H⟩ | ⟨h5, H⟩
    · cases H
    · refine Xo rfl h5 ?_; refine T.skip ?_; refine Yg ?_; refine sR Y8 rfl ?_; refine Yw Za Wh Xn rfl ?_; refine Yw Za Z1s Wc rfl ?_; refine Zd Za ?_; refine Zd Za ?_; refine Wr (t := 80) [iV 0, iV 0, iV 0, .slice none 0 0, .slice none 0 0, .slice none 0 0, .slice none 0 0, .slice none 0 0, .slice none 0 0, iV 0, iV 0, iV 0, iV 0, iV 0, iV 0, iV 0, iV 0, iV 0, iV 0, iV 0, iV 0, iV 0, iV 0, .pointer none, iV 0] [0, 9, 23, 24] Za (by simp only [Wb, setCells, Value.cells, List.toList_toArray, List.getD_cons_zero, List.getD_cons_succ, List.set_cons_zero, List.set_cons_succ]; rfl) (by kernel_rfl) ?_; refine Xp Za ?_; intro i2; refine Xx Za ?_; refine aN Za ?_; refine Zs (aT [6, 7] rfl) ?_; refine T.ret ?_; obtain ⟨rfl, rfl⟩ := ret2 H; exact Ja Za (Res.tmp rfl) (Res.tmp rfl) (Zc Zf (Zc Zf (Zc Zf Zg))) ⟨i2, h7, g2, h8, h9, i1, rfl, rfl, g3, g4, g5, g6⟩
theorem Z27 {c0 : Csr} {a7 c3 b6 c8 c7 a8 : Option Addr} {b0 b5 a5 a9 b9 a3 c4 a6 b7 d0 b8 a4 : Nat} (w : World) (e0 : RS w [] iC 1 a7 b0 b5 c0.First) (d7 : RS w [] iC 1 c3 a5 a9 c0.Head) (d8 : RS w [] iC 1 b6 b9 a3 c0.Rev) (d9 : RS w [] iC 1 c8 c4 a6 c0.Cap) (d6 : RS w [] iC 1 c7 b7 d0 c0.Arc) (d5 : RS w [] boolC 1 a8 b8 a4 c0.Back) {r0 : Pre} (H : Gx c0 = some r0) : Fnc Tryz.prog 27 #[.agg #[iV c0.N, iV c0.S, iV c0.T, .slice a7 b0 b5, .slice c3 a5 a9, .slice b6 b9 a3, .slice c8 c4 a6, .slice c7 b7 d0, .slice a8 b8 a4]] w [] (fun v N => ∃ (d1 : Option Nat) (e1 e2 : Nat) (g2 : List Value) (d2 : Option Nat) (e3 e4 : Nat) (g3 : List Value) (d4 : Option Nat) (e5 e7 : Nat) (g4 : List Value), v = .agg #[sV d1 e1 e2, sV d2 e3 e4, sV d4 e5 e7] ∧ N = [(eI d1 r0.Res g2 2), (eI d2 r0.Ex g3 2), (eI d4 r0.H g4 3)] ∧ r0.Res.length = e1 ∧ e1 ≤ e2 ∧ g2.length = (e2 - e1) * 1 ∧ (d1 = none → e2 = 0) ∧ r0.Ex.length = e3 ∧ e3 ≤ e4 ∧ g3.length = (e4 - e3) * 1 ∧ (d2 = none → e4 = 0) ∧ r0.H.length = e5 ∧ e5 ≤ e7 ∧ g4.length = (e7 - e5) * 1 ∧ (d4 = none → e7 = 0)) := by
 unfold Gx at H; refine Fnc.enter (vs := [.agg #[iV c0.N, iV c0.S, iV c0.T, .slice a7 b0 b5, .slice c3 a5 a9, .slice b6 b9 a3, .slice c8 c4 a6, .slice c7 b7 d0, .slice a8 b8 a4]]) Tryz.func27 rfl rfl (Inv.refl w) ?_; refine sR Y2 rfl ?_; refine Xp Za ?_; intro b1; refine Xg Zp Km ?_; intro b3; refine dS ?_; obtain ⟨r5, e6, H⟩ := Zu H; refine rG Y3 rfl ?_; refine Yw Za Wh Yi rfl ?_; refine Yl Z9d Za (fun wc hwc => Zaw (c0 := c0) wc (e0.mono hwc) (d7.mono hwc) (d8.mono hwc) (d9.mono hwc) (d6.mono hwc) (d5.mono hwc) e6) ?_; rintro _ _ ⟨g5, n8, c9, g6, e8, g7, g8, g9, e9, h1, h2, h3, rfl, rfl, f0, f1, f2, f3, f4, f5, f6, f7, f8, f9, g0, g1⟩; refine Yy Za We Kj Zp ?_; refine dN ?_; refine T.ret ?_; obtain rfl := ret1 H; exact Ya Za (Vi rfl Ka Zk rfl) (Zc Ye (Zc Ye (Zc Ye Zg))) ⟨g5, n8, c9, g6, e8, g7, g8, g9, e9, h1, h2, h3, rfl, rfl, f0, f1, f2, f3, f4, f5, f6, f7, f8, f9, g0, g1⟩
theorem Z7n {v0 : Int} {c1 : Csr} {c2 : List Int} {d0 a5 a6 a9 b0 a8 b9 b1 a3 a4 a7 c3 b8 d1 d5 d7 : Nat} {c8 c7 c4 c9 b6 b5 d6 : Option Addr} (w : World) (e1 : RS w [] iC 1 c8 a5 a6 c1.First) (e2 : RS w [] iC 1 c7 a9 b0 c1.Head) (e3 : RS w [] iC 1 c4 a8 b9 c1.Rev) (d8 : RS w [] iC 1 c9 b1 a3 c1.Cap) (d9 : RS w [] iC 1 b6 a4 a7 c1.Arc) (e0 : RS w [] boolC 1 b5 c3 b8 c1.Back) (b7 : HB w [] d0 [iV c1.N, iV c1.S, iV c1.T, .slice c8 a5 a6, .slice c7 a9 b0, .slice c4 a8 b9, .slice c9 b1 a3, .slice b6 a4 a7, .slice b5 c3 b8]) (d4 : RS w [] iC 1 d6 d5 d7 c2) (d2 : HB w [] d1 [.slice d6 d5 d7]) {r0 : Bool} (H : Z29 v0 c1 c2 = some r0) : Fnc Tryz.prog 158 #[iV v0, pV d0, pV d1] w [] (fun v N => v = .bool r0 ∧ N = []) := by
 unfold Z29 at H; refine Fnc.enter (vs := [iV v0, pV d0, pV d1]) Tryz.func158 rfl rfl (Inv.refl w) ?_; refine sR Y1 rfl ?_; refine aN Za ?_; refine Zo ?_; rcases Zw H with ⟨g1, H⟩ | ⟨g1, H⟩
 · obtain ⟨g2, H⟩ := Yh H; refine rG Y12 rfl ?_; refine Zd Za ?_; refine Zi Za Gi ?_; refine Uw b7 Zb Zt ?_; refine Zv Zq ?_; refine Zd Za ?_; refine Yn (t := 9) (b' := true) rfl (decide_eq_true g1) ?_; refine Uw d2 Zb Wq ?_; refine Zd Za ?_; refine Vb d4 g2 Zb Yx Xb ?_; refine Up d4 g2 Za Wn ?_; refine Zv Zq ?_; refine Xw Zb ?_; refine aN Za ?_; refine Zs (aT [4] rfl) ?_; refine T.ret ?_; obtain rfl := ret1 H; exact Ya Za (Res.tmp rfl) Zg ⟨rfl, rfl⟩
 · refine rG Y12 rfl ?_; refine Zd Za ?_; refine Zi Za Gi ?_; refine Uw b7 Zb Zt ?_; refine Zv Zq ?_; refine Zd Za ?_; refine Yn (t := 9) (b' := false) rfl (decide_eq_false g1) ?_; refine Zr Za ?_; refine Zr Za ?_; refine Zr Za ?_; refine Zr Za ?_; refine Zr Za ?_; refine Wa Zb ?_; refine aN Za ?_; refine Zs (aT [4] rfl) ?_; refine T.ret ?_; obtain rfl := ret1 H; exact Ya Za (Res.tmp rfl) Zg ⟨rfl, rfl⟩
theorem Z7r {s10 s21 : List Int} {a7 a8 : Option Addr} {a4 a6 a5 a9 : Nat} (w : World) (a3 : RS w [] iC 1 a7 a4 a6 s10) (b0 : RS w [] iC 1 a8 a5 a9 s21) {r0 : Bool} (H : Z10 s10 s21 = some r0) : Fnc Tryz.prog 102 #[.slice a7 a4 a6, .slice a8 a5 a9] w [] (fun v N => v = .bool r0 ∧ N = []) := by
 unfold Z10 at H; refine Fnc.enter (vs := [.slice a7 a4 a6, .slice a8 a5 a9]) Tryz.func102 rfl rfl (Inv.refl w) ?_; refine sR Y1 rfl ?_; refine aN Za ?_; refine Zo ?_; refine sR Y5 rfl ?_; refine Zd Za ?_; refine Va (xs := s10) a3.len Zb Yx ?_; refine Zd Za ?_; refine Va (xs := s21) b0.len Zb Yx ?_; refine Zv Zq ?_; refine dN ?_; rcases Zw H with ⟨g1, H⟩ | ⟨g1, H⟩
 · refine Xs rfl g1 ?_; refine sR Y1 rfl ?_; refine aN Za ?_; refine T.ret ?_; refine Zz ?_; obtain rfl := ret1 H; exact Ya Za (Res.tmp rfl) Zg ⟨rfl, rfl⟩
 ·
  refine Xo rfl g1 ?_; refine T.skip ?_; refine Yg ?_; refine Zo ?_; refine sR Y3 rfl ?_; refine Zd Za ?_; refine Va (xs := s10) a3.len Zb Yx ?_; refine Zd Za ?_; refine dN ?_; refine Vj (fun (u8 : Unit) => Z1t = some r0) (fun (u8 : Unit) => []) (fun (u8 : Unit) => []) ?_ ?_
  ·
   refine T.block ?_; obtain ⟨b7, b8, b6⟩ := Zu H; refine Lu (fun (b1 : Nat) (x2 : Int) => Xl (fun s => Z0k s10 s21 s) b1 x2 = some b7) (fun (b1 : Nat) (x2 : Int) => [(0, .slice a7 a4 a6), (1, .slice a8 a5 a9), (12, iV (s10.length : Int)), (13, iV x2)]) (fun (b1 : Nat) (x2 : Int) => []) (fun (b1 : Nat) (x2 : Int) => b1) Yz 0 b8 (aF rfl) Zg ?_; rintro b1 x2 H; obtain ⟨b9, c3, rfl, H, b5⟩ := Ug H; have H : Z0k s10 s21 x2 = some c3 := H; unfold Z0k at H; refine sR Y1 rfl ?_; refine Zv Zq ?_; refine dS ?_; rcases Zw H with ⟨g3, H⟩ | ⟨g3, H⟩
   ·
    refine Xs rfl g3 ?_; refine T.skip ?_; refine Yg ?_; refine Zo ?_; refine T.block ?_; refine sR Y2 rfl ?_; refine Zd Za ?_; refine aN Za ?_; refine Zo ?_; obtain ⟨g4, g5, H⟩ := Ud H; refine Vn 8 [0, 1, 2, 3, 4, 5, 6, 7] rfl Xt (by kernel_rfl) (by kernel_rfl) rfl (by kernel_rfl) ?_; refine TQ.move Za ?_; refine TQ.move Za ?_; refine Kp a3 g4 Zb Yx Xb ?_; refine Kf a3 g4 Za Wn ?_; refine TQ.move Za ?_; refine TQ.move Za ?_; refine Kp b0 g5 Zb Yx Xb ?_; refine Kf b0 g5 Za Wn ?_; refine TQ.tail [8] Yv ?_; refine Zv Zq ?_; refine dN ?_; refine Zs (aT [0, 1, 12, 13, 24] rfl) ?_; rcases Zw H with ⟨g6, H⟩ | ⟨g6, H⟩
    · refine Xs rfl g6 ?_; refine sR Y1 rfl ?_; refine aN Za ?_; refine T.ret ?_; refine Xi ?_; refine Zz ?_; have H := Wk H b5 ▸ b6; refine Zz ?_; refine Xi ?_; refine Zz ?_; obtain rfl := ret1 H; exact Ya Za (Res.tmp rfl) Zg ⟨rfl, rfl⟩
    · refine Xo rfl g6 ?_; refine T.skip ?_; refine Xz ?_; refine Yg ?_; obtain ⟨g7, H⟩ := Yh H; refine rG Y2 rfl ?_; refine Xk g7 Zb ?_; refine Zd Za ?_; refine Ze ?_; have H := Vs H b5; exact Rp b9 (x2 + 1) H (Nat.lt_succ_self _) (aF rfl) Zg
   · refine Xo rfl g3 ?_; refine T.exit ?_; refine Xv ?_; have H := Wk H b5 ▸ b6; refine Xv ?_; refine Vl ?_; exact Wm () H Ri Zg
  · rintro u8 H; unfold Z1t at H; refine sR Y1 rfl ?_; refine aN Za ?_; refine T.ret ?_; obtain rfl := ret1 H; exact Ya Za (Res.tmp rfl) Zg ⟨rfl, rfl⟩
theorem Z50 {c0 : Csr} {p1 : Pre} {b7 d8 c9 e1 e0 b8 a5 d6 d5 : Option Addr} {c7 c8 b0 c4 d7 a6 d9 b5 d1 e2 d2 a8 a3 a4 b6 b9 d4 d0 : Nat} (w : World) (f1 : RS w [] iC 1 b7 c7 c8 c0.First) (a9 : RS w [] iC 1 d8 b0 c4 c0.Head) (e7 : RS w [] iC 1 c9 d7 a6 c0.Rev) (c3 : RS w [] iC 1 e1 d9 b5 c0.Cap) (f0 : RS w [] iC 1 e0 d1 e2 c0.Arc) (e5 : RS w [] boolC 1 b8 d2 a8 c0.Back) (a7 : RS w [] iC 1 a5 a3 a4 p1.Res) (f2 : RS w [] iC 1 d6 b6 b9 p1.Ex) (h4 : RS w [] iC 1 d5 d4 d0 p1.H) {r0 : Bool} (H : Z1m c0 p1 = some r0) : Fnc Tryz.prog 78 #[.agg #[iV c0.N, iV c0.S, iV c0.T, .slice b7 c7 c8, .slice d8 b0 c4, .slice c9 d7 a6, .slice e1 d9 b5, .slice e0 d1 e2, .slice b8 d2 a8], .agg #[.slice a5 a3 a4, .slice d6 b6 b9, .slice d5 d4 d0]] w [] (fun v N => v = .bool r0 ∧ N = []) := by
 unfold Z1m at H; refine Fnc.enter (vs := [.agg #[iV c0.N, iV c0.S, iV c0.T, .slice b7 c7 c8, .slice d8 b0 c4, .slice c9 d7 a6, .slice e1 d9 b5, .slice e0 d1 e2, .slice b8 d2 a8], .agg #[.slice a5 a3 a4, .slice d6 b6 b9, .slice d5 d4 d0]]) Tryz.func78 rfl rfl (Inv.refl w) ?_; refine sR Y3 rfl ?_; refine Xp Za ?_; intro b1; refine Xp Za ?_; intro b3; refine aN Za ?_; refine Zo ?_; refine Zo ?_; obtain ⟨r5, e6, H⟩ := Zu H; rcases Zw H with ⟨g7, H⟩ | ⟨g7, H⟩
 · refine Vn 12 [0, 1, 2, 3, 4, 5, 6, 7, 8, 9, 10, 11] rfl Xt (by kernel_rfl) (by kernel_rfl) rfl (by kernel_rfl) ?_; refine Xy Za Jj ?_; refine Xj Za Wq Zk rfl ?_; refine Nl (xs := p1.Res) a7.len Zb Yx ?_; refine Jo Za Wh Yi rfl ?_; refine Z12 Z1x Za (fun wc hwc => Z2b (c0 := c0) wc (f1.mono hwc) (a9.mono hwc) (e7.mono hwc) (c3.mono hwc) (f0.mono hwc) (e5.mono hwc) e6) (by rintro _ _ ⟨rfl, rfl⟩; rfl) ?_; refine Un Zq ?_; refine TQ.move Za ?_; refine Vv (t := 18) (b' := true) rfl (decide_eq_true g7) ?_; refine Ys Za ?_; refine Ys Za ?_; refine Ys Za ?_; refine Ys Za ?_; refine Ys Za ?_; refine TQ.tail [12, 13] Yv ?_; refine Zr Za ?_; refine Xw Zb ?_; refine dN ?_; refine Zs (aT [2, 3, 25] rfl) ?_; refine Xq Yv ?_; refine sR Y1 rfl ?_; refine aN Za ?_; refine T.ret ?_; refine Zz ?_; obtain rfl := ret1 H; exact Ya Za (Res.tmp rfl) Zg ⟨rfl, rfl⟩
 ·
  refine Vn 12 [0, 1, 2, 3, 4, 5, 6, 7, 8, 9, 10, 11] rfl Xt (by kernel_rfl) (by kernel_rfl) rfl (by kernel_rfl) ?_; refine Xy Za Jj ?_; refine Xj Za Wq Zk rfl ?_; refine Nl (xs := p1.Res) a7.len Zb Yx ?_; refine Jo Za Wh Yi rfl ?_; refine Z12 Z1x Za (fun wc hwc => Z2b (c0 := c0) wc (f1.mono hwc) (a9.mono hwc) (e7.mono hwc) (c3.mono hwc) (f0.mono hwc) (e5.mono hwc) e6) (by rintro _ _ ⟨rfl, rfl⟩; rfl) ?_; refine Un Zq ?_; refine TQ.move Za ?_; refine Vv (t := 18) (b' := false) rfl (decide_eq_false g7) ?_; refine Xy Za Rb ?_; refine Xj Za Wq Zk rfl ?_; refine Nl (xs := p1.Ex) f2.len Zb Yx ?_; refine Xy Za Ua ?_; refine Xj Za Zt Yi rfl ?_; refine TQ.tail [12, 13] Yv ?_; refine Zv Zq ?_; refine Wa Zb ?_; refine dN ?_; refine Zs (aT [2, 3, 25] rfl) ?_; rcases Zw H with ⟨g8, H⟩ | ⟨g8, H⟩
  · refine Xs rfl g8 ?_; refine sR Y1 rfl ?_; refine aN Za ?_; refine T.ret ?_; refine Zz ?_; obtain rfl := ret1 H; exact Ya Za (Res.tmp rfl) Zg ⟨rfl, rfl⟩
  ·
   refine Xo rfl g8 ?_; refine T.skip ?_; refine Yg ?_; obtain ⟨g9, H⟩ := Yh H; refine sR Y5 rfl ?_; refine Zi Za Ua ?_; refine Zm Za Zt Yi rfl ?_; refine Gf g9 Zb Yx Xb Nc Ro rfl ?_; intro f3; refine TO.alloc Zp Z7q ?_; intro f4; refine Wj (cs' := [nV f3 c0.N.toNat c0.N.toNat]) Za Zf Z4x Zp ?_; refine dS ?_; refine sR Y4 rfl ?_; refine Zi Za Jj ?_; refine Zm Za Wq Xn rfl ?_; refine Va (xs := p1.Res) a7.len Zb Yx ?_; refine Zd Za ?_; refine dN ?_; refine Vj (fun (e4 : List Int) => Z0c c0 p1 e4 = some r0 ∧ e4.length = c0.N.toNat) (fun (e4 : List Int) => [(2, pV b1), (3, pV b3), (5, pV f4)]) (fun (e4 : List Int) => [(eC b1 #[iV c0.N, iV c0.S, iV c0.T, .slice b7 c7 c8, .slice d8 b0 c4, .slice c9 d7 a6, .slice e1 d9 b5, .slice e0 d1 e2, .slice b8 d2 a8] 29), (eC b3 #[.slice a5 a3 a4, .slice d6 b6 b9, .slice d5 d4 d0] 53), (eC f4 #[nV f3 c0.N.toNat c0.N.toNat] 26), (eI (some f3) e4 ([]) 2)]) ?_ ?_
   ·
    refine T.block ?_; obtain ⟨j1, j2, g0⟩ := Zu H; refine Z0d (fun (f6 : Nat) (e3 : List Int) (e8 : Int) => Xl (fun s => Z0o c0 p1 s.1 s.2) f6 (e3, e8) = some j1 ∧ e3.length = c0.N.toNat) (fun (f6 : Nat) (e3 : List Int) (e8 : Int) => [(2, pV b1), (3, pV b3), (5, pV f4), (30, .slice a5 a3 a4), (31, iV (p1.Res.length : Int)), (32, iV e8)]) (fun (f6 : Nat) (e3 : List Int) (e8 : Int) => [(eC b1 #[iV c0.N, iV c0.S, iV c0.T, .slice b7 c7 c8, .slice d8 b0 c4, .slice c9 d7 a6, .slice e1 d9 b5, .slice e0 d1 e2, .slice b8 d2 a8] 29), (eC b3 #[.slice a5 a3 a4, .slice d6 b6 b9, .slice d5 d4 d0] 53), (eC f4 #[nV f3 c0.N.toNat c0.N.toNat] 26), (eI (some f3) e3 ([]) 2)]) (fun (f6 : Nat) (e3 : List Int) (e8 : Int) => f6) Yz (List.replicate c0.N.toNat (0 : Int)) 0 ⟨j2, List.length_replicate⟩ (aF rfl) (Zc We (Zc Yt (Zc Zf (Zc Zf Zg)))) ?_; rintro f6 e3 e8 ⟨H, e9⟩; obtain ⟨h5, j3, rfl, H, f7⟩ := Ug H; have H : Z0o c0 p1 e3 e8 = some j3 := H; unfold Z0o at H; refine sR Y1 rfl ?_; refine Zv Zq ?_; refine dS ?_; rcases Zw H with ⟨g2, H⟩ | ⟨g2, H⟩
    ·
     refine Xs rfl g2 ?_; refine T.skip ?_; refine Yg ?_; refine Zo ?_; refine T.block ?_; obtain ⟨h6, H⟩ := Yh H; refine sR Y5 rfl ?_; refine Zd Za ?_; refine Vb a7 h6 Zb Yx Xb ?_; refine Up a7 h6 Za Wn ?_; refine Xx Za ?_; refine aN Za ?_; obtain ⟨h7, H⟩ := Yh H; refine sR Y6 rfl ?_; refine Zi Za Lv ?_; refine Zm Za Xu Zk rfl ?_; refine Zd Za ?_; refine Vb e7 h7 Zb Yq Yf ?_; refine Up e7 h7 Za Zt ?_; refine aN Za ?_; refine Zs (aT [2, 3, 5, 30, 31, 32, 6, 7, 8] rfl) ?_; refine Zo ?_; obtain ⟨h8, h9, H⟩ := Ud H; refine Vn 10 [0, 1, 2, 3, 4, 5, 6, 7, 8, 9] rfl Xt (by kernel_rfl) (by kernel_rfl) rfl (by kernel_rfl) ?_; refine Xy Za Z0v ?_; refine Xj Za Wq Zk rfl ?_; refine TQ.move Za ?_; refine Kp c3 h8 Zb Yx Xb ?_; refine Kf c3 h8 Za Wn ?_; refine Xy Za Z0v ?_; refine Xj Za Wq Zk rfl ?_; refine TQ.move Za ?_; refine Kp c3 h9 Zb Yx Xb ?_; refine Kf c3 h9 Za Wn ?_; refine TQ.tail [10, 11] Yv ?_; refine TO.max2 Zb ?_; refine aN Za ?_; refine Zs (aT [2, 3, 5, 30, 31, 32, 6, 7, 8, 9] rfl) ?_; refine Zo ?_; refine Zo ?_; rcases Zw H with ⟨g1, H⟩ | ⟨g1, H⟩
     · refine rG Y18 rfl ?_; refine Zd Za ?_; refine Zv Zq ?_; refine Zd Za ?_; refine Yn (t := 55) (b' := true) rfl (decide_eq_true g1) ?_; refine Zr Za ?_; refine Zr Za ?_; refine Zr Za ?_; refine Xw Zb ?_; refine Zd Za ?_; refine Zr Za ?_; refine Zr Za ?_; refine Zr Za ?_; refine Zr Za ?_; refine Zr Za ?_; refine Zr Za ?_; refine Zr Za ?_; refine Zr Za ?_; refine Zr Za ?_; refine Xw Zb ?_; refine dN ?_; refine Xq Yv ?_; refine sR Y1 rfl ?_; refine aN Za ?_; refine Zs (aT [4] rfl) ?_; refine T.ret ?_; refine Zz ?_; refine Xi ?_; refine Zz ?_; have H := Wk H f7 ▸ g0; refine Zz ?_; refine Xi ?_; refine Zz ?_; obtain rfl := ret1 H; exact Ya Za (Res.tmp rfl) Zg ⟨rfl, rfl⟩
     ·
      rcases Zw H with ⟨g3, H⟩ | ⟨g3, H⟩
      · refine rG Y18 rfl ?_; refine Zd Za ?_; refine Zv Zq ?_; refine Zd Za ?_; refine Yn (t := 55) (b' := false) rfl (decide_eq_false g1) ?_; refine Zd Za ?_; refine Zd Za ?_; refine Zv Zq ?_; refine Wa Zb ?_; refine Zd Za ?_; refine Yn (t := 60) (b' := true) rfl (decide_eq_true g3) ?_; refine Zr Za ?_; refine Zr Za ?_; refine Zr Za ?_; refine Zr Za ?_; refine Zr Za ?_; refine Zr Za ?_; refine Zr Za ?_; refine Zr Za ?_; refine Zr Za ?_; refine Xw Zb ?_; refine dN ?_; refine Xq Yv ?_; refine sR Y1 rfl ?_; refine aN Za ?_; refine Zs (aT [4] rfl) ?_; refine T.ret ?_; refine Zz ?_; refine Xi ?_; refine Zz ?_; have H := Wk H f7 ▸ g0; refine Zz ?_; refine Xi ?_; refine Zz ?_; obtain rfl := ret1 H; exact Ya Za (Res.tmp rfl) Zg ⟨rfl, rfl⟩
      ·
       obtain ⟨i1, j4, H⟩ := Ud H; refine rG Y18 rfl ?_; refine Zd Za ?_; refine Zv Zq ?_; refine Zd Za ?_; refine Yn (t := 55) (b' := false) rfl (decide_eq_false g1) ?_; refine Zd Za ?_; refine Zd Za ?_; refine Zv Zq ?_; refine Wa Zb ?_; refine Zd Za ?_; refine Yn (t := 60) (b' := false) rfl (decide_eq_false g3) ?_; refine Zi Za Jj ?_; refine Zm Za Wq Yi rfl ?_; refine Zd Za ?_; refine Vb a7 i1 Zb Yx Xb ?_; refine Up a7 i1 Za Wn ?_; refine Zd Za ?_; refine Zd Za ?_; refine Gb j4 Zb ?_; refine Zv Zq ?_; refine Wa Zb ?_; refine dN ?_; rcases Zw H with ⟨g4, H⟩ | ⟨g4, H⟩
       · refine Xs rfl g4 ?_; refine sR Y1 rfl ?_; refine aN Za ?_; refine Zs (aT [4] rfl) ?_; refine T.ret ?_; refine Zz ?_; refine Xi ?_; refine Zz ?_; have H := Wk H f7 ▸ g0; refine Zz ?_; refine Xi ?_; refine Zz ?_; obtain rfl := ret1 H; exact Ya Za (Res.tmp rfl) Zg ⟨rfl, rfl⟩
       ·
        refine Xo rfl g4 ?_; refine T.skip ?_; refine Yg ?_; obtain ⟨i2, H⟩ := Yh H; refine sR Y5 rfl ?_; refine Zi Za Z52 ?_; refine Zm Za Z5g Zk rfl ?_; refine Zd Za ?_; refine Vb e5 i2 Zb Z4t Z2e ?_; refine TO.ldBR e5 i2 Za TWUCR.s4 ?_; refine dN ?_; refine Zs (aT [2, 3, 5, 30, 31, 32, 6, 7, 8, 56, 57, 58, 61, 62, 63, 64, 65, 66, 67, 68, 69, 75] rfl) ?_; rcases Zw H with ⟨g5, H⟩ | ⟨g5, H⟩
        · refine Xq ⟨rfl, g5⟩ ?_; refine Zo ?_; obtain ⟨i4, i5, j5, i6, H⟩ := Ki H; refine Vn 9 [0, 1, 2, 3, 4, 5, 6, 7, 8] rfl Xt (by kernel_rfl) (by kernel_rfl) rfl (by kernel_rfl) ?_; refine Xj Za Wq Xn rfl ?_; refine Xy Za Nh ?_; refine Xj Za Xu Zk rfl ?_; refine TQ.move Za ?_; refine Kp a9 i4 Zb Yq Yf ?_; refine Kf a9 i4 Za Zt ?_; refine TQ.ix1 e9 i5 Zb Yx Xb ?_; refine Z4c i5 Za Wn Wc ?_; refine TQ.move Za ?_; refine TQ.tail [9, 10, 11] Yv ?_; refine Gb j5 Zb ?_; refine Ue e9 i6 Zb Yx Xb ?_; refine Jr i6 Za We Xb ?_; refine dN ?_; refine Zs (aT [2, 3, 5, 30, 31, 32, 7, 8, 56, 57, 58, 61, 62, 63, 64, 65, 66, 67, 68, 69] rfl) ?_; obtain ⟨i7, i8, j6, i9, H⟩ := Ki H; refine Vn 9 [0, 1, 2, 3, 4, 5, 6, 7, 8] rfl Xt (by kernel_rfl) (by kernel_rfl) rfl (by kernel_rfl) ?_; refine Xj Za Wq Wc rfl ?_; refine Xy Za Nh ?_; refine Xj Za Xu Yi rfl ?_; refine TQ.move Za ?_; refine Kp a9 i7 Zb Yq Yf ?_; refine Kf a9 i7 Za Zt ?_; refine TQ.ix1 (List.length_set.trans e9) i8 Zb Yx Xb ?_; refine Z4c i8 Za Wn Zk ?_; refine TQ.move Za ?_; refine TQ.tail [9, 10, 11] Yv ?_; refine Xk j6 Zb ?_; refine Ue (List.length_set.trans e9) i9 Zb Yx Xb ?_; refine Jr i9 Za Zf Xb ?_; refine Ze ?_; refine Xz ?_; refine Yg ?_; refine Zs (aT [2, 3, 5, 30, 31, 32, 56, 57, 58, 61, 62, 63, 64, 65, 66, 67, 68, 69] rfl) ?_; obtain ⟨j7, H⟩ := Yh H; refine rG Y2 rfl ?_; refine Xk j7 Zb ?_; refine Zd Za ?_; refine Ze ?_; have H := Vs H f7; exact No h5 ((e3.set (c0.Head.getD e8.toNat 0).toNat ((e3.getD (c0.Head.getD e8.toNat 0).toNat 0) - (p1.Res.getD e8.toNat 0))).set (c0.Head.getD (c0.Rev.getD e8.toNat 0).toNat 0).toNat (((e3.set (c0.Head.getD e8.toNat 0).toNat ((e3.getD (c0.Head.getD e8.toNat 0).toNat 0) - (p1.Res.getD e8.toNat 0))).getD (c0.Head.getD (c0.Rev.getD e8.toNat 0).toNat 0).toNat 0) + (p1.Res.getD e8.toNat 0))) (e8 + 1) ⟨H, (List.length_set.trans (List.length_set.trans e9))⟩ (Nat.lt_succ_self _) (aF rfl) (Zc Ye (Zc Ye (Zc Ye (Zc Zf Zg))))
        · refine Wp rfl (Bool.eq_false_iff.2 g5) ?_; refine T.skip ?_; refine Xz ?_; refine Yg ?_; obtain ⟨j8, H⟩ := Yh H; refine rG Y2 rfl ?_; refine Xk j8 Zb ?_; refine Zd Za ?_; refine Ze ?_; have H := Vs H f7; exact No h5 e3 (e8 + 1) ⟨H, e9⟩ (Nat.lt_succ_self _) (aF rfl) (Zc Zf (Zc Zf (Zc Zf (Zc Zf Zg))))
    · refine Xo rfl g2 ?_; refine T.exit ?_; refine Xv ?_; have H := Wk H f7 ▸ g0; refine Xv ?_; refine Vl ?_; exact Wm e3 ⟨H, e9⟩ (aF rfl) (Zc Zf (Zc Zf (Zc Zf (Zc Zf Zg))))
   ·
    rintro e4 ⟨H, f9⟩; unfold Z0c at H; refine sR Y2 rfl ?_; refine TO.makeFunc Zb ?_; refine aN Za ?_; refine Zo ?_; refine sR Y3 rfl ?_; refine Zi Za Ua ?_; refine Zm Za Zt Zk rfl ?_; refine Zd Za ?_; refine dN ?_; refine Vj (fun (g6 : Unit) => Z1e p1 e4 = some r0) (fun (g6 : Unit) => [(3, pV b3), (5, pV f4)]) (fun (g6 : Unit) => [(eC b3 #[.slice a5 a3 a4, .slice d6 b6 b9, .slice d5 d4 d0] 53), (eC f4 #[nV f3 c0.N.toNat c0.N.toNat] 26), (eI (some f3) e4 ([]) 2)]) ?_ ?_
    ·
     refine T.block ?_; obtain ⟨j9, k1, j0⟩ := Zu H; refine Lu (fun (f8 : Nat) (f5 : Int) => Xl (fun s => Z0x c0 e4 s) f8 f5 = some j9) (fun (f8 : Nat) (f5 : Int) => [(3, pV b3), (5, pV f4), (10, .func (.func 158) #[] #[pV b1, pV f4]), (101, iV c0.N), (102, iV f5)]) (fun (f8 : Nat) (f5 : Int) => [(eC b3 #[.slice a5 a3 a4, .slice d6 b6 b9, .slice d5 d4 d0] 53), (eC f4 #[nV f3 c0.N.toNat c0.N.toNat] 26), (eI (some f3) e4 ([]) 2), (eC b1 #[iV c0.N, iV c0.S, iV c0.T, .slice b7 c7 c8, .slice d8 b0 c4, .slice c9 d7 a6, .slice e1 d9 b5, .slice e0 d1 e2, .slice b8 d2 a8] 29)]) (fun (f8 : Nat) (f5 : Int) => f8) Yz 0 k1 (aF rfl) (Zc Ye (Zc Ye (Zc Ye (Zc Zf Zg)))) ?_; rintro f8 f5 H; obtain ⟨k2, k3, rfl, H, h1⟩ := Ug H; have H : Z0x c0 e4 f5 = some k3 := H; unfold Z0x at H; refine sR Y1 rfl ?_; refine Zv Zq ?_; refine dS ?_; rcases Zw H with ⟨h2, H⟩ | ⟨h2, H⟩
     ·
      refine Xs rfl h2 ?_; refine T.skip ?_; refine Yg ?_; refine Zo ?_; refine T.block ?_; refine sR Y2 rfl ?_; refine Zd Za ?_; refine aN Za ?_; refine Zo ?_; obtain ⟨k7, k4, H⟩ := Zu H; refine rG Y3 rfl ?_; refine Zd Za ?_; refine Zd Za ?_; refine Uq Zb5 Zb (fun wc hwc => Z7n (v0 := f5) (c1 := c0) (c2 := e4) wc (f1.mono hwc) (a9.mono hwc) (e7.mono hwc) (c3.mono hwc) (f0.mono hwc) (e5.mono hwc) (hwc.hb (cs := [iV c0.N, iV c0.S, iV c0.T, .slice b7 c7 c8, .slice d8 b0 c4, .slice c9 d7 a6, .slice e1 d9 b5, .slice e0 d1 e2, .slice b8 d2 a8]) Wc) (Yd hwc Xn f9 (Nat.le_refl _) Wf) (hwc.hb (cs := [nV f3 c0.N.toNat c0.N.toNat]) Yi) k4) ?_; rintro _ _ ⟨rfl, rfl⟩; refine dN ?_; rcases Zw H with ⟨h3, H⟩ | ⟨h3, H⟩
      · refine Xq ⟨rfl, h3⟩ ?_; refine sR Y1 rfl ?_; refine aN Za ?_; refine Zs (aT [4] rfl) ?_; refine T.ret ?_; refine Xi ?_; refine Zz ?_; have H := Wk H h1 ▸ j0; refine Zz ?_; refine Xi ?_; refine Zz ?_; obtain rfl := ret1 H; exact Ya Za (Res.tmp rfl) Zg ⟨rfl, rfl⟩
      · refine Wp rfl (Bool.eq_false_iff.2 h3) ?_; refine T.skip ?_; refine Xz ?_; refine Yg ?_; obtain ⟨k5, H⟩ := Yh H; refine rG Y2 rfl ?_; refine Xk k5 Zb ?_; refine Zd Za ?_; refine Ze ?_; have H := Vs H h1; exact Rp k2 (f5 + 1) H (Nat.lt_succ_self _) (aF rfl) (Zc Zf (Zc Zf (Zc Zf (Zc Zf Zg))))
     · refine Xo rfl h2 ?_; refine T.exit ?_; refine Xv ?_; have H := Wk H h1 ▸ j0; refine Xv ?_; refine Vl ?_; exact Wm () H (aF rfl) (Zc Zf (Zc Zf (Zc Zf Zg)))
    · rintro g6 H; unfold Z1e at H; refine Zo ?_; obtain ⟨k8, k6, H⟩ := Zu H; refine rG Y5 rfl ?_; refine Zm Za Wq Yi rfl ?_; refine Zi Za Rb ?_; refine Zm Za Wq Zk rfl ?_; refine Yl Z9s Za (fun wc hwc => Z7r (s10 := e4) (s21 := p1.Ex) wc (Yd hwc Xn f9 (Nat.le_refl _) Wf) (f2.mono hwc) k6) ?_; rintro _ _ ⟨rfl, rfl⟩; refine aN Za ?_; refine T.ret ?_; obtain rfl := ret1 H; exact Ya Za (Res.tmp rfl) Zg ⟨rfl, rfl⟩
theorem Z8q {h0 : Int} {c1 : Csr} {c9 a5 a6 a9 b0 a8 b8 b1 a3 a4 a7 b9 b7 : Nat} {c7 c3 c4 c8 b6 b5 : Option Addr} (w : World) (d5 : RS w [] iC 1 c7 a5 a6 c1.First) (d6 : RS w [] iC 1 c3 a9 b0 c1.Head) (d7 : RS w [] iC 1 c4 a8 b8 c1.Rev) (d1 : RS w [] iC 1 c8 b1 a3 c1.Cap) (d2 : RS w [] iC 1 b6 a4 a7 c1.Arc) (d4 : RS w [] boolC 1 b5 b9 b7 c1.Back) (d0 : HB w [] c9 [iV c1.N, iV c1.S, iV c1.T, .slice c7 a5 a6, .slice c3 a9 b0, .slice c4 a8 b8, .slice c8 b1 a3, .slice b6 a4 a7, .slice b5 b9 b7]) {r0 : Bool} (H : Z2i h0 c1 = some r0) : Fnc Tryz.prog 80 #[iV h0, pV c9] w [] (fun v N => v = .bool r0 ∧ N = []) := by
 unfold Z2i at H; refine Fnc.enter (vs := [iV h0, pV c9]) Tryz.func80 rfl rfl (Inv.refl w) ?_; refine sR Y1 rfl ?_; refine aN Za ?_; refine Zo ?_; rcases Zw H with ⟨g1, H⟩ | ⟨g1, H⟩
 · refine rG Y9 rfl ?_; refine Zd Za ?_; refine Zv Zq ?_; refine Zd Za ?_; refine Yn (t := 6) (b' := true) rfl (decide_eq_true g1) ?_; refine Zr Za ?_; refine Zr Za ?_; refine Zr Za ?_; refine Zr Za ?_; refine Xw Zb ?_; refine aN Za ?_; refine Zs (aT [3] rfl) ?_; refine T.ret ?_; obtain rfl := ret1 H; exact Ya Za (Res.tmp rfl) Zg ⟨rfl, rfl⟩
 · refine rG Y9 rfl ?_; refine Zd Za ?_; refine Zv Zq ?_; refine Zd Za ?_; refine Yn (t := 6) (b' := false) rfl (decide_eq_false g1) ?_; refine Zd Za ?_; refine Zi Za Ua ?_; refine Uw d0 Zb Zt ?_; refine Zv Zq ?_; refine Wa Zb ?_; refine aN Za ?_; refine Zs (aT [3] rfl) ?_; refine T.ret ?_; obtain rfl := ret1 H; exact Ya Za (Res.tmp rfl) Zg ⟨rfl, rfl⟩
theorem Zab {s0 : List Int} {f1_0 : Csr} {e0 a4 a8 b7 b8 a9 a7 : Option Addr} {d9 d8 a3 b6 b1 a5 c3 b5 b9 c4 b0 c9 c8 a6 c7 : Nat} (w : World) (e1 : RS w [] iC 1 e0 d9 d8 s0) (d5 : RS w [] iC 1 a4 b6 b1 f1_0.First) (d4 : RS w [] iC 1 a8 a5 c3 f1_0.Head) (d2 : RS w [] iC 1 b7 b5 b9 f1_0.Rev) (d0 : RS w [] iC 1 b8 c4 b0 f1_0.Cap) (d7 : RS w [] iC 1 a9 c9 c8 f1_0.Arc) (d6 : RS w [] boolC 1 a7 a6 c7 f1_0.Back) (d1 : HB w [] a3 [iV f1_0.N, iV f1_0.S, iV f1_0.T, .slice a4 b6 b1, .slice a8 a5 c3, .slice b7 b5 b9, .slice b8 c4 b0, .slice a9 c9 c8, .slice a7 a6 c7]) {r0 : Int} (H : Z2d s0 f1_0 = some r0) : Fnc Tryz.prog 159 #[.slice e0 d9 d8, .func (.func 80) #[] #[pV a3]] w [] (fun v N => v = iV r0 ∧ N = []) := by
 unfold Z2d at H; refine Fnc.enter (vs := [.slice e0 d9 d8, .func (.func 80) #[] #[pV a3]]) Tryz.func159 rfl rfl (Inv.refl w) ?_; refine sR Y1 rfl ?_; refine aN Za ?_; refine Zo ?_; refine sR Y3 rfl ?_; refine Zd Za ?_; refine Va (xs := s0) e1.len Zb Yq ?_; refine Zd Za ?_; refine dN ?_; refine Vj (fun (u8 : Unit) => Z4n = some r0) (fun (u8 : Unit) => []) (fun (u8 : Unit) => []) ?_ ?_
 ·
  refine T.block ?_; obtain ⟨e6, e7, e4⟩ := Zu H; refine Lu (fun (e2 : Nat) (x1 : Int) => Xl (fun s => Z0b s0 f1_0 s) e2 x1 = some e6) (fun (e2 : Nat) (x1 : Int) => [(0, .slice e0 d9 d8), (1, .func (.func 80) #[] #[pV a3]), (7, iV (s0.length : Int)), (8, iV x1)]) (fun (e2 : Nat) (x1 : Int) => []) (fun (e2 : Nat) (x1 : Int) => e2) Yz 0 e7 (aF rfl) Zg ?_; rintro e2 x1 H; obtain ⟨e8, e9, rfl, H, e3⟩ := Ug H; have H : Z0b s0 f1_0 x1 = some e9 := H; unfold Z0b at H; refine sR Y1 rfl ?_; refine Zv Zq ?_; refine dS ?_; rcases Zw H with ⟨g2, H⟩ | ⟨g2, H⟩
  ·
   refine Xs rfl g2 ?_; refine T.skip ?_; refine Yg ?_; refine Zo ?_; refine T.block ?_; refine sR Y2 rfl ?_; refine Zd Za ?_; refine aN Za ?_; refine Zo ?_; obtain ⟨g3, H⟩ := Yh H; obtain ⟨r4, e5, H⟩ := Zu H; refine rG Y6 rfl ?_; refine Zd Za ?_; refine Zd Za ?_; refine Zd Za ?_; refine Vb e1 g3 Zb Yq Yf ?_; refine Up e1 g3 Za Zt ?_; refine Uq Z9z Zb (fun wc hwc => Z8q (h0 := (s0.getD x1.toNat 0)) (c1 := f1_0) wc (d5.mono hwc) (d4.mono hwc) (d2.mono hwc) (d0.mono hwc) (d7.mono hwc) (d6.mono hwc) (d1.mono hwc) e5) ?_; rintro _ _ ⟨rfl, rfl⟩; refine dN ?_; rcases Zw H with ⟨g6, H⟩ | ⟨g6, H⟩
   · refine Xq ⟨rfl, g6⟩ ?_; refine sR Y2 rfl ?_; refine Zd Za ?_; refine aN Za ?_; refine Zs (aT [4] rfl) ?_; refine T.ret ?_; refine Xi ?_; refine Zz ?_; have H := Wk H e3 ▸ e4; refine Zz ?_; refine Xi ?_; refine Zz ?_; obtain rfl := ret1 H; exact Ya Za (Res.tmp rfl) Zg ⟨rfl, rfl⟩
   · refine Wp rfl (Bool.eq_false_iff.2 g6) ?_; refine T.skip ?_; refine Xz ?_; refine Yg ?_; refine Zs (aT [0, 1, 7, 8] rfl) ?_; obtain ⟨g7, H⟩ := Yh H; refine rG Y2 rfl ?_; refine Xk g7 Zb ?_; refine Zd Za ?_; refine Ze ?_; have H := Vs H e3; exact Rp e8 (x1 + 1) H (Nat.lt_succ_self _) (aF rfl) Zg
  · refine Xo rfl g2 ?_; refine T.exit ?_; refine Xv ?_; have H := Wk H e3 ▸ e4; refine Xv ?_; refine Vl ?_; exact Wm () H Ri Zg
 · rintro u8 H; unfold Z4n at H; refine sR Y1 rfl ?_; refine aN Za ?_; refine T.ret ?_; obtain rfl := ret1 H; exact Ya Za (Res.tmp rfl) Zg ⟨rfl, rfl⟩
theorem Za9 {s0 : List Int} {f1_0 : Csr} {e0 a3 a7 b6 b7 a8 a6 : Option Addr} {d9 d8 c9 b5 b0 a4 b9 b1 b8 c3 a9 c8 c7 a5 c4 : Nat} (w : World) (e1 : RS w [] iC 1 e0 d9 d8 s0) (d5 : RS w [] iC 1 a3 b5 b0 f1_0.First) (d4 : RS w [] iC 1 a7 a4 b9 f1_0.Head) (d2 : RS w [] iC 1 b6 b1 b8 f1_0.Rev) (d0 : RS w [] iC 1 b7 c3 a9 f1_0.Cap) (d7 : RS w [] iC 1 a8 c8 c7 f1_0.Arc) (d6 : RS w [] boolC 1 a6 a5 c4 f1_0.Back) (d1 : HB w [] c9 [iV f1_0.N, iV f1_0.S, iV f1_0.T, .slice a3 b5 b0, .slice a7 a4 b9, .slice b6 b1 b8, .slice b7 c3 a9, .slice a8 c8 c7, .slice a6 a5 c4]) {r0 : Bool} (H : Z1c s0 f1_0 = some r0) : Fnc Tryz.prog 79 #[.slice e0 d9 d8, .func (.func 80) #[] #[pV c9]] w [] (fun v N => v = .bool r0 ∧ N = []) := by
 unfold Z1c at H; refine Fnc.enter (vs := [.slice e0 d9 d8, .func (.func 80) #[] #[pV c9]]) Tryz.func79 rfl rfl (Inv.refl w) ?_; refine sR Y1 rfl ?_; refine aN Za ?_; refine Zo ?_; obtain ⟨r1, e2, H⟩ := Zu H; refine rG Y5 rfl ?_; refine Zd Za ?_; refine Zd Za ?_; refine Yl Z9w Za (fun wc hwc => Zab (s0 := s0) (f1_0 := f1_0) wc (e1.mono hwc) (d5.mono hwc) (d4.mono hwc) (d2.mono hwc) (d0.mono hwc) (d7.mono hwc) (d6.mono hwc) (d1.mono hwc) e2) ?_; rintro _ _ ⟨rfl, rfl⟩; refine Zv Zq ?_; refine aN Za ?_; refine T.ret ?_; obtain rfl := ret1 H; exact Ya Za (Res.tmp rfl) Zg ⟨rfl, rfl⟩
theorem Z8z {x0 : List Int} {a5 : Option Addr} {a4 a6 : Nat} (w : World) (a3 : RS w [] iC 1 a5 a4 a6 x0) {r0 : Int} (H : Z51 x0 = some r0) : Fnc Tryz.prog 81 #[.slice a5 a4 a6] w [] (fun v N => v = iV r0 ∧ N = []) := by
 unfold Z51 at H; refine Fnc.enter (vs := [.slice a5 a4 a6]) Tryz.func81 rfl rfl (Inv.refl w) ?_; refine sR Y1 rfl ?_; refine aN Za ?_; refine Zo ?_; refine sR Y3 rfl ?_; refine Zd Za ?_; refine Va (xs := x0) a3.len Zb Yx ?_; refine Zv Zq ?_; refine dN ?_; rcases Zw H with ⟨g1, H⟩ | ⟨g1, H⟩
 · refine Xs rfl g1 ?_; cases H
 ·
  refine Xo rfl g1 ?_; refine T.skip ?_; refine Yg ?_; obtain ⟨g2, H⟩ := Yh H; refine sR Y4 rfl ?_; refine Zd Za ?_; refine Vb a3 g2 Zb Yx Xb ?_; refine Up a3 g2 Za Wn ?_; refine aN Za ?_; refine Zo ?_; refine sR Y1 rfl ?_; refine aN Za ?_; refine Vj (fun (m8 : Int) => Z3k m8 = some r0) (fun (m8 : Int) => [(3, iV m8)]) (fun (m8 : Int) => []) ?_ ?_
  ·
   refine T.block ?_; obtain ⟨a9, b0, b1⟩ := Zu H; refine Z0d (fun (a7 : Nat) (m3 i4 : Int) => Xl (fun s => Z2p x0 s.1 s.2) a7 (m3, i4) = some a9) (fun (a7 : Nat) (m3 i4 : Int) => [(0, .slice a5 a4 a6), (3, iV m3), (4, iV i4)]) (fun (a7 : Nat) (m3 i4 : Int) => []) (fun (a7 : Nat) (m3 i4 : Int) => a7) Yz (x0.getD (0 : Int).toNat 0) 1 b0 (aF rfl) Zg ?_; rintro a7 m3 i4 H; obtain ⟨b5, b6, rfl, H, a8⟩ := Ug H; have H : Z2p x0 m3 i4 = some b6 := H; unfold Z2p at H; refine Zo ?_; refine sR Y4 rfl ?_; refine Zd Za ?_; refine Zd Za ?_; refine Va (xs := x0) a3.len Zb Yx ?_; refine Zv Zq ?_; refine dN ?_; rcases Zw H with ⟨g5, H⟩ | ⟨g5, H⟩
   · refine Xs rfl g5 ?_; refine T.skip ?_; refine Yg ?_; refine Zo ?_; refine T.block ?_; obtain ⟨g6, H⟩ := Yh H; refine rG Y7 rfl ?_; refine Zd Za ?_; refine Zd Za ?_; refine Zd Za ?_; refine Vb a3 g6 Zb Yx Xb ?_; refine Up a3 g6 Za Wn ?_; refine TO.max2 Zb ?_; refine Xx Za ?_; refine Ze ?_; refine Xz ?_; refine Yg ?_; refine Zs (aT [0, 3, 4] rfl) ?_; obtain ⟨g7, H⟩ := Yh H; refine rG Y3 rfl ?_; refine Zd Za ?_; refine Xk g7 Zb ?_; refine Xx Za ?_; refine Ze ?_; have H := Vs H a8; exact No b5 (max m3 (x0.getD i4.toNat 0)) (i4 + 1) H (Nat.lt_succ_self _) (aF rfl) Zg
   · refine Xo rfl g5 ?_; refine T.exit ?_; refine Xv ?_; have H := Wk H a8 ▸ b1; refine Xv ?_; refine Vl ?_; exact Wm m3 H (aF rfl) Zg
  · rintro m8 H; unfold Z3k at H; refine sR Y2 rfl ?_; refine Zd Za ?_; refine aN Za ?_; refine T.ret ?_; obtain rfl := ret1 H; exact Ya Za (Res.tmp rfl) Zg ⟨rfl, rfl⟩
theorem Z5k {c0 : Csr} {p1 : Pre} {b0 c8 b9 d1 d0 b5 e3 e8 e6 : Option Addr} {b7 b8 a8 b6 c7 a6 c9 a9 c3 d2 c4 a7 d5 e0 d8 e1 e5 e4 : Nat} (w : World) (a4 : RS w [] iC 1 b0 b7 b8 c0.First) (d6 : RS w [] iC 1 c8 a8 b6 c0.Head) (d9 : RS w [] iC 1 b9 c7 a6 c0.Rev) (e2 : RS w [] iC 1 d1 c9 a9 c0.Cap) (d7 : RS w [] iC 1 d0 c3 d2 c0.Arc) (d4 : RS w [] boolC 1 b5 c4 a7 c0.Back) (a5 : RS w [] iC 1 e3 d5 e0 p1.Res) (f1 : RS w [] iC 1 e8 d8 e1 p1.Ex) (a3 : RS w [] iC 1 e6 e5 e4 p1.H) {r0 : Bool} (H : Gh c0 p1 = some r0) : Fnc Tryz.prog 30 #[.agg #[iV c0.N, iV c0.S, iV c0.T, .slice b0 b7 b8, .slice c8 a8 b6, .slice b9 c7 a6, .slice d1 c9 a9, .slice d0 c3 d2, .slice b5 c4 a7], .agg #[.slice e3 d5 e0, .slice e8 d8 e1, .slice e6 e5 e4]] w [] (fun v N => v = .bool r0 ∧ N = []) := by
 unfold Gh at H; refine Fnc.enter (vs := [.agg #[iV c0.N, iV c0.S, iV c0.T, .slice b0 b7 b8, .slice c8 a8 b6, .slice b9 c7 a6, .slice d1 c9 a9, .slice d0 c3 d2, .slice b5 c4 a7], .agg #[.slice e3 d5 e0, .slice e8 d8 e1, .slice e6 e5 e4]]) Tryz.func30 rfl rfl (Inv.refl w) ?_; refine sR Y3 rfl ?_; refine Xp Za ?_; intro b1; refine Xp Za ?_; intro b3; refine aN Za ?_; refine Zo ?_; refine Zo ?_; rcases Zw H with ⟨g5, H⟩ | ⟨g5, H⟩
 · refine Vn 28 [0, 1, 2, 3, 4, 5, 6, 7, 8, 9, 10, 11, 12, 13, 14, 15, 16, 17, 18, 19, 20, 21, 22, 23, 24, 25, 26, 27] rfl Xt (by kernel_rfl) (by kernel_rfl) rfl (by kernel_rfl) ?_; refine Xy Za Uc ?_; refine Xj Za Xu Zk rfl ?_; refine Nl (xs := p1.H) a3.len Zb Yq ?_; refine Xy Za Ua ?_; refine Xj Za Zt Yi rfl ?_; refine Un Zq ?_; refine TQ.move Za ?_; refine Vv (t := 11) (b' := true) rfl (decide_eq_true g5) ?_; refine Ys Za ?_; refine Ys Za ?_; refine Ys Za ?_; refine Ys Za ?_; refine Z2g Zb ?_; refine TQ.move Za ?_; refine Ys Za ?_; refine Ys Za ?_; refine Ys Za ?_; refine Ys Za ?_; refine Ys Za ?_; refine Ys Za ?_; refine Ys Za ?_; refine Ys Za ?_; refine Ys Za ?_; refine Z2g Zb ?_; refine TQ.move Za ?_; refine Ys Za ?_; refine Ys Za ?_; refine Ys Za ?_; refine Ys Za ?_; refine TQ.tail [28, 29, 30, 31] Yv ?_; refine Zr Za ?_; refine Zr Za ?_; refine Zr Za ?_; refine Xw Zb ?_; refine dN ?_; refine Zs (aT [2, 3, 36] rfl) ?_; refine Xq Yv ?_; refine sR Y1 rfl ?_; refine aN Za ?_; refine T.ret ?_; refine Zz ?_; obtain rfl := ret1 H; exact Ya Za (Res.tmp rfl) Zg ⟨rfl, rfl⟩
 ·
  obtain ⟨r6, e7, H⟩ := Zu H; rcases Zw H with ⟨g8, H⟩ | ⟨g8, H⟩
  · refine Vn 28 [0, 1, 2, 3, 4, 5, 6, 7, 8, 9, 10, 11, 12, 13, 14, 15, 16, 17, 18, 19, 20, 21, 22, 23, 24, 25, 26, 27] rfl Xt (by kernel_rfl) (by kernel_rfl) rfl (by kernel_rfl) ?_; refine Xy Za Uc ?_; refine Xj Za Xu Zk rfl ?_; refine Nl (xs := p1.H) a3.len Zb Yq ?_; refine Xy Za Ua ?_; refine Xj Za Zt Yi rfl ?_; refine Un Zq ?_; refine TQ.move Za ?_; refine Vv (t := 11) (b' := false) rfl (decide_eq_false g5) ?_; refine Jo Za Wh Yi rfl ?_; refine Jo Za Ka Zk rfl ?_; refine Z12 Z55 Za (fun wc hwc => Z50 (c0 := c0) (p1 := p1) wc (a4.mono hwc) (d6.mono hwc) (d9.mono hwc) (e2.mono hwc) (d7.mono hwc) (d4.mono hwc) (a5.mono hwc) (f1.mono hwc) (a3.mono hwc) e7) (by rintro _ _ ⟨rfl, rfl⟩; rfl) ?_; refine TQ.not Za ?_; refine Lg Zb ?_; refine TQ.move Za ?_; refine Vv (t := 17) (b' := true) rfl g8 ?_; refine Ys Za ?_; refine Ys Za ?_; refine Ys Za ?_; refine Ys Za ?_; refine Ys Za ?_; refine Ys Za ?_; refine Ys Za ?_; refine Ys Za ?_; refine Ys Za ?_; refine Z2g Zb ?_; refine TQ.move Za ?_; refine Ys Za ?_; refine Ys Za ?_; refine Ys Za ?_; refine Ys Za ?_; refine TQ.tail [28, 29, 30, 31] Yv ?_; refine Zr Za ?_; refine Zr Za ?_; refine Zr Za ?_; refine Xw Zb ?_; refine dN ?_; refine Zs (aT [2, 3, 36] rfl) ?_; refine Xq Yv ?_; refine sR Y1 rfl ?_; refine aN Za ?_; refine T.ret ?_; refine Zz ?_; obtain rfl := ret1 H; exact Ya Za (Res.tmp rfl) Zg ⟨rfl, rfl⟩
  ·
   obtain ⟨g9, H⟩ := Yh H; rcases Zw H with ⟨j3, H⟩ | ⟨j3, H⟩
   · refine Vn 28 [0, 1, 2, 3, 4, 5, 6, 7, 8, 9, 10, 11, 12, 13, 14, 15, 16, 17, 18, 19, 20, 21, 22, 23, 24, 25, 26, 27] rfl Xt (by kernel_rfl) (by kernel_rfl) rfl (by kernel_rfl) ?_; refine Xy Za Uc ?_; refine Xj Za Xu Zk rfl ?_; refine Nl (xs := p1.H) a3.len Zb Yq ?_; refine Xy Za Ua ?_; refine Xj Za Zt Yi rfl ?_; refine Un Zq ?_; refine TQ.move Za ?_; refine Vv (t := 11) (b' := false) rfl (decide_eq_false g5) ?_; refine Jo Za Wh Yi rfl ?_; refine Jo Za Ka Zk rfl ?_; refine Z12 Z55 Za (fun wc hwc => Z50 (c0 := c0) (p1 := p1) wc (a4.mono hwc) (d6.mono hwc) (d9.mono hwc) (e2.mono hwc) (d7.mono hwc) (d4.mono hwc) (a5.mono hwc) (f1.mono hwc) (a3.mono hwc) e7) (by rintro _ _ ⟨rfl, rfl⟩; rfl) ?_; refine TQ.not Za ?_; refine Lg Zb ?_; refine TQ.move Za ?_; refine Vv (t := 17) (b' := false) rfl (Bool.eq_false_iff.2 g8) ?_; refine Xy Za Uc ?_; refine Xj Za Xu Zk rfl ?_; refine Xy Za Gi ?_; refine Xj Za Zt Yi rfl ?_; refine Kp a3 g9 Zb Yq Yf ?_; refine Kf a3 g9 Za Zt ?_; refine Xy Za Ua ?_; refine Xj Za Zt Yi rfl ?_; refine Un Zq ?_; refine Lg Zb ?_; refine TQ.move Za ?_; refine Vv (t := 28) (b' := true) rfl (decide_eq_true j3) ?_; refine Ys Za ?_; refine Ys Za ?_; refine Ys Za ?_; refine Ys Za ?_; refine TQ.tail [28, 29, 30, 31] Yv ?_; refine Zr Za ?_; refine Zr Za ?_; refine Zr Za ?_; refine Xw Zb ?_; refine dN ?_; refine Zs (aT [2, 3, 36] rfl) ?_; refine Xq Yv ?_; refine sR Y1 rfl ?_; refine aN Za ?_; refine T.ret ?_; refine Zz ?_; obtain rfl := ret1 H; exact Ya Za (Res.tmp rfl) Zg ⟨rfl, rfl⟩
   ·
    obtain ⟨k6, H⟩ := Yh H; refine Vn 28 [0, 1, 2, 3, 4, 5, 6, 7, 8, 9, 10, 11, 12, 13, 14, 15, 16, 17, 18, 19, 20, 21, 22, 23, 24, 25, 26, 27] rfl Xt (by kernel_rfl) (by kernel_rfl) rfl (by kernel_rfl) ?_; refine Xy Za Uc ?_; refine Xj Za Xu Zk rfl ?_; refine Nl (xs := p1.H) a3.len Zb Yq ?_; refine Xy Za Ua ?_; refine Xj Za Zt Yi rfl ?_; refine Un Zq ?_; refine TQ.move Za ?_; refine Vv (t := 11) (b' := false) rfl (decide_eq_false g5) ?_; refine Jo Za Wh Yi rfl ?_; refine Jo Za Ka Zk rfl ?_; refine Z12 Z55 Za (fun wc hwc => Z50 (c0 := c0) (p1 := p1) wc (a4.mono hwc) (d6.mono hwc) (d9.mono hwc) (e2.mono hwc) (d7.mono hwc) (d4.mono hwc) (a5.mono hwc) (f1.mono hwc) (a3.mono hwc) e7) (by rintro _ _ ⟨rfl, rfl⟩; rfl) ?_; refine TQ.not Za ?_; refine Lg Zb ?_; refine TQ.move Za ?_; refine Vv (t := 17) (b' := false) rfl (Bool.eq_false_iff.2 g8) ?_; refine Xy Za Uc ?_; refine Xj Za Xu Zk rfl ?_; refine Xy Za Gi ?_; refine Xj Za Zt Yi rfl ?_; refine Kp a3 g9 Zb Yq Yf ?_; refine Kf a3 g9 Za Zt ?_; refine Xy Za Ua ?_; refine Xj Za Zt Yi rfl ?_; refine Un Zq ?_; refine Lg Zb ?_; refine TQ.move Za ?_; refine Vv (t := 28) (b' := false) rfl (decide_eq_false j3) ?_; refine Xy Za Uc ?_; refine Xj Za Xu Zk rfl ?_; refine Xy Za Zbc ?_; refine Xj Za Zt Yi rfl ?_; refine TQ.tail [28, 29, 30, 31] Yv ?_; refine Vb a3 k6 Zb Yq Yf ?_; refine Up a3 k6 Za Zt ?_; refine Zv Zq ?_; refine Wa Zb ?_; refine dN ?_; refine Zs (aT [2, 3, 36] rfl) ?_; rcases Zw H with ⟨j4, H⟩ | ⟨j4, H⟩
    · refine Xs rfl j4 ?_; refine sR Y1 rfl ?_; refine aN Za ?_; refine T.ret ?_; refine Zz ?_; obtain rfl := ret1 H; exact Ya Za (Res.tmp rfl) Zg ⟨rfl, rfl⟩
    ·
     refine Xo rfl j4 ?_; refine T.skip ?_; refine Yg ?_; refine Zo ?_; refine Zo ?_; obtain ⟨m0, l1, H⟩ := Zu H; refine rG Y4 rfl ?_; refine Zi Za Uc ?_; refine Zm Za Xu Zk rfl ?_; refine TO.makeFunc Zb ?_; refine Yl Z7p Za (fun wc hwc => Za9 (s0 := p1.H) (f1_0 := c0) wc (a3.mono hwc) (a4.mono hwc) (d6.mono hwc) (d9.mono hwc) (e2.mono hwc) (d7.mono hwc) (d4.mono hwc) (hwc.hb (cs := [iV c0.N, iV c0.S, iV c0.T, .slice b0 b7 b8, .slice c8 a8 b6, .slice b9 c7 a6, .slice d1 c9 a9, .slice d0 c3 d2, .slice b5 c4 a7]) Yi) l1) ?_; rintro _ _ ⟨rfl, rfl⟩; refine dN ?_; rcases Zw H with ⟨j5, H⟩ | ⟨j5, H⟩
     · refine Xq ⟨rfl, j5⟩ ?_; refine sR Y1 rfl ?_; refine aN Za ?_; refine T.ret ?_; refine Zz ?_; obtain rfl := ret1 H; exact Ya Za (Res.tmp rfl) Zg ⟨rfl, rfl⟩
     ·
      refine Wp rfl (Bool.eq_false_iff.2 j5) ?_; refine T.skip ?_; refine Yg ?_; refine Zo ?_; obtain ⟨k7, l3, k8, k9, H⟩ := Ki H; obtain ⟨l0, H⟩ := Yh H; obtain ⟨h5, l4, H⟩ := Zu H; obtain ⟨l5, H⟩ := Yh H; obtain ⟨m1, l6, H⟩ := Zu H; apply Ku [rV [] _, rV [0] _, rV [] _, rV [2] _, rV [] _, rV [4] _, rV [3, 5] _, rV [3, 5, 6] _, rV [] _, rV [8] _, rV [] _, rV [10] _, rV [11] _, rV [9, 12] _, rV [9, 12, 13] _, rV [1, 7, 14] _, ⟨[15], false, [], fun _ v e => ∃ (f0 : Option Nat) (n24 c25 : Nat) (h4 : List Value), v = sV f0 n24 c25 ∧ e = [(eI f0 h5 h4 2)] ∧ h5.length = n24 ∧ n24 ≤ c25 ∧ h4.length = (c25 - n24) * 1 ∧ (f0 = none → c25 = 0)⟩, ⟨[], false, [], fun _ v e => ∃ (h6 : Nat), v = nV h6 1 1 ∧ e = [(eI (some h6) ([0]) ([]) 2)]⟩] [41, 42, 43, 44, 45, 46, 47, 48, 49, 50, 51, 52, 53, 54, 55, 56, 57, 58] 18 (HRk [[]]) [[]] [] [(eC b3 #[.slice e3 d5 e0, .slice e8 d8 e1, .slice e6 e5 e4] 53), (eC b1 #[iV c0.N, iV c0.S, iV c0.T, .slice b0 b7 b8, .slice c8 a8 b6, .slice b9 c7 a6, .slice d1 c9 a9, .slice d0 c3 d2, .slice b5 c4 a7] 29)]
      · exact Xt
      · exact rfl
      · kernel_rfl
      · kernel_rfl
      · kernel_rfl
      · exact rfl
      · exact rfl
      · exact rfl
      · exact rfl
      · exact Xc (by repeat constructor)
      ·
       refine ⟨?_, ?_, ?_, ?_, ?_, ?_, ?_, ?_, ?_, ?_, ?_, ?_, ?_, ?_, ?_, ?_, ?_, ?_, trivial⟩
       · rintro vs es Es Hx -; refine Zh (D := []) rfl ?_; refine Zi Za Jj ?_; refine Ze ?_; exact Zl rfl ⟨rfl, rfl⟩ (Zj _) rfl
       · rintro vs es Es Hx ⟨⟨h7, j6⟩, -⟩; refine Zh (D := [(41, vs 0)]) rfl ?_; rw [h7]; refine Zm Za Wq Zk rfl ?_; refine Ze ?_; exact Zl rfl ⟨rfl, rfl⟩ (Zj _) (by show [(41, vs 0)] = _; rw [h7])
       · rintro vs es Es Hx -; refine Zh (D := []) rfl ?_; refine Zi Za Rh ?_; refine Ze ?_; exact Zl rfl ⟨rfl, rfl⟩ (Zj _) rfl
       · rintro vs es Es Hx ⟨⟨h8, j7⟩, -⟩; refine Zh (D := [(43, vs 2)]) rfl ?_; rw [h8]; refine Zm Za Xu Yi rfl ?_; refine Ze ?_; exact Zl rfl ⟨rfl, rfl⟩ (Zj _) (by show [(43, vs 2)] = _; rw [h8])
       · rintro vs es Es Hx -; refine Zh (D := []) rfl ?_; refine Zi Za Gi ?_; refine Ze ?_; exact Zl rfl ⟨rfl, rfl⟩ (Zj _) rfl
       · rintro vs es Es Hx ⟨⟨h9, j8⟩, -⟩; refine Zh (D := [(45, vs 4)]) rfl ?_; rw [h9]; refine Zm Za Zt Yi rfl ?_; refine Ze ?_; exact Zl rfl ⟨rfl, rfl⟩ (Zj _) (by show [(45, vs 4)] = _; rw [h9])
       · rintro vs es Es Hx ⟨⟨f9, j0⟩, ⟨g0, j1⟩, -⟩; refine Zh (D := [(44, vs 3), (46, vs 5)]) rfl ?_; rw [f9, g0]; refine Vb a4 k7 Zb Yq Yf ?_; refine Ze ?_; exact Zl rfl ⟨rfl, rfl⟩ (Zj _) (by show [(44, vs 3), (46, vs 5)] = _; rw [f9, g0])
       · rintro vs es Es Hx ⟨⟨f9, j0⟩, ⟨g0, j1⟩, ⟨i1, j9⟩, -⟩; refine Zh (D := [(44, vs 3), (46, vs 5), (47, vs 6)]) rfl ?_; rw [f9, g0, i1]; refine Up a4 k7 Za Zt ?_; refine Ze ?_; exact Zl rfl ⟨rfl, rfl⟩ (Zj _) (by show [(44, vs 3), (46, vs 5), (47, vs 6)] = _; rw [f9, g0, i1])
       · rintro vs es Es Hx -; refine Zh (D := []) rfl ?_; refine Zi Za Rh ?_; refine Ze ?_; exact Zl rfl ⟨rfl, rfl⟩ (Zj _) rfl
       · rintro vs es Es Hx ⟨⟨i2, k1⟩, -⟩; refine Zh (D := [(49, vs 8)]) rfl ?_; rw [i2]; refine Zm Za Xu Yi rfl ?_; refine Ze ?_; exact Zl rfl ⟨rfl, rfl⟩ (Zj _) (by show [(49, vs 8)] = _; rw [i2])
       · rintro vs es Es Hx -; refine Zh (D := []) rfl ?_; refine Zi Za Gi ?_; refine Ze ?_; exact Zl rfl ⟨rfl, rfl⟩ (Zj _) rfl
       · rintro vs es Es Hx ⟨⟨f2, g2⟩, -⟩; refine Zh (D := [(51, vs 10)]) rfl ?_; rw [f2]; refine Zm Za Zt Yi rfl ?_; refine Ze ?_; exact Zl rfl ⟨rfl, rfl⟩ (Zj _) (by show [(51, vs 10)] = _; rw [f2])
       · rintro vs es Es Hx ⟨⟨f3, g3⟩, -⟩; refine Zh (D := [(52, vs 11)]) rfl ?_; rw [f3]; refine Xk l3 Zb ?_; refine Ze ?_; exact Zl rfl ⟨rfl, rfl⟩ (Zj _) (by show [(52, vs 11)] = _; rw [f3])
       · rintro vs es Es Hx ⟨⟨g1, j2⟩, ⟨e9, f7⟩, -⟩; refine Zh (D := [(50, vs 9), (53, vs 12)]) rfl ?_; rw [g1, e9]; refine Vb a4 k8 Zb Yq Yf ?_; refine Ze ?_; exact Zl rfl ⟨rfl, rfl⟩ (Zj _) (by show [(50, vs 9), (53, vs 12)] = _; rw [g1, e9])
       · rintro vs es Es Hx ⟨⟨g1, j2⟩, ⟨e9, f7⟩, ⟨f4, g4⟩, -⟩; refine Zh (D := [(50, vs 9), (53, vs 12), (54, vs 13)]) rfl ?_; rw [g1, e9, f4]; refine Up a4 k8 Za Zt ?_; refine Ze ?_; exact Zl rfl ⟨rfl, rfl⟩ (Zj _) (by show [(50, vs 9), (53, vs 12), (54, vs 13)] = _; rw [g1, e9, f4])
       · rintro vs es Es Hx ⟨⟨i4, k2⟩, ⟨i5, k3⟩, ⟨f5, g6⟩, -⟩; refine Zh (D := [(42, vs 1), (48, vs 7), (55, vs 14)]) rfl ?_; rw [i4, i5, f5]; refine TO.slLH (xs := p1.Res) a5.len a5.cap k9 l0 Zq Yx Xb ?_; refine Ze ?_; exact Zl rfl ⟨rfl, rfl⟩ (Zj _) (by show [(42, vs 1), (48, vs 7), (55, vs 14)] = _; rw [i4, i5, f5])
       · rintro vs es Es Hx ⟨⟨f6, g7⟩, -⟩; refine Zh (D := [(56, vs 15)]) rfl ?_; rw [f6]; refine Yl Z7h Za (fun wc hwc => Z7b (s0 := ((p1.Res.take (c0.First.getD (c0.S + 1).toNat 0).toNat).drop (c0.First.getD c0.S.toNat 0).toNat)) wc ((RS.drop (RS.take a5 k9) l0).mono hwc) l4) ?_; rintro _ _ ⟨f0, n24, c25, h4, rfl, rfl, f8, h1, h2, h3⟩; refine Ze ?_; exact Zl rfl ⟨f0, n24, c25, h4, rfl, rfl, f8, h1, h2, h3⟩ (Xc (by repeat constructor)) (by show [(56, vs 15)] = _; rw [f6])
       · rintro vs es Es Hx -; refine Zh (D := []) rfl ?_; refine Z2t [iV 0] [0] Za Yx Xb Nc Yv (by simp only [Wb, setCells, Value.cells, List.toList_toArray, List.getD_cons_zero, List.getD_cons_succ, List.set_cons_zero, List.set_cons_succ]; rfl) (by kernel_rfl) ?_; intro h6; refine Ze ?_; exact Zl rfl ⟨h6, rfl, rfl⟩ (Xc (by repeat constructor)) rfl
      · rintro vs es hb ⟨⟨h7, j6⟩, ⟨i4, k2⟩, ⟨h8, j7⟩, ⟨f9, j0⟩, ⟨h9, j8⟩, ⟨g0, j1⟩, ⟨i1, j9⟩, ⟨i5, k3⟩, ⟨i2, k1⟩, ⟨g1, j2⟩, ⟨f2, g2⟩, ⟨f3, g3⟩, ⟨e9, f7⟩, ⟨f4, g4⟩, ⟨f5, g6⟩, ⟨f6, g7⟩, ⟨f0, n24, c25, h4, i6, i7, f8, h1, h2, h3⟩, ⟨h6, i8, i9⟩, -⟩ hHR; obtain rfl : hb = [] := hHR; refine Zh (D := [(41, vs 0), (42, vs 1), (43, vs 2), (44, vs 3), (45, vs 4), (46, vs 5), (47, vs 6), (48, vs 7), (49, vs 8), (50, vs 9), (51, vs 10), (52, vs 11), (53, vs 12), (54, vs 13), (55, vs 14), (56, vs 15), (57, vs 16), (58, vs 17)]) rfl ?_; refine Wl (H := _ ++ (_ ++ (es 0 ++ (es 1 ++ (es 2 ++ (es 3 ++ (es 4 ++ (es 5 ++ (es 6 ++ (es 7 ++ (es 8 ++ (es 9 ++ (es 10 ++ (es 11 ++ (es 12 ++ (es 13 ++ (es 14 ++ (es 15 ++ (es 16 ++ (es 17 ++ ([]))))))))))))))))))))) rfl ?_; rw [j6, k2, j7, j0, j8, j1, j9, k3, k1, j2, g2, g3, f7, g4, g6, g7, i7, i9]; rw [h7, i4, h8, f9, h9, g0, i1, i5, i2, g1, f2, f3, e9, f4, f5, f6, i6, i8]; clear i8 i6 f6 f5 f4 e9 f3 f2 g1 i2 i5 i1 g0 h9 f9 h8 i4 h7 j6 k2 j7 j0 j8 j1 j9 k3 k1 j2 g2 g3 f7 g4 g6 g7 i7 i9; refine Rz (f := iC) (s := 1) (xs := h5) (ob := f0) (j := h4) (ys := [0]) (fun _ => rfl) (fun _ => rfl) Zb6 l5 Zb Yt f8 h1 h2 h3 (fun wc hwc => (hwc.rs (f := iC) (s := 1) (xs := [0]) (j := ([])) (fun _ => rfl) Wc rfl (Nat.le_refl _) Wf)) ?_; intro l7 m2 l8 k4 l9 k5; refine Yl Z8s Za (fun wc hwc => Z8z (x0 := (h5 ++ ([0]))) wc (hwc.rs (f := iC) (s := 1) (xs := (h5 ++ ([0]))) (j := l8) (fun _ => rfl) Zk (Z36 f8 rfl) k4 k5) l6) ?_; rintro _ _ ⟨rfl, rfl⟩; refine Zv Zq ?_; refine aN Za ?_; refine Zs (aT [4] rfl) ?_; refine T.ret ?_; obtain rfl := ret1 H; exact Ya Za (Res.tmp rfl) Zg ⟨rfl, rfl⟩
theorem Z6g {x0 : CrewCrew} {p1 : Pre} {picks2 : List Int} {most3 : Int} {g0 d2 d1 b8 a8 d6 a6 c7 a9 d4 b0 c3 c9 e9 e7 e6 d7 e3 e2 e4 d9 d8 a3 a4 : Nat} {d0 c4 d5 b6 c8 a7 e8 e5 e1 e0 a5 : Option Addr} (w : World) (f1 : RS w [] iC 1 d0 d2 d1 x0.c.First) (f7 : RS w [] iC 1 c4 b8 a8 x0.c.Head) (f4 : RS w [] iC 1 d5 d6 a6 x0.c.Rev) (f6 : RS w [] iC 1 b6 c7 a9 x0.c.Cap) (f5 : RS w [] iC 1 c8 d4 b0 x0.c.Arc) (f3 : RS w [] boolC 1 a7 c3 c9 x0.c.Back) (h2 : RS w [] Kt 1 e8 e7 e6 x0.b.l) (g7 : HB w [] e9 [.slice e8 e7 e6]) (f2 : HB w [] g0 [iV x0.c.N, iV x0.c.S, iV x0.c.T, .slice d0 d2 d1, .slice c4 b8 a8, .slice d5 d6 a6, .slice b6 c7 a9, .slice c8 d4 b0, .slice a7 c3 c9, iV x0.l.Verts, iV x0.l.Arcs, iV x0.l.Workers, iV x0.l.Room, iV x0.l.Res, iV x0.l.Ex, iV x0.l.H, iV x0.l.Flag, iV x0.l.Pending, iV x0.l.Ask, iV x0.l.Count, iV x0.l.Sense, iV x0.l.Deques, iV x0.l.Size, pV e9, iV x0.limit]) (g4 : RS w [] iC 1 e5 d7 e3 p1.Res) (g6 : RS w [] iC 1 e1 e2 e4 p1.Ex) (g5 : RS w [] iC 1 e0 d9 d8 p1.H) (g8 : RS w [] iC 1 a5 a3 a4 picks2) {r0 : Pre} {r1 : Phase} {r2 : Int} (H : Gr x0 p1 picks2 most3 = some (r0, r1, r2)) : Fnc Tryz.prog 34 #[pV g0, .agg #[.slice e5 d7 e3, .slice e1 e2 e4, .slice e0 d9 d8], .slice a5 a3 a4, iV most3] w [] (fun v N => ∃ (g1 : Option Nat) (h3 h4 : Nat) (i2 : List Value) (g2 : Option Nat) (h5 h6 : Nat) (i4 : List Value) (g3 : Option Nat) (h7 h8 : Nat) (i5 : List Value) (f0 : Option Nat) (f8 f9 : Nat) (g9 : List Value), v = .tuple #[.agg #[sV g1 h3 h4, sV g2 h5 h6, sV g3 h7 h8], .agg #[iV r1.Steps, iV r1.Rounds, .bool r1.Asked, sV f0 f8 f9], iV r2] ∧ N = [(eI g1 r0.Res i2 2), (eI g2 r0.Ex i4 2), (eI g3 r0.H i5 3), (eA f0 Z40 r1.Events g9 40)] ∧ r0.Res.length = h3 ∧ h3 ≤ h4 ∧ i2.length = (h4 - h3) * 1 ∧ (g1 = none → h4 = 0) ∧ r0.Ex.length = h5 ∧ h5 ≤ h6 ∧ i4.length = (h6 - h5) * 1 ∧ (g2 = none → h6 = 0) ∧ r0.H.length = h7 ∧ h7 ≤ h8 ∧ i5.length = (h8 - h7) * 1 ∧ (g3 = none → h8 = 0) ∧ r1.Events.length = f8 ∧ f8 ≤ f9 ∧ g9.length = (f9 - f8) * 7 ∧ (f0 = none → f9 = 0)) := by
 unfold Gr at H; refine Z35 (vs := [pV g0, .agg #[.slice e5 d7 e3, .slice e1 e2 e4, .slice e0 d9 d8], .slice a5 a3 a4, iV most3]) Tryz.func34 rfl rfl (Inv.refl w) ?_; refine sR Y6 rfl ?_; refine TO.box Za ?_; intro b1; refine Xp Za ?_; intro b3; refine TO.box Za ?_; intro b5; refine Xg Zp Km ?_; intro b7; refine Xg Zp Nx ?_; intro b9; refine TO.alloc Zp Z44 ?_; intro i6; refine dS ?_; refine T.block ?_; refine sR Y10 rfl ?_; refine Zm Za Nf Uy rfl ?_; refine Z1l (b := false) Zq Z45 ?_; refine Zd Za ?_; refine Zm Za Nf Uy rfl ?_; refine TO.nilCheck Za ?_; refine Zi Za Z7k ?_; refine Uw f2 Zb Z6c ?_; refine Z1l (b := false) Zq Z7l ?_; refine Wa Zb ?_; refine aN Za ?_; refine Zs (aT [2, 4, 5, 7, 8, 9, 10, 21] rfl) ?_; refine Wp rfl rfl ?_; refine Zo ?_; refine Vj (fun (h1 : Bool) => Z14 h1 = some (r0, r1, r2)) (fun (h1 : Bool) => [(2, .slice a5 a3 a4), (4, pV b1), (5, pV b3), (7, pV b5), (8, pV b7), (9, pV b9), (10, pV i6), (33, .bool h1)]) (fun (h1 : Bool) => [(eC b1 #[pV g0] 58), (eC b3 #[.slice e5 d7 e3, .slice e1 e2 e4, .slice e0 d9 d8] 53), (eC b5 #[iV most3] 3), (eC b7 #[.slice none 0 0, .slice none 0 0, .slice none 0 0] 53), (eC b9 #[iV 0, iV 0, .bool false, .slice none 0 0] 70), (eC i6 #[iV 0] 54)]) ?_ ?_
 ·
  rcases Zw H with ⟨h9, H⟩ | ⟨h9, H⟩
  · refine Vn 12 [0, 1, 2, 3, 4, 5, 6, 7, 8, 9, 10, 11] rfl Xt (by kernel_rfl) (by kernel_rfl) rfl (by kernel_rfl) ?_; refine Xj Za Zt Wc rfl ?_; refine Un Zq ?_; refine TQ.move Za ?_; refine Vv (t := 36) (b' := true) rfl (decide_eq_true h9) ?_; refine Ys Za ?_; refine Ys Za ?_; refine Z2g Zb ?_; refine TQ.move Za ?_; refine Ys Za ?_; refine Ys Za ?_; refine Ys Za ?_; refine Ys Za ?_; refine Ys Za ?_; refine TQ.tail [12, 13, 14, 15] Yv ?_; refine Zr Za ?_; refine Zr Za ?_; refine Xw Zb ?_; refine Xx Za ?_; refine Ze ?_; exact Wm true H (aF rfl) (Zc tk5 (Zc Wx (Zc We (Zc Yt (Zc Ye (Zc Zf Zg))))))
  ·
   rcases Zw H with ⟨i1, H⟩ | ⟨i1, H⟩
   · refine Vn 12 [0, 1, 2, 3, 4, 5, 6, 7, 8, 9, 10, 11] rfl Xt (by kernel_rfl) (by kernel_rfl) rfl (by kernel_rfl) ?_; refine Xj Za Zt Wc rfl ?_; refine Un Zq ?_; refine TQ.move Za ?_; refine Vv (t := 36) (b' := false) rfl (decide_eq_false h9) ?_; refine Xj Za Zt Wc rfl ?_; refine Un Zq ?_; refine Lg Zb ?_; refine TQ.move Za ?_; refine Vv (t := 40) (b' := true) rfl (decide_eq_true i1) ?_; refine Ys Za ?_; refine Ys Za ?_; refine Ys Za ?_; refine Ys Za ?_; refine Ys Za ?_; refine TQ.tail [12, 13, 14, 15] Yv ?_; refine Zr Za ?_; refine Zr Za ?_; refine Xw Zb ?_; refine Xx Za ?_; refine Ze ?_; exact Wm true H (aF rfl) (Zc tk5 (Zc Wx (Zc We (Zc Yt (Zc Ye (Zc Zf Zg))))))
   · obtain ⟨i8, i9, H⟩ := Zu H; refine Vn 12 [0, 1, 2, 3, 4, 5, 6, 7, 8, 9, 10, 11] rfl Xt (by kernel_rfl) (by kernel_rfl) rfl (by kernel_rfl) ?_; refine Xj Za Zt Wc rfl ?_; refine Un Zq ?_; refine TQ.move Za ?_; refine Vv (t := 36) (b' := false) rfl (decide_eq_false h9) ?_; refine Xj Za Zt Wc rfl ?_; refine Un Zq ?_; refine Lg Zb ?_; refine TQ.move Za ?_; refine Vv (t := 40) (b' := false) rfl (decide_eq_false i1) ?_; refine Xj Za Nf Uy rfl ?_; refine TQ.nilCheck Za ?_; refine Xy Za Zb2 ?_; refine TQ.ldHBP (vs := [iV x0.c.N, iV x0.c.S, iV x0.c.T, .slice d0 d2 d1, .slice c4 b8 a8, .slice d5 d6 a6, .slice b6 c7 a9, .slice c8 d4 b0, .slice a7 c3 c9]) f2 Zq Wh ?_; refine Jo Za Ka Vu rfl ?_; refine TQ.tail [12, 13, 14, 15] Yv ?_; refine Yl Z74 Za (fun wc hwc => Z5k (c0 := x0.c) (p1 := p1) wc (f1.mono hwc) (f7.mono hwc) (f4.mono hwc) (f6.mono hwc) (f5.mono hwc) (f3.mono hwc) (g4.mono hwc) (g6.mono hwc) (g5.mono hwc) i9) ?_; rintro _ _ ⟨rfl, rfl⟩; refine TO.not Za ?_; refine Wa Zb ?_; refine Xx Za ?_; refine Ze ?_; exact Wm (!i8) H (aF rfl) (Zc tk5 (Zc Wx (Zc We (Zc Yt (Zc Ye (Zc Zf Zg))))))
 ·
  rintro h1 H; unfold Z14 at H; rcases Zw H with ⟨i7, H⟩ | ⟨i7, H⟩
  · refine Xq ⟨rfl, i7⟩ ?_; refine sR Y5 rfl ?_; refine Wr (t := 53) [.slice none 0 0, .slice none 0 0, .slice none 0 0] [0, 1, 2] Za (by simp only [Wb, setCells, Value.cells, List.toList_toArray, List.getD_cons_zero, List.getD_cons_succ, List.set_cons_zero, List.set_cons_succ]; rfl) (by kernel_rfl) ?_; refine Wr (t := 70) [iV 0, iV 0, .bool false, .slice none 0 0] [0, 1, 2, 3] Za (by simp only [Wb, setCells, Value.cells, List.toList_toArray, List.getD_cons_zero, List.getD_cons_succ, List.set_cons_zero, List.set_cons_succ]; rfl) (by kernel_rfl) ?_; refine Yy Za We Kj Zp ?_; refine Yy Za Wx Nk Zp ?_; refine Wj (cs' := [iV 2]) Za tk5 Z4g Zp ?_; refine dN ?_; refine T.ret ?_; refine Xi ?_; refine Zz ?_; obtain ⟨rfl, rfl, rfl⟩ := ret3 H; exact Z4s [] Zb (Zj _) (Vi rfl Ka Xn rfl) (Vi rfl Z4i Yi rfl) (Z3q rfl Ju Zk rfl) (Pick.none (Pick.none (Pick.none (Pick.none Zg)))) ⟨none, 0, 0, ([]), none, 0, 0, ([]), none, 0, 0, ([]), none, 0, 0, ([]), rfl, rfl, rfl, (Nat.le_refl _), (Xd 0 _), (fun _ => rfl), rfl, (Nat.le_refl _), (Xd 0 _), (fun _ => rfl), rfl, (Nat.le_refl _), (Xd 0 _), (fun _ => rfl), rfl, (Nat.le_refl _), (Xd 0 _), (fun _ => rfl)⟩
  · cases H
theorem Z92 {n0 : Net} {workers1 limit2 : Int} {c3 : Option Addr} {c4 c7 : Nat} (w : World) (j9 : RS w [] Xe 3 c3 c4 c7 n0.Arcs) {r0 : Net} {r1 : Csr} {r2 : CrewCrew} {r3 : Bool} (H : Z1j n0 workers1 limit2 = some (r0, r1, r2, r3)) : Fnc Tryz.prog 37 #[.agg #[iV n0.N, iV n0.S, iV n0.T, .slice c3 c4 c7], .int .u8 workers1, .int .u8 limit2] w [] (fun v N => ∃ (g7 : Option Nat) (m9 n5 : Nat) (o9 : List Value) (g3 : Option Nat) (k2 k3 : Nat) (p0 : List Value) (g4 : Option Nat) (k4 k5 : Nat) (p2 : List Value) (c8 : Option Nat) (e2 e3 : Nat) (k6 : List Value) (c9 : Option Nat) (e4 e5 : Nat) (k7 : List Value) (d0 : Option Nat) (e6 e7 : Nat) (k8 : List Value) (d1 : Option Nat) (e9 f0 : Nat) (k9 : List Value) (l0 l1 : Nat) (f1 : Option Nat) (g5 g6 : Nat) (l3 : List Value), v = .tuple #[.agg #[iV r0.N, iV r0.S, iV r0.T, sV g7 m9 n5], .agg #[iV r1.N, iV r1.S, iV r1.T, sV g3 k2 k3, sV g4 k4 k5, sV c8 e2 e3, sV c9 e4 e5, sV d0 e6 e7, sV d1 e9 f0], pV l0, .bool r3] ∧ N = [(eA g7 Xe r0.Arcs o9 131), (eI g3 r1.First p0 3), (eI g4 r1.Head p2 3), (eI c8 r1.Rev k6 3), (eI c9 r1.Cap k7 2), (eI d0 r1.Arc k8 3), (eA d1 boolC r1.Back k9 4), (eC l0 #[iV r2.c.N, iV r2.c.S, iV r2.c.T, sV g3 k2 k3, sV g4 k4 k5, sV c8 e2 e3, sV c9 e4 e5, sV d0 e6 e7, sV d1 e9 f0, iV r2.l.Verts, iV r2.l.Arcs, iV r2.l.Workers, iV r2.l.Room, iV r2.l.Res, iV r2.l.Ex, iV r2.l.H, iV r2.l.Flag, iV r2.l.Pending, iV r2.l.Ask, iV r2.l.Count, iV r2.l.Sense, iV r2.l.Deques, iV r2.l.Size, pV l1, iV r2.limit] 80), (eC l1 #[sV f1 g5 g6] 221), (eA f1 Kt r2.b.l l3 226)] ∧ r0.Arcs.length = m9 ∧ m9 ≤ n5 ∧ o9.length = (n5 - m9) * 3 ∧ (g7 = none → n5 = 0) ∧ r1.First.length = k2 ∧ k2 ≤ k3 ∧ p0.length = (k3 - k2) * 1 ∧ (g3 = none → k3 = 0) ∧ r1.Head.length = k4 ∧ k4 ≤ k5 ∧ p2.length = (k5 - k4) * 1 ∧ (g4 = none → k5 = 0) ∧ r1.Rev.length = e2 ∧ e2 ≤ e3 ∧ k6.length = (e3 - e2) * 1 ∧ (c8 = none → e3 = 0) ∧ r1.Cap.length = e4 ∧ e4 ≤ e5 ∧ k7.length = (e5 - e4) * 1 ∧ (c9 = none → e5 = 0) ∧ r1.Arc.length = e6 ∧ e6 ≤ e7 ∧ k8.length = (e7 - e6) * 1 ∧ (d0 = none → e7 = 0) ∧ r1.Back.length = e9 ∧ e9 ≤ f0 ∧ k9.length = (f0 - e9) * 1 ∧ (d1 = none → f0 = 0) ∧ r2.b.l.length = g5 ∧ g5 ≤ g6 ∧ l3.length = (g6 - g5) * 1 ∧ (f1 = none → g6 = 0)) := by
 unfold Z1j at H; refine Fnc.enter (vs := [.agg #[iV n0.N, iV n0.S, iV n0.T, .slice c3 c4 c7], .int .u8 workers1, .int .u8 limit2]) Tryz.func37 rfl rfl (Inv.refl w) ?_; refine sR Y5 rfl ?_; refine Xp Za ?_; intro b1; refine Xg Zp Z58 ?_; intro b3; refine Xg Zp Z15 ?_; intro b5; refine Xx Za ?_; refine aN Za ?_; refine Zo ?_; obtain ⟨r7, e8, H⟩ := Zu H; refine rG Y3 rfl ?_; refine Yw Za Wg Xn rfl ?_; refine Yl Z91 Za (fun wc hwc => Z9k (n0 := n0) (verts1 := 6) (arcs2 := 12) wc (j9.mono hwc) e8) ?_; rintro _ _ ⟨b7, b8, b9, l4, rfl, rfl, g8, g9, l5, h1⟩; refine Yy Za We Lx Zp ?_; refine dS ?_; obtain ⟨⟨a4, q0⟩, p6, H⟩ := Zu H; refine rG Y8 rfl ?_; refine Yw Za Wg Zk rfl ?_; refine Yl Zax Za (fun wc hwc => Z7y (n0 := r7) wc (hwc.rs (f := Xe) (s := 3) (xs := r7.Arcs) (j := l4) (fun _ => rfl) Yi g8 g9 h1) p6) ?_; rintro _ _ ⟨a5, n22, c23, n6, a6, n26, c27, n7, a7, d4, d5, n8, a8, d6, d7, n9, a9, d8, d9, o0, b0, e0, e1, o1, rfl, rfl, h2, h3, l6, h4, h5, h6, l7, h7, h8, h9, l8, i1, i2, i4, l9, i5, i6, i7, m0, i8, i9, j0, m1, j1⟩; refine Zd Za ?_; refine TO.extract Zb ?_; refine TO.extract Zb ?_; refine Xg Zp Z15 ?_; intro p3; refine Yy Za Zf Nw Zp ?_; refine aN Za ?_; refine Zs (aT [1, 2, 3, 6, 7, 10, 11] rfl) ?_; refine Zo ?_; obtain ⟨p4, p7, p5, p8, H⟩ := Ki H; obtain ⟨⟨a3, q1⟩, p9, H⟩ := Zu H; refine rG Y15 rfl ?_; refine Yw Za Wh Zk rfl ?_; refine Zd Za ?_; refine TO.rem Zb (by decide) ?_; refine Z4z Za Z3v Z4o (Gq p4.1 p4.2) ?_; refine Xk p7 Zb ?_; refine Zd Za ?_; refine TO.rem Zb (by decide) ?_; refine Z4z Za Z3v Z4o (Gq p5.1 p5.2) ?_; refine Xk p8 Zb ?_; refine Yl Z2y Za (fun wc hwc => Z8i (c0 := a4) (workers1 := (1 + (workers1.tmod 4))) (limit2 := (1 + (limit2.tmod 40))) wc (Yd hwc Yi h2 h3 h4) (Yd hwc Xn h5 h6 h7) (Yd hwc Wc h8 h9 i1) (Yd hwc Vu i2 i4 i5) (Yd hwc Uy i6 i7 i8) (Kk hwc mm6 i9 j0 j1) p9) ?_; rintro _ _ ⟨o2, k1, d2, o4, o6, o7, rfl, rfl, m2, m3, m4, m5⟩; refine Zd Za ?_; refine TO.extract Zb ?_; refine TO.extract Zb ?_; refine Xx Za ?_; refine aN Za ?_; refine Zs (aT [3, 6, 7, 10, 11, 12, 13] rfl) ?_; refine Zo ?_; rcases Zw H with ⟨o8, H⟩ | ⟨o8, H⟩
 ·
  apply Ku [rV [] _, rV [] _, rV [] _, rV [] _, rV [3] _, rV [4] _, rV [5] _, rV [5, 6] _, rV [5, 7] _, ⟨[0], true, [], Ut⟩, ⟨[1], true, [], Ut⟩, rV [2] _] [34, 35, 36, 37, 38, 39, 40, 41, 42, 8] 12 (HRk [[(eC b3 #[iV 0, iV 0, iV 0, .slice none 0 0] 24), (eC b5 #[iV 0, iV 0, iV 0, .slice none 0 0, .slice none 0 0, .slice none 0 0, .slice none 0 0, .slice none 0 0, .slice none 0 0] 29)], [(eC b3 #[iV r7.N, iV r7.S, iV r7.T, sV b7 b8 b9] 24), (eC b5 #[iV 0, iV 0, iV 0, .slice none 0 0, .slice none 0 0, .slice none 0 0, .slice none 0 0, .slice none 0 0, .slice none 0 0] 29)], [(eC b3 #[iV r7.N, iV r7.S, iV r7.T, sV b7 b8 b9] 24), (eC b5 #[iV a4.N, iV a4.S, iV a4.T, sV a5 n22 c23, sV a6 n26 c27, sV a7 d4 d5, sV a8 d6 d7, sV a9 d8 d9, sV b0 e0 e1] 29)]]) [[], [], []] [(eC b3 #[iV 0, iV 0, iV 0, .slice none 0 0] 24), (eC b5 #[iV 0, iV 0, iV 0, .slice none 0 0, .slice none 0 0, .slice none 0 0, .slice none 0 0, .slice none 0 0, .slice none 0 0] 29)] [(eC o2 #[iV a3.c.N, iV a3.c.S, iV a3.c.T, sV a5 n22 c23, sV a6 n26 c27, sV a7 d4 d5, sV a8 d6 d7, sV a9 d8 d9, sV b0 e0 e1, iV a3.l.Verts, iV a3.l.Arcs, iV a3.l.Workers, iV a3.l.Room, iV a3.l.Res, iV a3.l.Ex, iV a3.l.H, iV a3.l.Flag, iV a3.l.Pending, iV a3.l.Ask, iV a3.l.Count, iV a3.l.Sense, iV a3.l.Deques, iV a3.l.Size, pV k1, iV a3.limit] 80), (eC k1 #[sV d2 o4 o6] 221), (eA d2 Kt a3.b.l o7 226), (eC p3 #[iV a4.N, iV a4.S, iV a4.T, sV a5 n22 c23, sV a6 n26 c27, sV a7 d4 d5, sV a8 d6 d7, sV a9 d8 d9, sV b0 e0 e1] 29), (eI a5 a4.First n6 3), (eI a6 a4.Head n7 3), (eI a7 a4.Rev n8 3), (eI a8 a4.Cap n9 2), (eI a9 a4.Arc o0 3), (eA b0 boolC a4.Back o1 4), (eC b1 #[iV r7.N, iV r7.S, iV r7.T, sV b7 b8 b9] 24), (eA b7 Xe r7.Arcs l4 131)]
  · exact Xt
  · exact rfl
  · kernel_rfl
  · kernel_rfl
  · kernel_rfl
  · exact rfl
  · exact rfl
  · exact rfl
  · exact rfl
  · exact Xc (by repeat constructor)
  ·
   refine ⟨?_, ?_, ?_, ?_, ?_, ?_, ?_, ?_, ?_, ?_, ?_, ?_, trivial⟩
   · rintro vs es Es Hx -; refine Zh (D := []) rfl ?_; refine Yw Za Wg Nq rfl ?_; refine Ze ?_; exact Zl rfl ⟨rfl, rfl⟩ (Zj _) rfl
   · rintro vs es Es Hx -; refine Zh (D := []) rfl ?_; refine Yw Za Wh Wc rfl ?_; refine Ze ?_; exact Zl rfl ⟨rfl, rfl⟩ (Zj _) rfl
   · rintro vs es Es Hx -; refine Zh (D := []) rfl ?_; refine Zd Za ?_; refine Ze ?_; exact Zl rfl ⟨rfl, rfl⟩ (Zj _) rfl
   · rintro vs es Es Hx -; refine Zh (D := []) rfl ?_; refine Zd Za ?_; refine Ze ?_; exact Zl rfl ⟨rfl, rfl⟩ (Zj _) rfl
   · rintro vs es Es Hx ⟨⟨f2, j2⟩, -⟩; refine Zh (D := [(37, vs 3)]) rfl ?_; rw [f2]; refine Zv Zq ?_; refine Ze ?_; exact Zl rfl ⟨rfl, rfl⟩ (Zj _) (by show [(37, vs 3)] = _; rw [f2])
   · rintro vs es Es Hx ⟨⟨f3, j3⟩, -⟩; refine Zh (D := [(38, vs 4)]) rfl ?_; rw [f3]; refine Zd Za ?_; refine Yn (t := 39) (b' := true) rfl (decide_eq_true o8) ?_; refine Ze ?_; exact X.obQ2 rfl ⟨rfl, rfl⟩ (Zj _) (by show [(38, vs 4)] = _; rw [f3])
   · rintro vs es Es Hx ⟨⟨b6, f4⟩, -⟩; refine Zh (D := [(39, vs 5)]) rfl ?_; rw [b6]; refine Zd Za ?_; refine Ze ?_; exact Zl rfl ⟨rfl, rfl⟩ (Zj _) (by show [(39, vs 5)] = _; rw [b6])
   · rintro vs es Es Hx ⟨⟨b6, f4⟩, ⟨f5, j4⟩, -⟩; refine Zh (D := [(39, vs 5), (40, vs 6)]) rfl ?_; rw [b6, f5]; refine Zv Zq ?_; refine Ze ?_; exact Zl rfl ⟨rfl, rfl⟩ (Zj _) (by show [(39, vs 5), (40, vs 6)] = _; rw [b6, f5])
   · rintro vs es Es Hx ⟨⟨b6, f4⟩, ⟨f6, j5⟩, -⟩; refine Zh (D := [(39, vs 5), (41, vs 7)]) rfl ?_; rw [b6, f6]; refine Xw Zb ?_; refine Ze ?_; exact Zl rfl ⟨rfl, rfl⟩ (Zj _) (by show [(39, vs 5), (41, vs 7)] = _; rw [b6, f6])
   · rintro vs es Es Hx hb ⟨⟨f7, j6⟩, -⟩ hHR; obtain rfl : hb = [(eC b3 #[iV 0, iV 0, iV 0, .slice none 0 0] 24), (eC b5 #[iV 0, iV 0, iV 0, .slice none 0 0, .slice none 0 0, .slice none 0 0, .slice none 0 0, .slice none 0 0, .slice none 0 0] 29)] := hHR; refine Zh (D := [(34, vs 0)]) rfl ?_; rw [f7]; refine Yy Za Zf Lx Zp ?_; refine Ze ?_; exact Ur (hb' := [(eC b3 #[iV r7.N, iV r7.S, iV r7.T, sV b7 b8 b9] 24), (eC b5 #[iV 0, iV 0, iV 0, .slice none 0 0, .slice none 0 0, .slice none 0 0, .slice none 0 0, .slice none 0 0, .slice none 0 0] 29)]) rfl rfl rfl (Xc (by repeat constructor)) (by show [(34, vs 0)] = _; rw [f7])
   · rintro vs es Es Hx hb ⟨⟨f8, j7⟩, -⟩ hHR; obtain rfl : hb = [(eC b3 #[iV r7.N, iV r7.S, iV r7.T, sV b7 b8 b9] 24), (eC b5 #[iV 0, iV 0, iV 0, .slice none 0 0, .slice none 0 0, .slice none 0 0, .slice none 0 0, .slice none 0 0, .slice none 0 0] 29)] := hHR; refine Zh (D := [(35, vs 1)]) rfl ?_; rw [f8]; refine Yy Za Ye Nw Zp ?_; refine Ze ?_; exact Ur (hb' := [(eC b3 #[iV r7.N, iV r7.S, iV r7.T, sV b7 b8 b9] 24), (eC b5 #[iV a4.N, iV a4.S, iV a4.T, sV a5 n22 c23, sV a6 n26 c27, sV a7 d4 d5, sV a8 d6 d7, sV a9 d8 d9, sV b0 e0 e1] 29)]) rfl rfl rfl (Xc (by repeat constructor)) (by show [(35, vs 1)] = _; rw [f8])
   · rintro vs es Es Hx ⟨⟨f9, j8⟩, -⟩; refine Zh (D := [(36, vs 2)]) rfl ?_; rw [f9]; refine Xx Za ?_; refine Ze ?_; exact Zl rfl ⟨rfl, rfl⟩ (Zj _) (by show [(36, vs 2)] = _; rw [f9])
  · rintro vs es hb ⟨⟨f7, j6⟩, ⟨f8, j7⟩, ⟨f9, j8⟩, ⟨f2, j2⟩, ⟨f3, j3⟩, ⟨b6, f4⟩, ⟨f5, j4⟩, ⟨f6, j5⟩, ⟨m6, m7⟩, m8, g0, ⟨g1, g2⟩, -⟩ hHR; obtain rfl : hb = [(eC b3 #[iV r7.N, iV r7.S, iV r7.T, sV b7 b8 b9] 24), (eC b5 #[iV a4.N, iV a4.S, iV a4.T, sV a5 n22 c23, sV a6 n26 c27, sV a7 d4 d5, sV a8 d6 d7, sV a9 d8 d9, sV b0 e0 e1] 29)] := hHR; refine Zh (D := [(34, vs 0), (35, vs 1), (36, vs 2), (37, vs 3), (38, vs 4), (39, vs 5), (40, vs 6), (41, vs 7), (42, vs 8), (8, vs 11)]) rfl ?_; refine Wl (H := _ ++ (_ ++ (es 0 ++ (es 1 ++ (es 2 ++ (es 3 ++ (es 4 ++ (es 5 ++ (es 6 ++ (es 7 ++ (es 8 ++ (es 9 ++ (es 10 ++ (es 11 ++ ([]))))))))))))))) rfl ?_; rw [j6, j7, j8, j2, j3, f4, j4, j5, m7, m8, g0, g2]; rw [f7, f8, f9, f2, f3, b6, f5, f6, m6, g1]; clear g1 m6 f6 f5 b6 f3 f2 f9 f8 f7 j6 j7 j8 j2 j3 f4 j4 j5 m7 m8 g0 g2; refine aN Za ?_; refine Zs (aT [6, 7, 8, 9] rfl) ?_; refine T.ret ?_; obtain ⟨rfl, rfl, rfl, rfl⟩ := ret4 H; exact X.ret4 Za (Vi rfl Wg Zk rfl) (Vi rfl Wh Yi rfl) (Res.tmp rfl) (Res.tmp rfl) (Zc tk13 (Zc Ym (Zc Ym (Zc Ym (Zc Ym (Zc Ym (Zc Ym (Zc Yt (Zc Yt (Zc Yt Zg)))))))))) ⟨b7, b8, b9, l4, a5, n22, c23, n6, a6, n26, c27, n7, a7, d4, d5, n8, a8, d6, d7, n9, a9, d8, d9, o0, b0, e0, e1, o1, o2, k1, d2, o4, o6, o7, rfl, rfl, g8, g9, l5, h1, h2, h3, l6, h4, h5, h6, l7, h7, h8, h9, l8, i1, i2, i4, l9, i5, i6, i7, m0, i8, i9, j0, m1, j1, m2, m3, m4, m5⟩
 ·
  apply Ku [rV [] _, rV [] _, rV [] _, rV [] _, rV [3] _, rV [4] _, rV [5] _, rV [5, 6] _, rV [5, 7] _, ⟨[0], true, [], Ut⟩, ⟨[1], true, [], Ut⟩, rV [2] _] [34, 35, 36, 37, 38, 39, 40, 41, 42, 8] 12 (HRk [[(eC b3 #[iV 0, iV 0, iV 0, .slice none 0 0] 24), (eC b5 #[iV 0, iV 0, iV 0, .slice none 0 0, .slice none 0 0, .slice none 0 0, .slice none 0 0, .slice none 0 0, .slice none 0 0] 29)], [(eC b3 #[iV r7.N, iV r7.S, iV r7.T, sV b7 b8 b9] 24), (eC b5 #[iV 0, iV 0, iV 0, .slice none 0 0, .slice none 0 0, .slice none 0 0, .slice none 0 0, .slice none 0 0, .slice none 0 0] 29)], [(eC b3 #[iV r7.N, iV r7.S, iV r7.T, sV b7 b8 b9] 24), (eC b5 #[iV a4.N, iV a4.S, iV a4.T, sV a5 n22 c23, sV a6 n26 c27, sV a7 d4 d5, sV a8 d6 d7, sV a9 d8 d9, sV b0 e0 e1] 29)]]) [[], [], []] [(eC b3 #[iV 0, iV 0, iV 0, .slice none 0 0] 24), (eC b5 #[iV 0, iV 0, iV 0, .slice none 0 0, .slice none 0 0, .slice none 0 0, .slice none 0 0, .slice none 0 0, .slice none 0 0] 29)] [(eC o2 #[iV a3.c.N, iV a3.c.S, iV a3.c.T, sV a5 n22 c23, sV a6 n26 c27, sV a7 d4 d5, sV a8 d6 d7, sV a9 d8 d9, sV b0 e0 e1, iV a3.l.Verts, iV a3.l.Arcs, iV a3.l.Workers, iV a3.l.Room, iV a3.l.Res, iV a3.l.Ex, iV a3.l.H, iV a3.l.Flag, iV a3.l.Pending, iV a3.l.Ask, iV a3.l.Count, iV a3.l.Sense, iV a3.l.Deques, iV a3.l.Size, pV k1, iV a3.limit] 80), (eC k1 #[sV d2 o4 o6] 221), (eA d2 Kt a3.b.l o7 226), (eC p3 #[iV a4.N, iV a4.S, iV a4.T, sV a5 n22 c23, sV a6 n26 c27, sV a7 d4 d5, sV a8 d6 d7, sV a9 d8 d9, sV b0 e0 e1] 29), (eI a5 a4.First n6 3), (eI a6 a4.Head n7 3), (eI a7 a4.Rev n8 3), (eI a8 a4.Cap n9 2), (eI a9 a4.Arc o0 3), (eA b0 boolC a4.Back o1 4), (eC b1 #[iV r7.N, iV r7.S, iV r7.T, sV b7 b8 b9] 24), (eA b7 Xe r7.Arcs l4 131)]
  · exact Xt
  · exact rfl
  · kernel_rfl
  · kernel_rfl
  · kernel_rfl
  · exact rfl
  · exact rfl
  · exact rfl
  · exact rfl
  · exact Xc (by repeat constructor)
  ·
   refine ⟨?_, ?_, ?_, ?_, ?_, ?_, ?_, ?_, ?_, ?_, ?_, ?_, trivial⟩
   · rintro vs es Es Hx -; refine Zh (D := []) rfl ?_; refine Yw Za Wg Nq rfl ?_; refine Ze ?_; exact Zl rfl ⟨rfl, rfl⟩ (Zj _) rfl
   · rintro vs es Es Hx -; refine Zh (D := []) rfl ?_; refine Yw Za Wh Wc rfl ?_; refine Ze ?_; exact Zl rfl ⟨rfl, rfl⟩ (Zj _) rfl
   · rintro vs es Es Hx -; refine Zh (D := []) rfl ?_; refine Zd Za ?_; refine Ze ?_; exact Zl rfl ⟨rfl, rfl⟩ (Zj _) rfl
   · rintro vs es Es Hx -; refine Zh (D := []) rfl ?_; refine Zd Za ?_; refine Ze ?_; exact Zl rfl ⟨rfl, rfl⟩ (Zj _) rfl
   · rintro vs es Es Hx ⟨⟨f2, j2⟩, -⟩; refine Zh (D := [(37, vs 3)]) rfl ?_; rw [f2]; refine Zv Zq ?_; refine Ze ?_; exact Zl rfl ⟨rfl, rfl⟩ (Zj _) (by show [(37, vs 3)] = _; rw [f2])
   · rintro vs es Es Hx ⟨⟨f3, j3⟩, -⟩; refine Zh (D := [(38, vs 4)]) rfl ?_; rw [f3]; refine Zd Za ?_; refine Yn (t := 39) (b' := false) rfl (decide_eq_false o8) ?_; refine Ze ?_; exact X.obQ2 rfl ⟨rfl, rfl⟩ (Zj _) (by show [(38, vs 4)] = _; rw [f3])
   · rintro vs es Es Hx ⟨⟨b6, f4⟩, -⟩; refine Zh (D := [(39, vs 5)]) rfl ?_; rw [b6]; refine Zr Za ?_; refine Ze ?_; exact Zl rfl ⟨rfl, rfl⟩ (Zj _) (by show [(39, vs 5)] = _; rw [b6])
   · rintro vs es Es Hx ⟨⟨b6, f4⟩, ⟨f5, j4⟩, -⟩; refine Zh (D := [(39, vs 5), (40, vs 6)]) rfl ?_; rw [b6, f5]; refine Zr Za ?_; refine Ze ?_; exact Zl rfl ⟨rfl, rfl⟩ (Zj _) (by show [(39, vs 5), (40, vs 6)] = _; rw [b6, f5])
   · rintro vs es Es Hx ⟨⟨b6, f4⟩, ⟨f6, j5⟩, -⟩; refine Zh (D := [(39, vs 5), (41, vs 7)]) rfl ?_; rw [b6, f6]; refine Wa Zb ?_; refine Ze ?_; exact Zl rfl ⟨rfl, rfl⟩ (Zj _) (by show [(39, vs 5), (41, vs 7)] = _; rw [b6, f6])
   · rintro vs es Es Hx hb ⟨⟨f7, j6⟩, -⟩ hHR; obtain rfl : hb = [(eC b3 #[iV 0, iV 0, iV 0, .slice none 0 0] 24), (eC b5 #[iV 0, iV 0, iV 0, .slice none 0 0, .slice none 0 0, .slice none 0 0, .slice none 0 0, .slice none 0 0, .slice none 0 0] 29)] := hHR; refine Zh (D := [(34, vs 0)]) rfl ?_; rw [f7]; refine Yy Za Zf Lx Zp ?_; refine Ze ?_; exact Ur (hb' := [(eC b3 #[iV r7.N, iV r7.S, iV r7.T, sV b7 b8 b9] 24), (eC b5 #[iV 0, iV 0, iV 0, .slice none 0 0, .slice none 0 0, .slice none 0 0, .slice none 0 0, .slice none 0 0, .slice none 0 0] 29)]) rfl rfl rfl (Xc (by repeat constructor)) (by show [(34, vs 0)] = _; rw [f7])
   · rintro vs es Es Hx hb ⟨⟨f8, j7⟩, -⟩ hHR; obtain rfl : hb = [(eC b3 #[iV r7.N, iV r7.S, iV r7.T, sV b7 b8 b9] 24), (eC b5 #[iV 0, iV 0, iV 0, .slice none 0 0, .slice none 0 0, .slice none 0 0, .slice none 0 0, .slice none 0 0, .slice none 0 0] 29)] := hHR; refine Zh (D := [(35, vs 1)]) rfl ?_; rw [f8]; refine Yy Za Ye Nw Zp ?_; refine Ze ?_; exact Ur (hb' := [(eC b3 #[iV r7.N, iV r7.S, iV r7.T, sV b7 b8 b9] 24), (eC b5 #[iV a4.N, iV a4.S, iV a4.T, sV a5 n22 c23, sV a6 n26 c27, sV a7 d4 d5, sV a8 d6 d7, sV a9 d8 d9, sV b0 e0 e1] 29)]) rfl rfl rfl (Xc (by repeat constructor)) (by show [(35, vs 1)] = _; rw [f8])
   · rintro vs es Es Hx ⟨⟨f9, j8⟩, -⟩; refine Zh (D := [(36, vs 2)]) rfl ?_; rw [f9]; refine Xx Za ?_; refine Ze ?_; exact Zl rfl ⟨rfl, rfl⟩ (Zj _) (by show [(36, vs 2)] = _; rw [f9])
  · rintro vs es hb ⟨⟨f7, j6⟩, ⟨f8, j7⟩, ⟨f9, j8⟩, ⟨f2, j2⟩, ⟨f3, j3⟩, ⟨b6, f4⟩, ⟨f5, j4⟩, ⟨f6, j5⟩, ⟨m6, m7⟩, m8, g0, ⟨g1, g2⟩, -⟩ hHR; obtain rfl : hb = [(eC b3 #[iV r7.N, iV r7.S, iV r7.T, sV b7 b8 b9] 24), (eC b5 #[iV a4.N, iV a4.S, iV a4.T, sV a5 n22 c23, sV a6 n26 c27, sV a7 d4 d5, sV a8 d6 d7, sV a9 d8 d9, sV b0 e0 e1] 29)] := hHR; refine Zh (D := [(34, vs 0), (35, vs 1), (36, vs 2), (37, vs 3), (38, vs 4), (39, vs 5), (40, vs 6), (41, vs 7), (42, vs 8), (8, vs 11)]) rfl ?_; refine Wl (H := _ ++ (_ ++ (es 0 ++ (es 1 ++ (es 2 ++ (es 3 ++ (es 4 ++ (es 5 ++ (es 6 ++ (es 7 ++ (es 8 ++ (es 9 ++ (es 10 ++ (es 11 ++ ([]))))))))))))))) rfl ?_; rw [j6, j7, j8, j2, j3, f4, j4, j5, m7, m8, g0, g2]; rw [f7, f8, f9, f2, f3, b6, f5, f6, m6, g1]; clear g1 m6 f6 f5 b6 f3 f2 f9 f8 f7 j6 j7 j8 j2 j3 f4 j4 j5 m7 m8 g0 g2; refine aN Za ?_; refine Zs (aT [6, 7, 8, 9] rfl) ?_; refine T.ret ?_; obtain ⟨rfl, rfl, rfl, rfl⟩ := ret4 H; exact X.ret4 Za (Vi rfl Wg Zk rfl) (Vi rfl Wh Yi rfl) (Res.tmp rfl) (Res.tmp rfl) (Zc tk13 (Zc Ym (Zc Ym (Zc Ym (Zc Ym (Zc Ym (Zc Ym (Zc Yt (Zc Yt (Zc Yt Zg)))))))))) ⟨b7, b8, b9, l4, a5, n22, c23, n6, a6, n26, c27, n7, a7, d4, d5, n8, a8, d6, d7, n9, a9, d8, d9, o0, b0, e0, e1, o1, o2, k1, d2, o4, o6, o7, rfl, rfl, g8, g9, l5, h1, h2, h3, l6, h4, h5, h6, l7, h7, h8, h9, l8, i1, i2, i4, l9, i5, i6, i7, m0, i8, i9, j0, m1, j1, m2, m3, m4, m5⟩
end Go.Proofs.YtobnnpdfeakbbaaGreat.Ax
namespace Go.Proofs.YtobnnpdfeakbbaaGreat.Ax
open Go Go.Acq Go.RowKit Go.Proofs
set_option maxHeartbeats 8000000
set_option maxRecDepth 20000
theorem Z8g : Yj Tryz.prog 24 = true := by kernel_rfl
theorem Z2w : Yj Tryz.prog 27 = true := by kernel_rfl
theorem Z24 : Yj Tryz.prog 34 = true := by kernel_rfl
theorem Z7x : Yj Tryz.prog 37 = true := by kernel_rfl
theorem Z31 : Yb Tryz.prog 81 = some 58 := by kernel_rfl
theorem Z3m : Zy Tryz.prog 58 = some 1 := by kernel_rfl
theorem Z8b : Xh Tryz.prog 58 = some (.pointer none) := by kernel_rfl
theorem Z88 : ElemT Tryz.prog 26 2 1 8 (iV 0) := ⟨Yx, Xb, Ro, Nc, rfl⟩
theorem Z9h {p1 : Pre} {picks2 : List Int} {most3 : Int} {b0 c4 c3 a5 : Option Addr} {a6 a8 a7 a9 b8 b6 a4 a3 : Nat} (w : World) (e2 : RS w [] iC 1 b0 a6 a8 p1.Res) (e4 : RS w [] iC 1 c4 a7 a9 p1.Ex) (e3 : RS w [] iC 1 c3 b8 b6 p1.H) (d4 : RS w [] iC 1 a5 a4 a3 picks2) {r0 : Pre} {r1 : Phase} {r2 : Int} (H : Z2x p1 picks2 most3 = some (r0, r1, r2)) : Fnc Tryz.prog 34 #[.pointer none, .agg #[.slice b0 a6 a8, .slice c4 a7 a9, .slice c3 b8 b6], .slice a5 a4 a3, iV most3] w [] (fun v N => ∃ (d0 : Option Nat) (d6 d7 : Nat) (e5 : List Value) (d1 : Option Nat) (d8 d9 : Nat) (e6 : List Value) (d2 : Option Nat) (e0 e1 : Nat) (e7 : List Value) (c7 : Option Nat) (c8 c9 : Nat) (d5 : List Value), v = .tuple #[.agg #[sV d0 d6 d7, sV d1 d8 d9, sV d2 e0 e1], .agg #[iV r1.Steps, iV r1.Rounds, .bool r1.Asked, sV c7 c8 c9], iV r2] ∧ N = [(eI d0 r0.Res e5 2), (eI d1 r0.Ex e6 2), (eI d2 r0.H e7 3), (eA c7 Z40 r1.Events d5 40)] ∧ r0.Res.length = d6 ∧ d6 ≤ d7 ∧ e5.length = (d7 - d6) * 1 ∧ (d0 = none → d7 = 0) ∧ r0.Ex.length = d8 ∧ d8 ≤ d9 ∧ e6.length = (d9 - d8) * 1 ∧ (d1 = none → d9 = 0) ∧ r0.H.length = e0 ∧ e0 ≤ e1 ∧ e7.length = (e1 - e0) * 1 ∧ (d2 = none → e1 = 0) ∧ r1.Events.length = c8 ∧ c8 ≤ c9 ∧ d5.length = (c9 - c8) * 7 ∧ (c7 = none → c9 = 0)) := by
 unfold Z2x at H; refine Z35 (vs := [.pointer none, .agg #[.slice b0 a6 a8, .slice c4 a7 a9, .slice c3 b8 b6], .slice a5 a4 a3, iV most3]) Tryz.func34 rfl rfl (Inv.refl w) ?_; refine sR Y6 rfl ?_; refine TO.box Za ?_; intro b1; refine Xp Za ?_; intro b3; refine TO.box Za ?_; intro b5; refine Xg Zp Km ?_; intro b7; refine Xg Zp Nx ?_; intro b9; refine TO.alloc Zp Z44 ?_; intro e8; refine dS ?_; refine T.block ?_; refine sR Y10 rfl ?_; refine Zm Za Nf Uy rfl ?_; refine Z1l (b := true) Zq Z45 ?_; refine Zd Za ?_; refine Zr Za ?_; refine Zr Za ?_; refine Zr Za ?_; refine Zr Za ?_; refine Zr Za ?_; refine Xw Zb ?_; refine aN Za ?_; refine Zs (aT [2, 4, 5, 7, 8, 9, 10, 21] rfl) ?_; refine Xq Yv ?_; refine sR Y5 rfl ?_; refine Wr (t := 53) [.slice none 0 0, .slice none 0 0, .slice none 0 0] [0, 1, 2] Za (by simp only [Wb, setCells, Value.cells, List.toList_toArray, List.getD_cons_zero, List.getD_cons_succ, List.set_cons_zero, List.set_cons_succ]; rfl) (by kernel_rfl) ?_; refine Wr (t := 70) [iV 0, iV 0, .bool false, .slice none 0 0] [0, 1, 2, 3] Za (by simp only [Wb, setCells, Value.cells, List.toList_toArray, List.getD_cons_zero, List.getD_cons_succ, List.set_cons_zero, List.set_cons_succ]; rfl) (by kernel_rfl) ?_; refine Yy Za Yt Kj Zp ?_; refine Yy Za Yt Nk Zp ?_; refine Wj (cs' := [iV 1]) Za Yt Z4g Zp ?_; refine dN ?_; refine T.ret ?_; refine Xi ?_; refine Zz ?_; obtain ⟨rfl, rfl, rfl⟩ := ret3 H; exact Z4s [] Zb (Zj _) (Vi rfl Ka Xn rfl) (Vi rfl Z4i Yi rfl) (Z3q rfl Ju Zk rfl) (Pick.none (Pick.none (Pick.none (Pick.none Zg)))) ⟨none, 0, 0, ([]), none, 0, 0, ([]), none, 0, 0, ([]), none, 0, 0, ([]), rfl, rfl, rfl, (Nat.le_refl _), (Xd 0 _), (fun _ => rfl), rfl, (Nat.le_refl _), (Xd 0 _), (fun _ => rfl), rfl, (Nat.le_refl _), (Xd 0 _), (fun _ => rfl), rfl, (Nat.le_refl _), (Xd 0 _), (fun _ => rfl)⟩
theorem Z83 {p1 : Pre} {picks2 : List Int} {most3 : Int} {d5 a6 a8 a7 a9 b8 b6 a4 a3 : Nat} {b0 c4 c3 a5 : Option Addr} (w : World) (d4 : HB w [] d5 [iV 0, iV 0, iV 0, .slice none 0 0, .slice none 0 0, .slice none 0 0, .slice none 0 0, .slice none 0 0, .slice none 0 0, iV 0, iV 0, iV 0, iV 0, iV 0, iV 0, iV 0, iV 0, iV 0, iV 0, iV 0, iV 0, iV 0, iV 0, .pointer none, iV 0]) (e4 : RS w [] iC 1 b0 a6 a8 p1.Res) (e6 : RS w [] iC 1 c4 a7 a9 p1.Ex) (e5 : RS w [] iC 1 c3 b8 b6 p1.H) (d6 : RS w [] iC 1 a5 a4 a3 picks2) {r0 : Pre} {r1 : Phase} {r2 : Int} (H : Z28 p1 picks2 most3 = some (r0, r1, r2)) : Fnc Tryz.prog 34 #[pV d5, .agg #[.slice b0 a6 a8, .slice c4 a7 a9, .slice c3 b8 b6], .slice a5 a4 a3, iV most3] w [] (fun v N => ∃ (d0 : Option Nat) (d8 d9 : Nat) (e7 : List Value) (d1 : Option Nat) (e0 e1 : Nat) (e8 : List Value) (d2 : Option Nat) (e2 e3 : Nat) (e9 : List Value) (c7 : Option Nat) (c8 c9 : Nat) (d7 : List Value), v = .tuple #[.agg #[sV d0 d8 d9, sV d1 e0 e1, sV d2 e2 e3], .agg #[iV r1.Steps, iV r1.Rounds, .bool r1.Asked, sV c7 c8 c9], iV r2] ∧ N = [(eI d0 r0.Res e7 2), (eI d1 r0.Ex e8 2), (eI d2 r0.H e9 3), (eA c7 Z40 r1.Events d7 40)] ∧ r0.Res.length = d8 ∧ d8 ≤ d9 ∧ e7.length = (d9 - d8) * 1 ∧ (d0 = none → d9 = 0) ∧ r0.Ex.length = e0 ∧ e0 ≤ e1 ∧ e8.length = (e1 - e0) * 1 ∧ (d1 = none → e1 = 0) ∧ r0.H.length = e2 ∧ e2 ≤ e3 ∧ e9.length = (e3 - e2) * 1 ∧ (d2 = none → e3 = 0) ∧ r1.Events.length = c8 ∧ c8 ≤ c9 ∧ d7.length = (c9 - c8) * 7 ∧ (c7 = none → c9 = 0)) := by
 unfold Z28 at H; refine Z35 (vs := [pV d5, .agg #[.slice b0 a6 a8, .slice c4 a7 a9, .slice c3 b8 b6], .slice a5 a4 a3, iV most3]) Tryz.func34 rfl rfl (Inv.refl w) ?_; refine sR Y6 rfl ?_; refine TO.box Za ?_; intro b1; refine Xp Za ?_; intro b3; refine TO.box Za ?_; intro b5; refine Xg Zp Km ?_; intro b7; refine Xg Zp Nx ?_; intro b9; refine TO.alloc Zp Z44 ?_; intro f0; refine dS ?_; refine T.block ?_; refine sR Y10 rfl ?_; refine Zm Za Nf Uy rfl ?_; refine Z1l (b := false) Zq Z45 ?_; refine Zd Za ?_; refine Zm Za Nf Uy rfl ?_; refine TO.nilCheck Za ?_; refine Zi Za Z7k ?_; refine Uw d4 Zb Z6c ?_; refine Z1l (b := true) Zq Z7l ?_; refine Wa Zb ?_; refine aN Za ?_; refine Zs (aT [2, 4, 5, 7, 8, 9, 10, 21] rfl) ?_; refine Xq Yv ?_; refine sR Y5 rfl ?_; refine Wr (t := 53) [.slice none 0 0, .slice none 0 0, .slice none 0 0] [0, 1, 2] Za (by simp only [Wb, setCells, Value.cells, List.toList_toArray, List.getD_cons_zero, List.getD_cons_succ, List.set_cons_zero, List.set_cons_succ]; rfl) (by kernel_rfl) ?_; refine Wr (t := 70) [iV 0, iV 0, .bool false, .slice none 0 0] [0, 1, 2, 3] Za (by simp only [Wb, setCells, Value.cells, List.toList_toArray, List.getD_cons_zero, List.getD_cons_succ, List.set_cons_zero, List.set_cons_succ]; rfl) (by kernel_rfl) ?_; refine Yy Za Yt Kj Zp ?_; refine Yy Za Yt Nk Zp ?_; refine Wj (cs' := [iV 1]) Za Yt Z4g Zp ?_; refine dN ?_; refine T.ret ?_; refine Xi ?_; refine Zz ?_; obtain ⟨rfl, rfl, rfl⟩ := ret3 H; exact Z4s [] Zb (Zj _) (Vi rfl Ka Xn rfl) (Vi rfl Z4i Yi rfl) (Z3q rfl Ju Zk rfl) (Pick.none (Pick.none (Pick.none (Pick.none Zg)))) ⟨none, 0, 0, ([]), none, 0, 0, ([]), none, 0, 0, ([]), none, 0, 0, ([]), rfl, rfl, rfl, (Nat.le_refl _), (Xd 0 _), (fun _ => rfl), rfl, (Nat.le_refl _), (Xd 0 _), (fun _ => rfl), rfl, (Nat.le_refl _), (Xd 0 _), (fun _ => rfl), rfl, (Nat.le_refl _), (Xd 0 _), (fun _ => rfl)⟩
theorem Z53 {c0 : Csr} {workers1 limit2 : Int} {a7 c4 b6 c9 c8 a8 : Option Addr} {b0 b5 a5 a9 c3 a3 c7 a6 b7 d0 b9 a4 : Nat} (w : World) (d8 : RS w [] iC 1 a7 b0 b5 c0.First) (d5 : RS w [] iC 1 c4 a5 a9 c0.Head) (d6 : RS w [] iC 1 b6 c3 a3 c0.Rev) (d7 : RS w [] iC 1 c9 c7 a6 c0.Cap) (d4 : RS w [] iC 1 c8 b7 d0 c0.Arc) (d2 : RS w [] boolC 1 a8 b9 a4 c0.Back) {r1 : Int} (H : Ga c0 workers1 limit2 = some r1) : Fnc Tryz.prog 25 #[.agg #[iV c0.N, iV c0.S, iV c0.T, .slice a7 b0 b5, .slice c4 a5 a9, .slice b6 c3 a3, .slice c9 c7 a6, .slice c8 b7 d0, .slice a8 b9 a4], iV workers1, iV limit2] w [] (fun v N => v = .tuple #[.pointer none, iV r1] ∧ N = []) := by
 unfold Ga at H; refine Fnc.enter (vs := [.agg #[iV c0.N, iV c0.S, iV c0.T, .slice a7 b0 b5, .slice c4 a5 a9, .slice b6 c3 a3, .slice c9 c7 a6, .slice c8 b7 d0, .slice a8 b9 a4], iV workers1, iV limit2]) Tryz.func25 rfl rfl (Inv.refl w) ?_; refine sR Y3 rfl ?_; refine Xp Za ?_; intro b1; refine Xx Za ?_; refine aN Za ?_; refine Zo ?_; obtain ⟨r3, e4, H⟩ := Zu H; obtain ⟨⟨r5, r6⟩, e7, H⟩ := Zu H; apply Ku [rV [] _, rV [0] _, rV [] _, rV [2] _, rV [] _, rV [1, 3, 4] _, rV [5] _, rV [6] _, rV [6] _, ⟨[], false, [], fun _ v e => ∃ (b8 : Nat), v = pV b8 ∧ e = [(eC b8 #[iV 0, iV 0, iV 0, iV 0, iV 0, iV 0, iV 0, iV 0, iV 0, iV 0, iV 0, iV 0, iV 0, iV 0] 31)]⟩, ⟨[7, 9], false, [9], fun vl _ e => e = [(some (Rn (vl.getD 1 undef)), .cells #[(Zx (vl.getD 0 undef) 0), (Zx (vl.getD 0 undef) 1), (Zx (vl.getD 0 undef) 2), (Zx (vl.getD 0 undef) 3), (Zx (vl.getD 0 undef) 4), (Zx (vl.getD 0 undef) 5), (Zx (vl.getD 0 undef) 6), (Zx (vl.getD 0 undef) 7), (Zx (vl.getD 0 undef) 8), (Zx (vl.getD 0 undef) 9), (Zx (vl.getD 0 undef) 10), (Zx (vl.getD 0 undef) 11), (Zx (vl.getD 0 undef) 12), (Zx (vl.getD 0 undef) 13)] 31 (0, 0))]⟩] [12, 13, 14, 15, 16, 17, 11, 18, 19, 8] 11 (HRk [[]]) [[]] [] [(eC b1 #[iV c0.N, iV c0.S, iV c0.T, .slice a7 b0 b5, .slice c4 a5 a9, .slice b6 c3 a3, .slice c9 c7 a6, .slice c8 b7 d0, .slice a8 b9 a4] 29)]
 · exact Xt
 · exact rfl
 · kernel_rfl
 · kernel_rfl
 · kernel_rfl
 · exact rfl
 · exact rfl
 · exact rfl
 · exact rfl
 · exact Xc (by repeat constructor)
 ·
  refine ⟨?_, ?_, ?_, ?_, ?_, ?_, ?_, ?_, ?_, ?_, ?_, trivial⟩
  · rintro vs es Es Hx -; refine Zh (D := []) rfl ?_; refine Zi Za Ua ?_; refine Ze ?_; exact Zl rfl ⟨rfl, rfl⟩ (Zj _) rfl
  · rintro vs es Es Hx ⟨⟨e1, f2⟩, -⟩; refine Zh (D := [(12, vs 0)]) rfl ?_; rw [e1]; refine Zm Za Zt Zk rfl ?_; refine Ze ?_; exact Zl rfl ⟨rfl, rfl⟩ (Zj _) (by show [(12, vs 0)] = _; rw [e1])
  · rintro vs es Es Hx -; refine Zh (D := []) rfl ?_; refine Yw Za Wh Zk rfl ?_; refine Ze ?_; exact Zl rfl ⟨rfl, rfl⟩ (Zj _) rfl
  · rintro vs es Es Hx ⟨⟨e2, f3⟩, -⟩; refine Zh (D := [(14, vs 2)]) rfl ?_; rw [e2]; refine Yl Z1x Za (fun wc hwc => Z2b (c0 := c0) wc (d8.mono hwc) (d5.mono hwc) (d6.mono hwc) (d7.mono hwc) (d4.mono hwc) (d2.mono hwc) e4) ?_; rintro _ _ ⟨rfl, rfl⟩; refine Ze ?_; exact Zl rfl ⟨rfl, rfl⟩ (Zj _) (by show [(14, vs 2)] = _; rw [e2])
  · rintro vs es Es Hx -; refine Zh (D := []) rfl ?_; refine Zd Za ?_; refine Ze ?_; exact Zl rfl ⟨rfl, rfl⟩ (Zj _) rfl
  · rintro vs es Es Hx ⟨⟨e3, f4⟩, ⟨e5, f5⟩, ⟨e6, f6⟩, -⟩; refine Zh (D := [(13, vs 1), (15, vs 3), (16, vs 4)]) rfl ?_; rw [e3, e5, e6]; refine Yl Z5s Za (fun wc hwc => Z67 (verts0 := c0.N) (arcs1 := r3) (workers2 := workers1) wc  e7) ?_; rintro _ _ ⟨rfl, rfl⟩; refine Ze ?_; exact Zl rfl ⟨rfl, rfl⟩ (Zj _) (by show [(13, vs 1), (15, vs 3), (16, vs 4)] = _; rw [e3, e5, e6])
  · rintro vs es Es Hx ⟨⟨e8, f7⟩, -⟩; refine Zh (D := [(17, vs 5)]) rfl ?_; rw [e8]; refine Zd Za ?_; refine Ze ?_; exact Zl rfl ⟨rfl, rfl⟩ (Zj _) (by show [(17, vs 5)] = _; rw [e8])
  · rintro vs es Es Hx ⟨⟨d1, f1⟩, -⟩; refine Zh (D := [(11, vs 6)]) rfl ?_; rw [d1]; refine TO.extract Zb ?_; refine Ze ?_; exact Zl rfl ⟨rfl, rfl⟩ (Zj _) (by show [(11, vs 6)] = _; rw [d1])
  · rintro vs es Es Hx ⟨⟨d1, f1⟩, -⟩; refine Zh (D := [(11, vs 6)]) rfl ?_; rw [d1]; refine TO.extract Zb ?_; refine Ze ?_; exact Zl rfl ⟨rfl, rfl⟩ (Zj _) (by show [(11, vs 6)] = _; rw [d1])
  · rintro vs es Es Hx -; refine Zh (D := []) rfl ?_; refine Xg Zp Z2r ?_; intro b8; refine Ze ?_; exact Zl rfl ⟨b8, rfl, rfl⟩ (Xc (by repeat constructor)) rfl
  · rintro vs es Es Hx ⟨⟨d9, e9⟩, ⟨b8, e0, f8⟩, -⟩; refine Zh (D := [(18, vs 7), (8, vs 9)]) rfl ?_; rw [d9, e0]; refine Wl (H := _ ++ ((es 7 ++ (es 9 ++ ([]))) ++ _)) rfl ?_; rw [e9, f8]; refine Yy Za Ye Z04 Zp ?_; refine Wl (H := [(some (Rn (vs 9)), .cells #[(Zx (vs 7) 0), (Zx (vs 7) 1), (Zx (vs 7) 2), (Zx (vs 7) 3), (Zx (vs 7) 4), (Zx (vs 7) 5), (Zx (vs 7) 6), (Zx (vs 7) 7), (Zx (vs 7) 8), (Zx (vs 7) 9), (Zx (vs 7) 10), (Zx (vs 7) 11), (Zx (vs 7) 12), (Zx (vs 7) 13)] 31 (0, 0)), (eC b1 #[iV c0.N, iV c0.S, iV c0.T, .slice a7 b0 b5, .slice c4 a5 a9, .slice b6 c3 a3, .slice c9 c7 a6, .slice c8 b7 d0, .slice a8 b9 a4] 29)] ++ Hx) (by rw [d9, e0] <;> rfl) ?_; refine Ze ?_; exact X.obQn rfl rfl (by show Pick (_ ++ (_ ++ ((es 7 ++ ([])) ++ _))) _; rw [e9]; exact Xc (by repeat constructor)) (by show [(18, vs 7), (8, vs 9)] = _; rw [d9, e0])
 ·
  rintro vs es hb ⟨⟨e1, f2⟩, ⟨e3, f4⟩, ⟨e2, f3⟩, ⟨e5, f5⟩, ⟨e6, f6⟩, ⟨e8, f7⟩, ⟨d1, f1⟩, ⟨d9, e9⟩, ⟨g0, g1⟩, ⟨b8, e0, f8⟩, f0, -⟩ hHR; obtain rfl : hb = [] := hHR; refine Zh (D := [(12, vs 0), (13, vs 1), (14, vs 2), (15, vs 3), (16, vs 4), (17, vs 5), (11, vs 6), (18, vs 7), (19, vs 8), (8, vs 9)]) rfl ?_; refine Wl (H := [(eC b1 #[iV c0.N, iV c0.S, iV c0.T, .slice a7 b0 b5, .slice c4 a5 a9, .slice b6 c3 a3, .slice c9 c7 a6, .slice c8 b7 d0, .slice a8 b9 a4] 29), (some (Rn (vs 9)), .cells #[(Zx (vs 7) 0), (Zx (vs 7) 1), (Zx (vs 7) 2), (Zx (vs 7) 3), (Zx (vs 7) 4), (Zx (vs 7) 5), (Zx (vs 7) 6), (Zx (vs 7) 7), (Zx (vs 7) 8), (Zx (vs 7) 9), (Zx (vs 7) 10), (Zx (vs 7) 11), (Zx (vs 7) 12), (Zx (vs 7) 13)] 31 (0, 0))]) (by show _ ++ (_ ++ (es 0 ++ (es 1 ++ (es 2 ++ (es 3 ++ (es 4 ++ (es 5 ++ (es 6 ++ (es 7 ++ (es 8 ++ (es 10 ++ ([])))))))))))) = _; rw [f2, f4, f3, f5, f6, f7, f1, e9, g1, f0]; rfl) ?_; rw [e1, e3, e2, e5, e6, e8, d1, d9, g0, e0]; refine Wl (H := [(eC b1 #[iV c0.N, iV c0.S, iV c0.T, .slice a7 b0 b5, .slice c4 a5 a9, .slice b6 c3 a3, .slice c9 c7 a6, .slice c8 b7 d0, .slice a8 b9 a4] 29), (eC b8 #[iV r5.Verts, iV r5.Arcs, iV r5.Workers, iV r5.Room, iV r5.Res, iV r5.Ex, iV r5.H, iV r5.Flag, iV r5.Pending, iV r5.Ask, iV r5.Count, iV r5.Sense, iV r5.Deques, iV r5.Size] 31)]) rfl ?_; clear e0 g0 d9 d1 e8 e6 e5 e2 e3 e1 f2 f4 f3 f5 f6 f7 f1 e9 g1 f8 f0; refine aN Za ?_; refine Zs (aT [2, 3, 8, 9] rfl) ?_; refine Zo ?_; refine T.block ?_; refine sR Y3 rfl ?_; refine Zd Za ?_; refine Zv Zq ?_; refine aN Za ?_; rcases Zw H with ⟨f9, H⟩ | ⟨f9, H⟩
  · refine Xs rfl f9 ?_; refine sR Y3 rfl ?_; refine Zd Za ?_; refine Xx Za ?_; refine aN Za ?_; refine Zs (aT [6, 7] rfl) ?_; refine T.ret ?_; refine Xi ?_; refine Zz ?_; obtain rfl := ret1 H; exact Ja Za (Res.tmp rfl) (Res.tmp rfl) Zg ⟨rfl, rfl⟩
  ·
   refine Xo rfl f9 ?_; refine sR Y3 rfl ?_; refine Zd Za ?_; refine Zv Zq ?_; refine aN Za ?_; rcases Zw H with ⟨g2, H⟩ | ⟨g2, H⟩
   · refine Xs rfl g2 ?_; refine sR Y2 rfl ?_; refine Xx Za ?_; refine aN Za ?_; refine Zs (aT [6, 7] rfl) ?_; refine T.ret ?_; refine Xi ?_; refine Zz ?_; obtain rfl := ret1 H; exact Ja Za (Res.tmp rfl) (Res.tmp rfl) Zg ⟨rfl, rfl⟩
   · cases H
theorem w_acequialaw17_CrewNone {n0 : Net} {at1 which2 : Int} {f9 : Option Addr} {f7 f8 : Nat} (w : World) (j7 : RS w [] Xe 3 f9 f7 f8 n0.Arcs) {r0 : Bool} (H : Z2o n0 at1 which2 = some r0) : Fnc Tryz.prog 8 #[.agg #[iV n0.N, iV n0.S, iV n0.T, .slice f9 f7 f8], .int .u8 at1, .int .u8 which2] w [] (fun v N => v = .bool r0 ∧ N = []) := by
 unfold Z2o at H; refine Fnc.enter (vs := [.agg #[iV n0.N, iV n0.S, iV n0.T, .slice f9 f7 f8], .int .u8 at1, .int .u8 which2]) Tryz.func8 rfl rfl (Inv.refl w) ?_; refine sR Y2 rfl ?_; refine Xp Za ?_; intro b1; refine aN Za ?_; refine Zo ?_; obtain ⟨⟨r3, r4, r5, r6⟩, e7, H⟩ := Zu H; refine rG Y14 rfl ?_; refine Yw Za Wg Zk rfl ?_; refine Zd Za ?_; refine Zd Za ?_; refine Yl Z7x Za (fun wc hwc => Z92 (n0 := n0) (workers1 := at1) (limit2 := which2) wc (j7.mono hwc) e7) ?_; rintro _ _ ⟨u9, n9, G3, G4, e3, j8, j9, v2, e4, k1, k2, v3, e5, k3, k4, v4, e6, n25, k5, v5, e8, n29, c30, v6, e9, k6, c34, v7, q7, k7, g0, q8, q9, r1, rfl, rfl, G5, G6, G7, G8, b5, b6, G9, b7, b8, b9, H0, c3, c4, c7, H1, c8, c9, d0, H2, d1, d2, d4, H3, d5, d6, d7, H4, d8, k8, k9, H5, l0⟩; refine Zd Za ?_; refine TO.extract Zb ?_; refine TO.extract Zb ?_; refine TO.extract Zb ?_; refine TO.extract Zb ?_; refine Xg Zp Z15 ?_; intro g9; refine Yy Za tk11 Lx Zp ?_; refine Yy Za Ye Nw Zp ?_; refine Xx Za ?_; refine aN Za ?_; refine Zs (aT [1, 2, 3, 7, 8, 9] rfl) ?_; refine Zo ?_; refine sR Y2 rfl ?_; refine Zd Za ?_; refine TO.not Za ?_; refine dN ?_; rcases Zw H with ⟨r2, H⟩ | ⟨r2, H⟩
 · refine Xq ⟨rfl, r2⟩ ?_; refine sR Y1 rfl ?_; refine aN Za ?_; refine Zs (aT [6] rfl) ?_; refine T.ret ?_; refine Zz ?_; obtain rfl := ret1 H; exact Ya Za (Res.tmp rfl) Zg ⟨rfl, rfl⟩
 ·
  refine Wp rfl (Bool.eq_false_iff.2 r2) ?_; refine T.skip ?_; refine Yg ?_; refine Zo ?_; refine sR Y5 rfl ?_; refine Wr (t := 80) [iV 0, iV 0, iV 0, .slice none 0 0, .slice none 0 0, .slice none 0 0, .slice none 0 0, .slice none 0 0, .slice none 0 0, iV 0, iV 0, iV 0, iV 0, iV 0, iV 0, iV 0, iV 0, iV 0, iV 0, iV 0, iV 0, iV 0, iV 0, .pointer none, iV 0] [0, 9, 23, 24] Za (by simp only [Wb, setCells, Value.cells, List.toList_toArray, List.getD_cons_zero, List.getD_cons_succ, List.set_cons_zero, List.set_cons_succ]; rfl) (by kernel_rfl) ?_; refine Xp Za ?_; intro r7; refine Z2t [.pointer none, .pointer none] [0, 1] Za Z31 Z3m Z8b Yv (by simp only [Wb, setCells, Value.cells, List.toList_toArray, List.getD_cons_zero, List.getD_cons_succ, List.set_cons_zero, List.set_cons_succ]; rfl) (by kernel_rfl) ?_; intro Q9; refine Va (xs := ([.pointer none, pV r7] : List Value)) (n := 2) rfl Zb Z31 ?_; refine Zd Za ?_; refine dN ?_; refine Vj (fun (h7 : Unit) => Z2v at1 which2 r3 r4 r5 = some r0) (fun (h7 : Unit) => [(1, .int .u8 at1), (2, .int .u8 which2), (3, pV b1), (7, pV g9), (8, pV q7)]) (fun (h7 : Unit) => [(eC b1 #[iV r3.N, iV r3.S, iV r3.T, sV u9 n9 G3] 24), (eA u9 Xe r3.Arcs G4 131), (eC g9 #[iV r4.N, iV r4.S, iV r4.T, sV e3 j8 j9, sV e4 k1 k2, sV e5 k3 k4, sV e6 n25 k5, sV e8 n29 c30, sV e9 k6 c34] 29), (eI e3 r4.First v2 3), (eI e4 r4.Head v3 3), (eI e5 r4.Rev v4 3), (eI e6 r4.Cap v5 2), (eI e8 r4.Arc v6 3), (eA e9 boolC r4.Back v7 4), (eC q7 #[iV r5.c.N, iV r5.c.S, iV r5.c.T, sV e3 j8 j9, sV e4 k1 k2, sV e5 k3 k4, sV e6 n25 k5, sV e8 n29 c30, sV e9 k6 c34, iV r5.l.Verts, iV r5.l.Arcs, iV r5.l.Workers, iV r5.l.Room, iV r5.l.Res, iV r5.l.Ex, iV r5.l.H, iV r5.l.Flag, iV r5.l.Pending, iV r5.l.Ask, iV r5.l.Count, iV r5.l.Sense, iV r5.l.Deques, iV r5.l.Size, pV k7, iV r5.limit] 80), (eC k7 #[sV g0 q8 q9] 221), (eA g0 Kt r5.b.l r1 226)]) ?_ ?_
  ·
   refine T.block ?_; refine Z69 ?_; refine Ky ?_; refine sR Y1 rfl ?_; refine Jd (b := true) Zq (by first | decide | rfl) ?_; refine dS ?_; refine Xq Yv ?_; refine T.skip ?_; refine Yg ?_; refine Zo ?_; refine T.block ?_; refine sR Y3 rfl ?_; refine Ue (xs := ([.pointer none, pV r7] : List Value)) (n := 2) rfl (inbLit (k := 0) rfl) Zb Z31 Z3m ?_; refine Zm Za Nf Zk rfl ?_; refine aN Za ?_; refine Zs (aT [1, 2, 3, 7, 8, 42, 43, 44, 11] rfl) ?_; refine Zo ?_; obtain ⟨H6, H7, H⟩ := Zu H; obtain ⟨⟨H8, H9, I0⟩, r8, H⟩ := Zu H; refine rG Y13 rfl ?_; refine Zd Za ?_; refine Yw Za Wh Xn rfl ?_; refine Yl Z2w Za (fun wc hwc => Z27 (c0 := r4) wc (Yd hwc Uy b5 b6 b7) (Yd hwc mm6 b8 b9 c3) (Yd hwc mm7 c4 c7 c8) (Yd hwc mm8 c9 d0 d1) (Yd hwc mm9 d2 d4 d5) (Kk hwc Nq d6 d7 d8) H7) ?_; rintro _ _ ⟨I1, R0, R1, R2, I2, R3, R4, I3, v8, I4, I5, I6, rfl, rfl, l1, l3, v9, l4, l5, l6, w0, l7, l8, l9, w1, m0⟩; refine Yl Z24 Za (fun wc hwc => Z9h (p1 := H6) (picks2 := []) (most3 := 10) wc (Yd hwc Zk l1 l3 l4) (Yd hwc Yi l5 l6 l7) (Yd hwc Xn l8 l9 m0) (RS.nil _ _ (fun _ => rfl)) r8) ?_; rintro _ _ ⟨w2, I7, I8, I9, w3, J0, J1, J2, w4, J3, J4, J5, w5, J6, J7, J8, rfl, rfl, w6, w7, w8, w9, x2, x3, x4, x5, x6, x7, x8, x9, y0, y1, y2, y3⟩; refine Zd Za ?_; refine TO.extract Zb ?_; refine TO.extract Zb ?_; refine TO.extract Zb ?_; refine Xg Zp Km ?_; intro J9; refine Xg Zp Nx ?_; intro K0; refine Yy Za Ye Kj Zp ?_; refine Yy Za Ye Nk Zp ?_; refine aN Za ?_; refine Zs (aT [1, 2, 3, 7, 8, 42, 43, 44, 14] rfl) ?_; refine sR Y2 rfl ?_; refine Zd Za ?_; refine Zv Zq ?_; refine dN ?_; rcases Zw H with ⟨h8, H⟩ | ⟨h8, H⟩
   · refine Xs rfl h8 ?_; refine sR Y1 rfl ?_; refine aN Za ?_; refine Zs (aT [6] rfl) ?_; refine T.ret ?_; refine Xi ?_; refine Zz ?_; refine Zz ?_; refine Xi ?_; refine Zz ?_; obtain rfl := ret1 H; exact Ya Za (Res.tmp rfl) Zg ⟨rfl, rfl⟩
   ·
    refine Xo rfl h8 ?_; refine T.skip ?_; refine Xz ?_; refine Yg ?_; refine rG Y2 rfl ?_; refine Nd (r := 1) (by decide) Zb ?_; refine Zd Za ?_; refine Ze ?_; refine Gm ?_; refine Ky ?_; refine sR Y1 rfl ?_; refine Jd (b := true) Zq (by first | decide | rfl) ?_; refine dS ?_; refine Xq Yv ?_; refine T.skip ?_; refine Yg ?_; refine Zo ?_; refine T.block ?_; refine sR Y3 rfl ?_; refine Ue (xs := ([.pointer none, pV r7] : List Value)) (n := 2) rfl (inbLit (k := 1) rfl) Zb Z31 Z3m ?_; refine Zm Za Nf mm9 rfl ?_; refine aN Za ?_; refine Zo ?_; obtain ⟨r9, s1, H⟩ := Zu H; obtain ⟨⟨K1, K2, K3⟩, s5, H⟩ := Zu H; refine rG Y13 rfl ?_; refine Zd Za ?_; refine Yw Za Wh mm11 rfl ?_; refine Yl Z2w Za (fun wc hwc => Z27 (c0 := r4) wc (Yd hwc mm14 b5 b6 b7) (Yd hwc Lf b8 b9 c3) (Yd hwc Ng c4 c7 c8) (Yd hwc Lh c9 d0 d1) (Yd hwc Np d2 d4 d5) (Kk hwc Rt d6 d7 d8) s1) ?_; rintro _ _ ⟨y4, K4, K5, K6, y5, K7, K8, K9, y6, L0, L1, L2, rfl, rfl, m1, m2, y7, m3, m4, m5, y8, m6, m7, m8, y9, m9⟩; refine Yl Z24 Za (fun wc hwc => Z83 (p1 := r9) (picks2 := []) (most3 := 10) wc (hwc.hb (cs := [iV 0, iV 0, iV 0, .slice none 0 0, .slice none 0 0, .slice none 0 0, .slice none 0 0, .slice none 0 0, .slice none 0 0, iV 0, iV 0, iV 0, iV 0, iV 0, iV 0, iV 0, iV 0, iV 0, iV 0, iV 0, iV 0, iV 0, iV 0, .pointer none, iV 0]) mm13) (Yd hwc Zk m1 m2 m3) (Yd hwc Yi m4 m5 m6) (Yd hwc Xn m7 m8 m9) (RS.nil _ _ (fun _ => rfl)) s5) ?_; rintro _ _ ⟨z0, L3, c200, L4, z1, L5, L6, L7, z5, L8, L9, M0, z6, M1, M2, M3, rfl, rfl, z7, z8, z9, A1, A2, A3, A4, A5, A6, A7, A8, A9, B0, B1, B2, B3⟩; refine Zd Za ?_; refine TO.extract Zb ?_; refine TO.extract Zb ?_; refine TO.extract Zb ?_; refine Xg Zp Km ?_; intro M4; refine Xg Zp Nx ?_; intro M5; refine Yy Za Ye Kj Zp ?_; refine Yy Za Ye Nk Zp ?_; refine aN Za ?_; refine Zs (aT [1, 2, 3, 7, 8, 42, 43, 44, 14] rfl) ?_; refine sR Y2 rfl ?_; refine Zd Za ?_; refine Zv Zq ?_; refine dN ?_; rcases Zw H with ⟨h9, H⟩ | ⟨h9, H⟩
    · refine Xs rfl h9 ?_; refine sR Y1 rfl ?_; refine aN Za ?_; refine Zs (aT [6] rfl) ?_; refine T.ret ?_; refine Xi ?_; refine Zz ?_; refine Zz ?_; refine Xi ?_; refine Zz ?_; obtain rfl := ret1 H; exact Ya Za (Res.tmp rfl) Zg ⟨rfl, rfl⟩
    · refine Xo rfl h9 ?_; refine T.skip ?_; refine Xz ?_; refine Yg ?_; refine rG Y2 rfl ?_; refine Nd (r := 2) (by decide) Zb ?_; refine Zd Za ?_; refine Ze ?_; refine Gm ?_; refine Ky ?_; refine sR Y1 rfl ?_; refine Jd (b := false) Zq (by first | decide | rfl) ?_; refine dS ?_; refine Wp rfl rfl ?_; refine T.exit ?_; refine Xv ?_; refine Xv ?_; refine Vl ?_; exact Wm () H (aF rfl) (Zc tk21 (Zc tk21 (Zc Ko (Zc Ko (Zc Ko (Zc Ko (Zc Ko (Zc Ko (Zc Ko (Zc Ko (Zc Ko (Zc Ko Zg))))))))))))
  ·
   rintro h7 H; unfold Z2v at H; refine Zo ?_; obtain ⟨a5, s6, H⟩ := Zu H; refine rG Y4 rfl ?_; refine Yw Za Wh Xn rfl ?_; refine Yl Z2w Za (fun wc hwc => Z27 (c0 := r4) wc (Yd hwc Wc b5 b6 b7) (Yd hwc Vu b8 b9 c3) (Yd hwc Uy c4 c7 c8) (Yd hwc mm6 c9 d0 d1) (Yd hwc mm7 d2 d4 d5) (Kk hwc mm8 d6 d7 d8) s6) ?_; rintro _ _ ⟨f0, g1, g8, g3, g4, i1, n5, s7, g5, i2, n6, s8, rfl, rfl, d9, f1, f2, f3, a8, e0, B4, e1, a4, a9, B5, b0⟩; refine Xg Zp Km ?_; intro g2; refine Yy Za Zf Kj Zp ?_; refine dS ?_; refine Zo ?_; rcases Zw H with ⟨i4, H⟩ | ⟨i4, H⟩
   · refine rG Y14 rfl ?_; refine Zi Za Uc ?_; refine Zm Za Xu Zk rfl ?_; refine Va (xs := a5.H) a4 Zb Yq ?_; refine Zi Za Vg ?_; refine Zm Za Zt Vu rfl ?_; refine Zv Zq ?_; refine Zd Za ?_; refine Yn (t := 67) (b' := true) rfl (decide_eq_true i4) ?_; refine Zr Za ?_; refine Zr Za ?_; refine Zr Za ?_; refine Zr Za ?_; refine Zr Za ?_; refine Zr Za ?_; refine Xw Zb ?_; refine dN ?_; refine Zs (aT [1, 2, 3, 7, 8, 15, 74] rfl) ?_; refine Xq Yv ?_; refine sR Y1 rfl ?_; refine aN Za ?_; refine T.ret ?_; refine Zz ?_; obtain rfl := ret1 H; exact Ya Za (Res.tmp rfl) Zg ⟨rfl, rfl⟩
   ·
    refine rG Y14 rfl ?_; refine Zi Za Uc ?_; refine Zm Za Xu Zk rfl ?_; refine Va (xs := a5.H) a4 Zb Yq ?_; refine Zi Za Vg ?_; refine Zm Za Zt Vu rfl ?_; refine Zv Zq ?_; refine Zd Za ?_; refine Yn (t := 67) (b' := false) rfl (decide_eq_false i4) ?_; refine Zi Za Rb ?_; refine Zm Za Wq Zk rfl ?_; refine Va (xs := a5.Ex) a8 Zb Yx ?_; refine Zi Za Vg ?_; refine Zm Za Zt Vu rfl ?_; refine Zv Zq ?_; refine Wa Zb ?_; refine dN ?_; refine Zs (aT [1, 2, 3, 7, 8, 15, 74] rfl) ?_; rcases Zw H with ⟨i5, H⟩ | ⟨i5, H⟩
    · refine Xs rfl i5 ?_; refine sR Y1 rfl ?_; refine aN Za ?_; refine T.ret ?_; refine Zz ?_; obtain rfl := ret1 H; exact Ya Za (Res.tmp rfl) Zg ⟨rfl, rfl⟩
    ·
     refine Xo rfl i5 ?_; refine T.skip ?_; refine Yg ?_; obtain ⟨n7, s9, H⟩ := Ud H; refine sR Y6 rfl ?_; refine Zd Za ?_; refine Z4z Za Z3v Z4o (Gq n7.1 n7.2) ?_; refine Zi Za Vg ?_; refine Zm Za Zt Vu rfl ?_; refine TO.rem Zb s9 ?_; refine aN Za ?_; refine Zo ?_; refine sR Y2 rfl ?_; refine Zd Za ?_; refine TO.rem Zb (by decide) ?_; refine dN ?_; refine Zs (aT [3, 7, 8, 15, 16, 81] rfl) ?_; refine Z99 (fun (a3 : List Int) (f4 f5 : Nat) (e2 : Option Nat) (g6 : List Value) (a6 a7 : List Int) => Jl r4 r5 a3 a6 a7 = some r0 ∧ a3.length = f4 ∧ f4 ≤ f5 ∧ g6.length = (f5 - f4) * 1 ∧ (e2 = none → f5 = 0) ∧ a6.length = i1 ∧ a7.length = i2) (fun (a3 : List Int) (f4 f5 : Nat) (e2 : Option Nat) (g6 : List Value) (a6 a7 : List Int) => [(7, pV g9), (8, pV q7), (15, pV g2)]) (fun (a3 : List Int) (f4 f5 : Nat) (e2 : Option Nat) (g6 : List Value) (a6 a7 : List Int) => [(eC g9 #[iV r4.N, iV r4.S, iV r4.T, sV e3 j8 j9, sV e4 k1 k2, sV e5 k3 k4, sV e6 n25 k5, sV e8 n29 c30, sV e9 k6 c34] 29), (eI e3 r4.First v2 3), (eI e4 r4.Head v3 3), (eI e5 r4.Rev v4 3), (eI e6 r4.Cap v5 2), (eI e8 r4.Arc v6 3), (eA e9 boolC r4.Back v7 4), (eC q7 #[iV r5.c.N, iV r5.c.S, iV r5.c.T, sV e3 j8 j9, sV e4 k1 k2, sV e5 k3 k4, sV e6 n25 k5, sV e8 n29 c30, sV e9 k6 c34, iV r5.l.Verts, iV r5.l.Arcs, iV r5.l.Workers, iV r5.l.Room, iV r5.l.Res, iV r5.l.Ex, iV r5.l.H, iV r5.l.Flag, iV r5.l.Pending, iV r5.l.Ask, iV r5.l.Count, iV r5.l.Sense, iV r5.l.Deques, iV r5.l.Size, pV k7, iV r5.limit] 80), (eC k7 #[sV g0 q8 q9] 221), (eA g0 Kt r5.b.l r1 226), (eC g2 #[sV e2 f4 f5, sV g4 i1 n5, sV g5 i2 n6] 53), (eI e2 a3 g6 2), (eI g4 a6 s7 2), (eI g5 a7 s8 3)]) ?_ ?_
     ·
      refine T.block ?_; refine sR Y2 rfl ?_; refine Zv Zq ?_; refine aN Za ?_; rcases Zw H with ⟨i6, H⟩ | ⟨i6, H⟩
      · refine Xs rfl i6 ?_; obtain ⟨t0, n8, H⟩ := Ud H; refine rG Y8 rfl ?_; refine Zi Za Uc ?_; refine Zm Za Xu Zk rfl ?_; refine Zd Za ?_; refine Zi Za Vg ?_; refine Zm Za Zt Vu rfl ?_; refine Xk t0 Zb ?_; refine Wz b0 a9 a4 n8 Zb Yq Yf ?_; refine Uv b0 a9 a4 n8 Za We Yf ?_; refine Ze ?_; refine Xz ?_; exact Z1g a5.Res g1 g8 f0 g3 a5.Ex (a5.H.set (at1.tmod r3.N).toNat (r3.N + 1)) ⟨H, d9, f1, f2, f3, a8, (List.length_set.trans a4)⟩ (aF rfl) (Zc Ym (Zc Ym (Zc Ym (Zc Ym (Zc Ym (Zc Ym (Zc Ym (Zc Ym (Zc Ym (Zc Ym (Zc Ye (Zc Ye (Zc Ye (Zc Zf Zg))))))))))))))
      ·
       refine Xo rfl i6 ?_; refine sR Y2 rfl ?_; refine Zv Zq ?_; refine aN Za ?_; rcases Zw H with ⟨i7, H⟩ | ⟨i7, H⟩
       · refine Xs rfl i7 ?_; obtain ⟨o0, t1, o1, H⟩ := gd3 H; refine rG Y8 rfl ?_; refine Zi Za Rb ?_; refine Zm Za Wq Zk rfl ?_; refine Zd Za ?_; refine Wz e1 e0 a8 o0 Zb Yx Xb ?_; refine Nj e1 e0 a8 o0 Za Wn Xn ?_; refine Xk t1 Zb ?_; refine Wz e1 e0 a8 o1 Zb Yx Xb ?_; refine Uv e1 e0 a8 o1 Za Yt Xb ?_; refine Ze ?_; refine Xz ?_; exact Z1g a5.Res g1 g8 f0 g3 (a5.Ex.set (at1.tmod r3.N).toNat ((a5.Ex.getD (at1.tmod r3.N).toNat 0) + 1)) a5.H ⟨H, d9, f1, f2, f3, (List.length_set.trans a8), a4⟩ (aF rfl) (Zc Ym (Zc Ym (Zc Ym (Zc Ym (Zc Ym (Zc Ym (Zc Ym (Zc Ym (Zc Ym (Zc Ym (Zc Ye (Zc Ye (Zc Zf (Zc Zf Zg))))))))))))))
       ·
        refine Xo rfl i7 ?_; refine sR Y2 rfl ?_; refine Zv Zq ?_; refine aN Za ?_; rcases Zw H with ⟨i8, H⟩ | ⟨i8, H⟩
        · refine Xs rfl i8 ?_; obtain ⟨o2, t2, o4, H⟩ := gd3 H; refine rG Y9 rfl ?_; refine Zi Za Uc ?_; refine Zm Za Xu Zk rfl ?_; refine Zi Za Kz ?_; refine Zm Za Zt Vu rfl ?_; refine Wz b0 a9 a4 o2 Zb Yq Yf ?_; refine Nj b0 a9 a4 o2 Za Zt Wc ?_; refine Gb t2 Zb ?_; refine Wz b0 a9 a4 o4 Zb Yq Yf ?_; refine Uv b0 a9 a4 o4 Za We Yf ?_; refine Ze ?_; refine Xz ?_; exact Z1g a5.Res g1 g8 f0 g3 a5.Ex (a5.H.set r3.S.toNat ((a5.H.getD r3.S.toNat 0) - 1)) ⟨H, d9, f1, f2, f3, a8, (List.length_set.trans a4)⟩ (aF rfl) (Zc Ym (Zc Ym (Zc Ym (Zc Ym (Zc Ym (Zc Ym (Zc Ym (Zc Ym (Zc Ym (Zc Ym (Zc Ye (Zc Ye (Zc Ye (Zc Zf Zg))))))))))))))
        ·
         refine Xo rfl i8 ?_; refine sR Y2 rfl ?_; refine Zv Zq ?_; refine aN Za ?_; refine Zs (aT [7, 8, 15, 16, 114] rfl) ?_; rcases Zw H with ⟨i9, H⟩ | ⟨i9, H⟩
         · refine Xs rfl i9 ?_; obtain ⟨t3, H⟩ := Yh H; refine rG Y6 rfl ?_; refine Zi Za Jj ?_; refine Zm Za Wq Zk rfl ?_; refine Z2t [iV 0] [0] Za Yx Xb Nc Yv (by simp only [Wb, setCells, Value.cells, List.toList_toArray, List.getD_cons_zero, List.getD_cons_succ, List.set_cons_zero, List.set_cons_succ]; rfl) (by kernel_rfl) ?_; intro M6; refine Rz (f := iC) (s := 1) (xs := a5.Res) (ob := f0) (j := g3) (ys := [0]) (fun _ => rfl) (fun _ => rfl) Z88 t3 Zb Yt d9 f1 f2 f3 (fun wc hwc => (hwc.rs (f := iC) (s := 1) (xs := [0]) (j := ([])) (fun _ => rfl) Zk rfl (Nat.le_refl _) Wf)) ?_; intro h1 o6 t4 o7 o8 o9; refine Zi Za Jj ?_; refine Wj (cs' := [sV h1 (g1 + 1) o6, sV g4 i1 n5, sV g5 i2 n6]) Za Yt Z4x Zp ?_; refine Ze ?_; refine Xz ?_; exact Z1g (a5.Res ++ ([0])) (g1 + 1) o6 h1 t4 a5.Ex a5.H ⟨H, (Z36 d9 rfl), o7, o8, o9, a8, a4⟩ (aF rfl) (Zc Uz (Zc Uz (Zc Uz (Zc Uz (Zc Uz (Zc Uz (Zc Uz (Zc Uz (Zc Uz (Zc Uz (Zc Zf (Zc Zf (Zc Ye (Zc Ye Zg))))))))))))))
         · refine Xo rfl i9 ?_; obtain ⟨p0, H⟩ := Yh H; refine rG Y5 rfl ?_; refine Zi Za Uc ?_; refine Zm Za Xu Zk rfl ?_; refine Zd Za ?_; refine Wz b0 a9 a4 p0 Zb Yq Yf ?_; refine Uv b0 a9 a4 p0 Za We Yf ?_; refine Ze ?_; refine Xz ?_; exact Z1g a5.Res g1 g8 f0 g3 a5.Ex (a5.H.set (at1.tmod r3.N).toNat (-1)) ⟨H, d9, f1, f2, f3, a8, (List.length_set.trans a4)⟩ (aF rfl) (Zc Ym (Zc Ym (Zc Ym (Zc Ym (Zc Ym (Zc Ym (Zc Ym (Zc Ym (Zc Ym (Zc Ym (Zc Ye (Zc Ye (Zc Ye (Zc Zf Zg))))))))))))))
     ·
      rintro a3 f4 f5 e2 g6 a6 a7 ⟨H, h2, h3, B6, h4, h5, h6⟩; unfold Jl at H; refine Zo ?_; obtain ⟨⟨M7, M8, M9⟩, t5, H⟩ := Zu H; refine rG Y12 rfl ?_; refine Zd Za ?_; refine Yw Za Ka Nq rfl ?_; refine Yl Z24 Za (fun wc hwc => Z6g (x0 := (CrewCrew.mk (Csr.mk r5.c.N r5.c.S r5.c.T r4.First r4.Head r4.Rev r4.Cap r4.Arc r4.Back) r5.l r5.b r5.limit)) (p1 := (Pre.mk a3 a6 a7)) (picks2 := []) (most3 := 2097152) wc (Yd hwc Yi b5 b6 b7) (Yd hwc Xn b8 b9 c3) (Yd hwc Wc c4 c7 c8) (Yd hwc Vu c9 d0 d1) (Yd hwc Uy d2 d4 d5) (Kk hwc mm6 d6 d7 d8) (hwc.rs (f := Kt) (s := 1) (xs := r5.b.l) (j := r1) (fun _ => rfl) mm9 k8 k9 l0) (hwc.hb (cs := [sV g0 q8 q9]) mm8) (hwc.hb (cs := [iV r5.c.N, iV r5.c.S, iV r5.c.T, sV e3 j8 j9, sV e4 k1 k2, sV e5 k3 k4, sV e6 n25 k5, sV e8 n29 c30, sV e9 k6 c34, iV r5.l.Verts, iV r5.l.Arcs, iV r5.l.Workers, iV r5.l.Room, iV r5.l.Res, iV r5.l.Ex, iV r5.l.H, iV r5.l.Flag, iV r5.l.Pending, iV r5.l.Ask, iV r5.l.Count, iV r5.l.Sense, iV r5.l.Deques, iV r5.l.Size, pV k7, iV r5.limit]) mm7) (Yd hwc mm11 h2 h3 h4) (Yd hwc mm12 h5 e0 e1) (Yd hwc mm13 h6 a9 b0) (RS.nil _ _ (fun _ => rfl)) t5) ?_; rintro _ _ ⟨B7, N0, N1, N2, B8, N3, N4, N5, B9, N6, N7, N8, C0, N9, O0, O1, rfl, rfl, C1, C2, C3, C4, C5, C6, C7, C8, C9, D0, D1, D2, D3, D4, D5, D6⟩; refine Zd Za ?_; refine TO.extract Zb ?_; refine TO.extract Zb ?_; refine TO.extract Zb ?_; refine Xg Zp Km ?_; intro O2; refine Xg Zp Nx ?_; intro O3; refine Yy Za Ye Kj Zp ?_; refine Yy Za Ye Nk Zp ?_; refine aN Za ?_; refine Zs (aT [7, 8, 15, 19] rfl) ?_; refine Zo ?_; obtain ⟨t6, t7, H⟩ := Zu H; obtain ⟨⟨O4, O5, t8⟩, t9, H⟩ := Zu H; refine rG Y13 rfl ?_; refine Zd Za ?_; refine Yw Za Wh mm6 rfl ?_; refine Yl Z2w Za (fun wc hwc => Z27 (c0 := r4) wc (Yd hwc mm7 b5 b6 b7) (Yd hwc mm8 b8 b9 c3) (Yd hwc mm9 c4 c7 c8) (Yd hwc Nq c9 d0 d1) (Yd hwc mm11 d2 d4 d5) (Kk hwc mm12 d6 d7 d8) t7) ?_; rintro _ _ ⟨D7, O6, O7, O8, D8, O9, P0, P1, D9, P2, P3, P4, rfl, rfl, p2, p3, E0, p4, p5, p6, E1, p7, p8, p9, E2, q0⟩; refine Yl Z24 Za (fun wc hwc => Z6g (x0 := (CrewCrew.mk (Csr.mk r5.c.N r5.c.S r5.c.T r4.First r4.Head r4.Rev r4.Cap r4.Arc r4.Back) r5.l r5.b r5.limit)) (p1 := t6) (picks2 := []) (most3 := 0) wc (Yd hwc Nq b5 b6 b7) (Yd hwc mm11 b8 b9 c3) (Yd hwc mm12 c4 c7 c8) (Yd hwc mm13 c9 d0 d1) (Yd hwc mm14 d2 d4 d5) (Kk hwc Lf d6 d7 d8) (hwc.rs (f := Kt) (s := 1) (xs := r5.b.l) (j := r1) (fun _ => rfl) Np k8 k9 l0) (hwc.hb (cs := [sV g0 q8 q9]) Lh) (hwc.hb (cs := [iV r5.c.N, iV r5.c.S, iV r5.c.T, sV e3 j8 j9, sV e4 k1 k2, sV e5 k3 k4, sV e6 n25 k5, sV e8 n29 c30, sV e9 k6 c34, iV r5.l.Verts, iV r5.l.Arcs, iV r5.l.Workers, iV r5.l.Room, iV r5.l.Res, iV r5.l.Ex, iV r5.l.H, iV r5.l.Flag, iV r5.l.Pending, iV r5.l.Ask, iV r5.l.Count, iV r5.l.Sense, iV r5.l.Deques, iV r5.l.Size, pV k7, iV r5.limit]) Ng) (Yd hwc Zk p2 p3 p4) (Yd hwc Yi p5 p6 p7) (Yd hwc Xn p8 p9 q0) (RS.nil _ _ (fun _ => rfl)) t9) ?_; rintro _ _ ⟨E3, P5, P6, P7, E4, P8, P9, Q0, E5, Q1, Q2, Q3, E6, Q4, Q5, Q6, rfl, rfl, E7, E8, E9, F0, F1, F2, F3, F4, F5, F6, F7, F8, F9, G0, G1, G2⟩; refine Zd Za ?_; refine TO.extract Zb ?_; refine TO.extract Zb ?_; refine TO.extract Zb ?_; refine Xg Zp Km ?_; intro Q7; refine Xg Zp Nx ?_; intro Q8; refine Yy Za Ye Kj Zp ?_; refine Yy Za Ye Nk Zp ?_; refine aN Za ?_; refine Zs (aT [7, 15, 19, 22] rfl) ?_; refine Zo ?_; obtain ⟨j0, u0, H⟩ := Zu H; refine rG Y7 rfl ?_; refine Yw Za Wh Lf rfl ?_; refine Yl Z2y Za (fun wc hwc => Z53 (c0 := r4) (workers1 := 0) (limit2 := 5) wc (Yd hwc Ng b5 b6 b7) (Yd hwc Lh b8 b9 c3) (Yd hwc Np c4 c7 c8) (Yd hwc Rt c9 d0 d1) (Yd hwc mm20 d2 d4 d5) (Kk hwc mm21 d6 d7 d8) u0) ?_; rintro _ _ ⟨rfl, rfl⟩; refine Zd Za ?_; refine TO.extract Zb ?_; refine TO.extract Zb ?_; refine Xx Za ?_; refine aN Za ?_; refine Zo ?_; obtain ⟨g7, u2, H⟩ := Zu H; refine rG Y7 rfl ?_; refine Yw Za Wh Lf rfl ?_; refine Yl Z2y Za (fun wc hwc => Z53 (c0 := r4) (workers1 := 65) (limit2 := 5) wc (Yd hwc Ng b5 b6 b7) (Yd hwc Lh b8 b9 c3) (Yd hwc Np c4 c7 c8) (Yd hwc Rt c9 d0 d1) (Yd hwc mm20 d2 d4 d5) (Kk hwc mm21 d6 d7 d8) u2) ?_; rintro _ _ ⟨rfl, rfl⟩; refine Zd Za ?_; refine TO.extract Zb ?_; refine TO.extract Zb ?_; refine Xx Za ?_; refine aN Za ?_; refine Zs (aT [7, 15, 19, 22, 24, 26] rfl) ?_; refine Zo ?_; obtain ⟨f6, u3, H⟩ := Zu H; refine rG Y7 rfl ?_; refine Yw Za Wh Lf rfl ?_; refine Yl Z2y Za (fun wc hwc => Z53 (c0 := r4) (workers1 := 2) (limit2 := 0) wc (Yd hwc Ng b5 b6 b7) (Yd hwc Lh b8 b9 c3) (Yd hwc Np c4 c7 c8) (Yd hwc Rt c9 d0 d1) (Yd hwc mm20 d2 d4 d5) (Kk hwc mm21 d6 d7 d8) u3) ?_; rintro _ _ ⟨rfl, rfl⟩; refine Zd Za ?_; refine TO.extract Zb ?_; refine TO.extract Zb ?_; refine Xx Za ?_; refine aN Za ?_; refine sR Y28 rfl ?_; refine Zd Za ?_; refine Zv Zq ?_; refine Zd Za ?_; refine TO.join [3, 4, 5] [6, 7, 8, 9, 10, 11, 12, 13, 14, 15, 16, 17, 18, 19, 20, 21, 22, 23, 24, 25, 26, 27] rfl 156 (fun q1 => Z0m r4 a3 a6 a7 j0 g7 f6 q1 = some r0) [(7, pV g9), (15, pV g2), (24, iV j0), (26, iV g7), (28, iV f6)] ?_ ?_
      ·
       rcases Zw H with ⟨j1, H⟩ | ⟨j1, H⟩
       · refine Yn (t := 153) (b' := true) rfl (decide_eq_true j1) ?_; refine Zd Za ?_; refine Zv Zq ?_; refine Xw Zb ?_; refine Ze ?_; exact Wv (b := (decide (t8 = 2))) H (aF rfl)
       · refine Yn (t := 153) (b' := false) rfl (decide_eq_false j1) ?_; refine Zr Za ?_; refine Zr Za ?_; refine Wa Zb ?_; refine Ze ?_; exact Wv (b := false) H (aF rfl)
      ·
       rintro q1 H; unfold Z0m at H; refine Zd Za ?_; refine TO.join [7, 8, 9] [10, 11, 12, 13, 14, 15, 16, 17, 18, 19, 20, 21, 22, 23, 24, 25, 26, 27] rfl 160 (fun q2 => Z0y r4 a3 a6 a7 g7 f6 q2 = some r0) [(7, pV g9), (15, pV g2), (26, iV g7), (28, iV f6)] ?_ ?_
       ·
        rcases Zw H with ⟨j2, H⟩ | ⟨j2, H⟩
        · refine Yn (t := 157) (b' := true) rfl j2 ?_; refine Zd Za ?_; refine Zv Zq ?_; refine Xw Zb ?_; refine Ze ?_; exact Wv (b := (decide (j0 = 2))) H (aF rfl)
        · refine Yn (t := 157) (b' := false) rfl (Bool.eq_false_iff.2 j2) ?_; refine Zr Za ?_; refine Zr Za ?_; refine Wa Zb ?_; refine Ze ?_; exact Wv (b := false) H (aF rfl)
       ·
        rintro q2 H; unfold Z0y at H; refine Zd Za ?_; refine TO.join [11, 12, 13] [14, 15, 16, 17, 18, 19, 20, 21, 22, 23, 24, 25, 26, 27] rfl 164 (fun q3 => Z1i r4 a3 a6 a7 f6 q3 = some r0) [(7, pV g9), (15, pV g2), (28, iV f6)] ?_ ?_
        ·
         rcases Zw H with ⟨j3, H⟩ | ⟨j3, H⟩
         · refine Yn (t := 161) (b' := true) rfl j3 ?_; refine Zd Za ?_; refine Zv Zq ?_; refine Xw Zb ?_; refine Ze ?_; exact Wv (b := (decide (g7 = 2))) H (aF rfl)
         · refine Yn (t := 161) (b' := false) rfl (Bool.eq_false_iff.2 j3) ?_; refine Zr Za ?_; refine Zr Za ?_; refine Wa Zb ?_; refine Ze ?_; exact Wv (b := false) H (aF rfl)
        ·
         rintro q3 H; unfold Z1i at H; refine Zd Za ?_; refine TO.join [15, 16, 17] [18, 19, 20, 21, 22, 23, 24, 25, 26, 27] rfl 168 (fun q4 => Z0f r4 a3 a6 a7 q4 = some r0) [(7, pV g9), (15, pV g2)] ?_ ?_
         ·
          rcases Zw H with ⟨j4, H⟩ | ⟨j4, H⟩
          · refine Yn (t := 165) (b' := true) rfl j4 ?_; refine Zd Za ?_; refine Zv Zq ?_; refine Xw Zb ?_; refine Ze ?_; exact Wv (b := (decide (f6 = 2))) H (aF rfl)
          · refine Yn (t := 165) (b' := false) rfl (Bool.eq_false_iff.2 j4) ?_; refine Zr Za ?_; refine Zr Za ?_; refine Wa Zb ?_; refine Ze ?_; exact Wv (b := false) H (aF rfl)
         ·
          rintro q4 H; unfold Z0f at H; refine Zd Za ?_; refine TO.join [19, 20, 21, 22, 23] [24, 25, 26, 27] rfl 174 (fun q5 => Z0p q5 = some r0) [] ?_ ?_
          ·
           rcases Zw H with ⟨j5, H⟩ | ⟨j5, H⟩
           · obtain ⟨u4, u5, H⟩ := Zu H; refine Yn (t := 169) (b' := true) rfl j5 ?_; refine Yw Za Wh Lf rfl ?_; refine Yw Za Ka mm25 rfl ?_; refine Yl Z74 Za (fun wc hwc => Z5k (c0 := r4) (p1 := (Pre.mk a3 a6 a7)) wc (Yd hwc Ng b5 b6 b7) (Yd hwc Lh b8 b9 c3) (Yd hwc Np c4 c7 c8) (Yd hwc Rt c9 d0 d1) (Yd hwc mm20 d2 d4 d5) (Kk hwc mm21 d6 d7 d8) (Yd hwc mm26 h2 h3 h4) (Yd hwc mm27 h5 e0 e1) (Yd hwc mm28 h6 a9 b0) u5) ?_; rintro _ _ ⟨rfl, rfl⟩; refine TO.not Za ?_; refine Xw Zb ?_; refine Ze ?_; exact Wv (b := (!u4)) H (aF rfl)
           · refine Yn (t := 169) (b' := false) rfl (Bool.eq_false_iff.2 j5) ?_; refine Zr Za ?_; refine Zr Za ?_; refine Zr Za ?_; refine Zr Za ?_; refine Wa Zb ?_; refine Ze ?_; exact Wv (b := false) H (aF rfl)
          ·
           rintro q5 H; unfold Z0p at H; refine Zd Za ?_; refine TO.join [25, 26] [27] rfl 177 (fun q6 => Z0n q6 = some r0) [] ?_ ?_
           ·
            rcases Zw H with ⟨j6, H⟩ | ⟨j6, H⟩
            · obtain ⟨u6, u7, H⟩ := Zu H; refine Yn (t := 175) (b' := true) rfl j6 ?_; refine Yl Z8g Za (fun wc hwc => Z9x  wc  u7) ?_; rintro _ _ ⟨rfl, rfl⟩; refine Xw Zb ?_; refine Ze ?_; exact Wv (b := u6) H (aF rfl)
            · refine Yn (t := 175) (b' := false) rfl (Bool.eq_false_iff.2 j6) ?_; refine Zr Za ?_; refine Wa Zb ?_; refine Ze ?_; exact Wv (b := false) H (aF rfl)
           · rintro q6 H; unfold Z0n at H; refine aN Za ?_; refine T.ret ?_; obtain rfl := ret1 H; exact Ya Za (Res.tmp rfl) Zg ⟨rfl, rfl⟩
end Go.Proofs.YtobnnpdfeakbbaaGreat.Ax
namespace Go.Acq
open Go
def Kw (a : Arc) (v : Nat) : Nat := if a.fr = a.to then 0 else if a.fr = v ∨ a.to = v then 1 else 0
def cnt (al : List Arc) (v : Nat) : Nat → Nat
  | 0 => 0
  | k + 1 => cnt al v k + Kw (al.getD k default) v
def Yc (al : List Arc) : Nat → Nat
  | 0 => 0
  | v + 1 => Yc al v + cnt al v al.length
def Yk (a : Arc) (s : Bool) : Int := if s then a.to else a.fr
def pos (al : List Arc) (i : Nat) (s : Bool) : Nat := Yc al (Yk (al.getD i default) s).toNat + cnt al (Yk (al.getD i default) s).toNat i
def Uk (n : Nat) (al : List Arc) : Prop := ∀ i, i < al.length → ∀ s, 0 ≤ Yk (al.getD i default) s ∧ Yk (al.getD i default) s < n
theorem Vc {α : Type} (xs : List α) (i j : Nat) (v d : α) : (xs.set i v).getD j d = if i = j ∧ i < xs.length then v else xs.getD j d := by
 rw [List.getD_eq_getElem?_getD, List.getD_eq_getElem?_getD, List.getElem?_set]
 split
 ·
  rename_i h; subst h
  split
  · rename_i h2; simp [h2]
  · rename_i h2; simp [h2]
 · rename_i h; simp [h]
theorem Uo {α : Type} {xs : List α} {i j : Nat} {v d : α} (h : i ≠ j) : (xs.set i v).getD j d = xs.getD j d := by
 rw [Vc, if_neg (fun e => h e.1)]
theorem Z3s {α : Type} {xs : List α} {i : Nat} {v d : α} (h : i < xs.length) : (xs.set i v).getD i d = v := by
 rw [Vc, if_pos ⟨rfl, h⟩]
theorem Ni {α : Type} (n j : Nat) (v : α) : (List.replicate n v).getD j v = v := by
 rw [List.getD_eq_getElem?_getD, List.getElem?_replicate]; split <;> simp
theorem hit_le (a : Arc) (v : Nat) : Kw a v ≤ 1 := by unfold Kw; split; omega; split <;> omega
theorem cnt_mono {al : List Arc} {v i j : Nat} (h : i ≤ j) : cnt al v i ≤ cnt al v j := by
 induction h with
 | refl => exact Nat.le_refl _
 | step _ ih => exact Nat.le_trans ih (Nat.le_add_right _ _)
theorem Z2m (al : List Arc) (v k : Nat) : cnt al v k ≤ k := by
 induction k with
 | zero => exact Nat.le_refl _
 | succ k ih => have := hit_le (al.getD k default) v; simp only [cnt]; omega
theorem Ny {al : List Arc} {u v : Nat} (h : u ≤ v) : Yc al u ≤ Yc al v := by
 induction h with
 | refl => exact Nat.le_refl _
 | step _ ih => exact Nat.le_trans ih (Nat.le_add_right _ _)
theorem Z8k (al : List Arc) (v : Nat) : Yc al v ≤ v * al.length := by
 induction v with
 | zero => exact Nat.zero_le _
 | succ v ih => have := Z2m al v al.length; simp only [Yc, Nat.succ_mul]; omega
theorem hit_vtx {a : Arc} {s : Bool} (h : a.fr ≠ a.to) (h0 : 0 ≤ Yk a s) : Kw a (Yk a s).toNat = 1 := by
 unfold Kw; rw [if_neg h, if_pos]
 cases s
 · left; simp only [Yk] at h0 ⊢; simp only [Bool.false_eq_true, if_false] at h0 ⊢; omega
 · right; simp only [Yk] at h0 ⊢; simp only [if_true] at h0 ⊢; omega
theorem Nz {al : List Arc} {i j : Nat} {s : Bool} (hij : i < j) (h : (al.getD i default).fr ≠ (al.getD i default).to) (h0 : 0 ≤ Yk (al.getD i default) s) :
    cnt al (Yk (al.getD i default) s).toNat i < cnt al (Yk (al.getD i default) s).toNat j := by
  have h1 := cnt_mono (al := al) (v := (Yk (al.getD i default) s).toNat) (i := i + 1) (j := j) hij
  have h2 := hit_vtx h h0
  simp only [cnt] at h1
  omega
theorem Gt {al : List Arc} {n i : Nat} {s : Bool} (hi : i < al.length) (h : (al.getD i default).fr ≠ (al.getD i default).to) (he : Uk n al) : pos al i s < Yc al n := by
 have h1 := Nz (s := s) hi h (he i hi s).1
 have h2 := Ny (al := al) (u := (Yk (al.getD i default) s).toNat + 1) (v := n) (by have := he i hi s; omega)
 simp only [Yc] at h2
 unfold pos; omega
theorem Ke {al : List Arc} {n i j : Nat} {s t : Bool} (he : Uk n al) (hi : i < al.length) (hj : j < al.length) (h : (al.getD i default).fr ≠ (al.getD i default).to) (g : (al.getD j default).fr ≠ (al.getD j default).to)
    (e : pos al i s = pos al j t) : i = j ∧ s = t := by
  have hi1 := Nz (s := s) hi h (he i hi s).1
  have hj1 := Nz (s := t) hj g (he j hj t).1
  have hv : (Yk (al.getD i default) s).toNat = (Yk (al.getD j default) t).toNat := by
    rcases Nat.lt_trichotomy (Yk (al.getD i default) s).toNat (Yk (al.getD j default) t).toNat with h1 | h1 | h1
    · have := Ny (al := al) (u := (Yk (al.getD i default) s).toNat + 1) h1
      simp only [Yc] at this
      unfold pos at e; omega
    · exact h1
    · have := Ny (al := al) (u := (Yk (al.getD j default) t).toNat + 1) h1
      simp only [Yc] at this
      unfold pos at e; omega
  have hij : i = j := by
    rcases Nat.lt_trichotomy i j with h1 | h1 | h1
    · have h2 := Nz (s := s) h1 h (he i hi s).1
      unfold pos at e; rw [hv] at e h2; omega
    · exact h1
    · have h2 := Nz (s := t) h1 g (he j hj t).1
      unfold pos at e; rw [hv] at e; omega
  refine ⟨hij, ?_⟩
  subst hij
  have h1 := (he i hi s).1
  have h2 := (he i hi t).1
  cases s <;> cases t <;> first | rfl | (simp only [Yk, Bool.false_eq_true, if_false, if_true] at hv h1 h2; omega)
theorem Z5d {al : List Arc} {v r : Nat} : ∀ {k : Nat}, r < cnt al v k → ∃ i, i < k ∧ cnt al v i = r ∧ Kw (al.getD i default) v = 1
 | 0, h => by simp [cnt] at h
 | k + 1, h => by
  by_cases h1 : r < cnt al v k
  · obtain ⟨i, h2, h3⟩ := Z5d h1; exact ⟨i, by omega, h3⟩
  ·
   have := hit_le (al.getD k default) v
   simp only [cnt] at h
   exact ⟨k, by omega, by omega, by omega⟩
theorem Z5c {al : List Arc} {p : Nat} : ∀ {n : Nat}, p < Yc al n → ∃ v, v < n ∧ Yc al v ≤ p ∧ p < Yc al (v + 1)
 | 0, h => by simp [Yc] at h
 | n + 1, h => by
  by_cases h1 : p < Yc al n
  · obtain ⟨v, h2, h3⟩ := Z5c h1; exact ⟨v, by omega, h3⟩
  · exact ⟨n, by omega, by omega, h⟩
theorem Z7m {al : List Arc} {n p : Nat} (h : p < Yc al n) : ∃ i s, i < al.length ∧ (al.getD i default).fr ≠ (al.getD i default).to ∧ pos al i s = p ∧ 0 ≤ Yk (al.getD i default) s ∧ Yk (al.getD i default) s < n ∧
    Yc al (Yk (al.getD i default) s).toNat ≤ p ∧ p < Yc al ((Yk (al.getD i default) s).toNat + 1) := by
  obtain ⟨v, hv, h1, h2⟩ := Z5c h
  simp only [Yc] at h2
  obtain ⟨i, hi, h3, h4⟩ := Z5d (al := al) (v := v) (r := p - Yc al v) (k := al.length) (by omega)
  unfold Kw at h4
  split at h4
  · omega
  · rename_i hne
    split at h4
    · rename_i ho
      rcases ho with ho | ho
      · refine ⟨i, false, hi, hne, ?_, ?_, ?_, ?_, ?_⟩ <;> simp only [pos, Yk, Bool.false_eq_true, if_false, ho, Int.toNat_natCast, Yc] <;> omega
      · refine ⟨i, true, hi, hne, ?_, ?_, ?_, ?_, ?_⟩ <;> simp only [pos, Yk, if_true, ho, Int.toNat_natCast, Yc] <;> omega
    · omega
def CsrAt (al : List Arc) (hs rs cs aa : List Int) (bs : List Bool) (k : Nat) : Prop :=
  ∀ i, i < k → (al.getD i default).fr ≠ (al.getD i default).to → ∀ s,
    hs.getD (pos al i s) 0 = Yk (al.getD i default) (!s) ∧ rs.getD (pos al i s) 0 = pos al i (!s) ∧ cs.getD (pos al i s) 0 = (if s then 0 else (al.getD i default).cap) ∧
    aa.getD (pos al i s) 0 = i ∧ bs.getD (pos al i s) false = s
structure CsrOK (al : List Arc) (n : Nat) (fs hs rs cs aa : List Int) (bs : List Bool) : Prop where
  lf : fs.length = n + 1
  lh : hs.length = Yc al n
  lr : rs.length = Yc al n
  lc : cs.length = Yc al n
  la : aa.length = Yc al n
  lb : bs.length = Yc al n
  hf : ∀ v, v ≤ n → fs.getD v 0 = Yc al v
  hat : CsrAt al hs rs cs aa bs al.length
theorem CsrAt.skip {al : List Arc} {hs rs cs aa : List Int} {bs : List Bool} {k : Nat} (h : CsrAt al hs rs cs aa bs k) (e : (al.getD k default).fr = (al.getD k default).to) : CsrAt al hs rs cs aa bs (k + 1) := by
 intro i hi hne s
 rcases Nat.lt_succ_iff_lt_or_eq.1 hi with h1 | h1
 · exact h i h1 hne s
 · subst h1; exact absurd e hne
theorem Nt {α : Type} {xs : List α} {p q j : Nat} {u v d : α} (hp : p < xs.length) (hq : q < xs.length) (hpq : p ≠ q) :
    ((xs.set p u).set q v).getD j d = if j = p then u else if j = q then v else xs.getD j d := by
  rw [Vc, Vc]
  by_cases h1 : j = p
  · subst h1; rw [if_pos rfl, if_neg (fun e => hpq e.1.symm), if_pos ⟨rfl, hp⟩]
  · rw [if_neg h1]
    by_cases h2 : j = q
    · subst h2; rw [if_pos rfl, if_pos ⟨rfl, by simpa using hq⟩]
    · rw [if_neg h2, if_neg (fun e => h2 e.1.symm), if_neg (fun e => h1 e.1.symm)]
theorem CsrAt.put {al : List Arc} {n : Nat} {hs rs cs aa : List Int} {bs : List Bool} {k : Nat} (h : CsrAt al hs rs cs aa bs k) (he : Uk n al) (hk : k < al.length) (hne : (al.getD k default).fr ≠ (al.getD k default).to)
    (lh : hs.length = Yc al n) (lr : rs.length = Yc al n) (lc : cs.length = Yc al n) (la : aa.length = Yc al n) (lb : bs.length = Yc al n) :
    CsrAt al ((hs.set (pos al k false) (al.getD k default).to).set (pos al k true) (al.getD k default).fr) ((rs.set (pos al k false) (pos al k true)).set (pos al k true) (pos al k false))
      ((cs.set (pos al k false) (al.getD k default).cap).set (pos al k true) 0) ((aa.set (pos al k false) k).set (pos al k true) k) ((bs.set (pos al k false) false).set (pos al k true) true) (k + 1) := by
  have hp : pos al k false < Yc al n := Gt hk hne he
  have hq : pos al k true < Yc al n := Gt hk hne he
  have hpq : pos al k false ≠ pos al k true := fun e => by have := (Ke he hk hk hne hne e).2; cases this
  intro i hi hni s
  have hil : i < al.length := by omega
  rw [Nt (by omega) (by omega) hpq, Nt (by omega) (by omega) hpq, Nt (by omega) (by omega) hpq, Nt (by omega) (by omega) hpq, Nt (by omega) (by omega) hpq]
  by_cases hik : i = k
  · subst hik
    cases s
    · simp [Yk]
    · simp [Yk, hpq.symm]
  · have h1 : pos al i s ≠ pos al k false := fun e => hik (Ke he hil hk hni hne e).1
    have h2 : pos al i s ≠ pos al k true := fun e => hik (Ke he hil hk hni hne e).1
    simp only [if_neg h1, if_neg h2]
    exact h i (by omega) hni s
def Counted (al : List Arc) (m k : Nat) (fs : List Int) : Prop := fs.length = m + 1 ∧ fs.getD 0 0 = 0 ∧ ∀ v : Int, 0 ≤ v → v < m → fs.getD (v + 1).toNat 0 = cnt al v.toNat k
def Summed (al : List Arc) (m k : Nat) (fs : List Int) : Prop := fs.length = m + 1 ∧ (∀ u, u ≤ k → fs.getD u 0 = Yc al u) ∧ ∀ u, k ≤ u → u < m → fs.getD (u + 1) 0 = cnt al u al.length
theorem Z3x {al : List Arc} {v : Nat} (hv : v ≤ 4096) (hl : al.length ≤ 16384) : Yc al v ≤ 67108864 :=
 Nat.le_trans (Z8k al v) (Nat.mul_le_mul hv hl)
theorem Counted.start (al : List Arc) (m : Nat) {p : Nat} (h : p = m + 1) : Counted al m 0 (List.replicate p 0) :=
 ⟨by simp [h], Ni _ _ _, fun v _ _ => by rw [Ni]; rfl⟩
theorem Counted.skip {al : List Arc} {m k : Nat} {fs : List Int} (h : Counted al m k fs) (e : (al.getD k default).fr = (al.getD k default).to) : Counted al m (k + 1) fs :=
 ⟨h.1, h.2.1, fun v h0 h1 => by rw [h.2.2 v h0 h1]; simp only [cnt, Kw, if_pos e, Nat.add_zero]⟩
theorem Counted.put {al : List Arc} {m k : Nat} {fs : List Int} (h : Counted al m k fs) (he : Uk m al) (hk : k < al.length) (hne : (al.getD k default).fr ≠ (al.getD k default).to) :
    Counted al m (k + 1) ((fs.set ((al.getD k default).fr + 1).toNat (fs.getD ((al.getD k default).fr + 1).toNat 0 + 1)).set ((al.getD k default).to + 1).toNat
      ((fs.set ((al.getD k default).fr + 1).toNat (fs.getD ((al.getD k default).fr + 1).toNat 0 + 1)).getD ((al.getD k default).to + 1).toNat 0 + 1)) := by
  have e0 := he k hk false
  have e1 := he k hk true
  simp only [Yk, Bool.false_eq_true, if_false, if_true] at e0 e1
  obtain ⟨hl, hz, hv⟩ := h
  refine ⟨by simpa using hl, ?_, ?_⟩
  · rw [Uo (by omega), Uo (by omega)]; exact hz
  · intro v h0 h1
    have hvv := hv v h0 h1
    rw [Uo (i := ((al.getD k default).fr + 1).toNat) (j := ((al.getD k default).to + 1).toNat) (by omega), Nt (by omega) (by omega) (by omega)]
    simp only [cnt, Kw, if_neg hne]
    by_cases a1 : v = (al.getD k default).fr
    · rw [if_pos (by omega), if_pos (by omega), ← a1, hvv]; omega
    · rw [if_neg (by omega)]
      by_cases a2 : v = (al.getD k default).to
      · rw [if_pos (by omega), if_pos (by omega), ← a2, hvv]; omega
      · rw [if_neg (by omega), if_neg (by omega), hvv]; omega
theorem Counted.summed {al : List Arc} {m : Nat} {fs : List Int} (h : Counted al m al.length fs) : Summed al m 0 fs :=
 ⟨h.1, fun u hu => by rw [Nat.le_zero.1 hu]; exact h.2.1, fun u _ hu => by have := h.2.2 u (by omega) (by omega); rw [show ((u : Int) + 1).toNat = u + 1 by omega] at this; simpa using this⟩
theorem Summed.put {al : List Arc} {m k : Nat} {fs : List Int} (h : Summed al m k fs) (hk : k < m) {i : Nat} (hi : i = k + 1) : Summed al m (k + 1) (fs.set i (fs.getD i 0 + fs.getD k 0)) := by
 subst hi
 obtain ⟨hl, h1, h2⟩ := h
 refine ⟨by simpa using hl, fun u hu => ?_, fun u h3 h4 => ?_⟩
 ·
  by_cases e : u = k + 1
  · subst e; rw [Z3s (by omega), h1 k (Nat.le_refl _), h2 k (Nat.le_refl _) hk]; simp [Yc]; omega
  · rw [Uo (by omega)]; exact h1 u (by omega)
 · rw [Uo (by omega)]; exact h2 u (by omega) h4
theorem Rm {N S T : Int} {al : List Arc} (h : Uf N S T al = 0) : (2 ≤ N ∧ N ≤ 4096) ∧ (al.length : Int) ≤ 16384 ∧ (Ve N S = true ∧ Ve N T = true ∧ S ≠ T) ∧ al.all (Ui N) = true ∧ al.all Kv = true ∧ (Vk 4611686018427387904 al).isSome = true := by
 unfold Uf at h
 split at h
 · omega
 ·
  rename_i h1
  split at h
  · omega
  ·
   rename_i h2
   split at h
   · omega
   ·
    rename_i h3
    split at h
    · omega
    ·
     rename_i h4
     split at h
     · omega
     ·
      rename_i h5
      split at h
      · omega
      ·
       rename_i h6
       refine ⟨Classical.not_not.1 h1, Classical.not_not.1 h2, Classical.not_not.1 h3, by simpa using h4, by simpa using h5, ?_⟩
       cases e : Vk 4611686018427387904 al <;> simp_all
theorem Z6z {m : Nat} {al : List Arc} (h : al.all (Ui (m : Int)) = true) : Uk m al := by
 intro i hi s
 have h1 := List.all_eq_true.1 h _ (Jt hi default)
 simp only [Ui, Ve, Bool.and_eq_true, decide_eq_true_eq] at h1
 cases s
 · simp only [Yk, Bool.false_eq_true, if_false]; exact h1.1
 · simp only [Yk, if_true]; exact h1.2
def MakeAt (al : List Arc) (m k : Nat) (nx hs rs cs aa : List Int) (bs : List Bool) : Prop :=
  (nx.length = m + 1 ∧ hs.length = Yc al m ∧ rs.length = Yc al m ∧ cs.length = Yc al m ∧ aa.length = Yc al m ∧ bs.length = Yc al m) ∧
  CsrAt al hs rs cs aa bs k ∧ ∀ v : Int, 0 ≤ v → v < m → nx.getD v.toNat 0 = Yc al v.toNat + cnt al v.toNat k
theorem MakeAt.start {al : List Arc} {m : Nat} {fs : List Int} (hl : fs.length = m + 1) (hf : ∀ u, u ≤ m → fs.getD u 0 = Yc al u) :
    MakeAt al m 0 fs (List.replicate (Yc al m) 0) (List.replicate (Yc al m) 0) (List.replicate (Yc al m) 0) (List.replicate (Yc al m) 0) (List.replicate (Yc al m) false) := by
  refine ⟨⟨hl, by simp, by simp, by simp, by simp, by simp⟩, fun i hi => by omega, fun v h0 h1 => ?_⟩
  rw [hf _ (by omega)]; simp [cnt]
theorem MakeAt.skip {al : List Arc} {m k : Nat} {nx hs rs cs aa : List Int} {bs : List Bool} (h : MakeAt al m k nx hs rs cs aa bs) (e : (al.getD k default).fr = (al.getD k default).to) : MakeAt al m (k + 1) nx hs rs cs aa bs :=
 ⟨h.1, h.2.1.skip e, fun v h0 h1 => by rw [h.2.2 v h0 h1]; simp only [cnt, Kw, if_pos e, Nat.add_zero]⟩
theorem MakeAt.at {al : List Arc} {m k : Nat} {nx hs rs cs aa : List Int} {bs : List Bool} (h : MakeAt al m k nx hs rs cs aa bs) (he : Uk m al) (hk : k < al.length) (s : Bool) : nx.getD (Yk (al.getD k default) s).toNat 0 = (pos al k s : Nat) := by
 rw [h.2.2 _ (he k hk s).1 (he k hk s).2]; simp only [pos]; omega
theorem MakeAt.put {al : List Arc} {m k : Nat} {nx hs rs cs aa : List Int} {bs : List Bool} (h : MakeAt al m k nx hs rs cs aa bs) (he : Uk m al) (hk : k < al.length) (hne : (al.getD k default).fr ≠ (al.getD k default).to) :
    MakeAt al m (k + 1) ((nx.set (al.getD k default).fr.toNat ((pos al k false : Nat) + 1)).set (al.getD k default).to.toNat ((pos al k true : Nat) + 1))
      ((hs.set (pos al k false) (al.getD k default).to).set (pos al k true) (al.getD k default).fr) ((rs.set (pos al k false) (pos al k true)).set (pos al k true) (pos al k false))
      ((cs.set (pos al k false) (al.getD k default).cap).set (pos al k true) 0) ((aa.set (pos al k false) k).set (pos al k true) k) ((bs.set (pos al k false) false).set (pos al k true) true) := by
  have g0 := h.at he hk false
  have g1 := h.at he hk true
  obtain ⟨⟨l0, l1, l2, l3, l4, l5⟩, hA, hv⟩ := h
  have e0 := he k hk false
  have e1 := he k hk true
  simp only [Yk, Bool.false_eq_true, if_false, if_true] at e0 e1 g0 g1
  refine ⟨⟨by simpa using l0, by simpa using l1, by simpa using l2, by simpa using l3, by simpa using l4, by simpa using l5⟩, hA.put he hk hne l1 l2 l3 l4 l5, fun v h0 h1 => ?_⟩
  have hvv := hv v h0 h1
  rw [Nt (by omega) (by omega) (by omega)]
  simp only [cnt, Kw, if_neg hne]
  by_cases a1 : v = (al.getD k default).fr
  · rw [if_pos (by omega), if_pos (by omega), ← g0, ← a1, hvv]; omega
  · rw [if_neg (by omega)]
    by_cases a2 : v = (al.getD k default).to
    · rw [if_pos (by omega), if_pos (by omega), ← g1, ← a2, hvv]; omega
    · rw [if_neg (by omega), if_neg (by omega), hvv]; omega
theorem MakeAt.done {al : List Arc} {m : Nat} {fs nx hs rs cs aa : List Int} {bs : List Bool} (h : MakeAt al m al.length nx hs rs cs aa bs) (hl : fs.length = m + 1) (hf : ∀ u, u ≤ m → fs.getD u 0 = Yc al u) : CsrOK al m fs hs rs cs aa bs :=
 ⟨hl, h.1.2.1, h.1.2.2.1, h.1.2.2.2.1, h.1.2.2.2.2.1, h.1.2.2.2.2.2, hf, h.2.1⟩
end Go.Acq
namespace Go.Acq
open Go
theorem next_ne {S m : Int} (h0 : 0 ≤ S) (h1 : S < m) (h2 : 2 ≤ m) : 0 ≤ (S + 1).tmod m ∧ (S + 1).tmod m < m ∧ (S + 1).tmod m ≠ S := by
 rw [Int.tmod_eq_emod_of_nonneg (by omega)]
 refine ⟨Int.emod_nonneg _ (by omega), Int.emod_lt_of_pos _ (by omega), ?_⟩
 by_cases h : S + 1 < m
 · rw [Int.emod_eq_of_lt (by omega) h]; omega
 · rw [show S + 1 = m by omega, Int.emod_self]; omega
theorem Z8j {x n : Int} (h : 0 ≤ x) (hn : 0 < n) : 0 ≤ x.tmod n ∧ x.tmod n < n := by
 rw [Int.tmod_eq_emod_of_nonneg h]
 exact ⟨Int.emod_nonneg _ (by omega), Int.emod_lt_of_pos _ hn⟩
def SomeAt (m : Nat) (ol : List Arc) : Prop := ∀ a, a ∈ ol → Ui m a = true ∧ 0 ≤ a.cap ∧ a.cap < 1125899906842624
theorem SomeAt.put {m : Nat} {ol : List Arc} {a : Arc} (h : SomeAt m ol) (h1 : 0 ≤ a.fr ∧ a.fr < m) (h2 : 0 ≤ a.to ∧ a.to < m) (h3 : 0 ≤ a.cap ∧ a.cap < 1125899906842624) : SomeAt m (ol ++ [a]) := by
 intro b hb
 rcases List.mem_append.1 hb with hb | hb
 · exact h b hb
 ·
  simp only [List.mem_singleton] at hb
  subst hb
  exact ⟨by simp [Ui, Ve, h1, h2], h3⟩
theorem Z8x {m : Nat} {ol : List Arc} {left : Int} (h : SomeAt m ol) (hl : (ol.length : Int) * 1125899906842624 ≤ left) : (Vk left ol).isSome = true := by
 induction ol generalizing left with
 | nil => simp [Vk]
 | cons a ol ih =>
  have ha := (h a (.head _)).2
  simp only [List.length_cons] at hl
  have h2 : (0 : Int) ≤ (ol.length : Int) * 1125899906842624 := by omega
  simp only [Vk]
  rw [if_neg (by omega)]
  exact ih (fun b hb => h b (.tail _ hb)) (by omega)
theorem Z7z {m : Nat} {S T : Int} {ol : List Arc} (hm : 2 ≤ m) (hm2 : m ≤ 4096) (hS : 0 ≤ S ∧ S < m) (hT : 0 ≤ T ∧ T < m) (hST : T ≠ S) (h : SomeAt m ol) (hl : ol.length ≤ 4096) : Uf m S T ol = 0 := by
 have h1 : ol.all (Ui m) = true := List.all_eq_true.2 fun a ha => (h a ha).1
 have h2 : ol.all Kv = true := List.all_eq_true.2 fun a ha => by simp [Kv, (h a ha).2.1]
 have h3 : (Vk 4611686018427387904 ol).isSome = true := Z8x h (by omega)
 unfold Uf
 rw [if_neg (by omega), if_neg (by omega), if_neg (by simp [Ve, hS, hT, Ne.symm hST]), if_neg (by simp [h1]), if_neg (by simp [h2]), if_neg (by
  cases e : Vk 4611686018427387904 ol with
  | none => rw [e] at h3; cases h3
  | some x => simp)]
def WithinAt (al : List Arc) (n k : Nat) (fl : List Int) : Prop := fl.length = n ∧
  (∀ i, i < k → 0 ≤ fl.getD i 0 ∧ fl.getD i 0 ≤ (al.getD i default).cap ∧ ((al.getD i default).fr = (al.getD i default).to → fl.getD i 0 = 0)) ∧ ∀ i, k ≤ i → fl.getD i 0 = 0
theorem WithinAt.start (al : List Arc) (n : Nat) : WithinAt al n 0 (List.replicate n 0) := ⟨by simp, fun i h => by omega, fun i _ => Ni _ _ _⟩
theorem WithinAt.skip {al : List Arc} {n k : Nat} {fl : List Int} (h : WithinAt al n k fl) (hc : 0 ≤ (al.getD k default).cap) : WithinAt al n (k + 1) fl := by
 refine ⟨h.1, fun i hi => ?_, fun i hi => h.2.2 i (by omega)⟩
 rcases Nat.lt_succ_iff_lt_or_eq.1 hi with h1 | h1
 · exact h.2.1 i h1
 · subst h1; have := h.2.2 i (Nat.le_refl _); rw [this]; exact ⟨Int.le_refl _, hc, fun _ => rfl⟩
theorem WithinAt.put {al : List Arc} {n k : Nat} {fl : List Int} {v : Int} (h : WithinAt al n k fl) (hk : k < n) (h0 : 0 ≤ v) (h1 : v ≤ (al.getD k default).cap) (hne : (al.getD k default).fr ≠ (al.getD k default).to) : WithinAt al n (k + 1) (fl.set k v) := by
 refine ⟨by simpa using h.1, fun i hi => ?_, fun i hi => by rw [Uo (by omega)]; exact h.2.2 i (by omega)⟩
 by_cases e : i = k
 · subst e; rw [Z3s (by rw [h.1]; exact hk)]; exact ⟨h0, h1, fun e => absurd e hne⟩
 · rw [Uo (by omega)]; exact h.2.1 i (by omega)
def resOK (aa cs : List Int) (bs : List Bool) (fl : List Int) (j : Nat) : Prop := aa.getD j 0 < fl.length ∧ (bs.getD j false = true ∨ (0 ≤ fl.getD (aa.getD j 0).toNat 0 ∧ fl.getD (aa.getD j 0).toNat 0 ≤ cs.getD j 0))
def resV (aa cs : List Int) (bs : List Bool) (fl : List Int) (j : Nat) : Int := if bs.getD j false = true then fl.getD (aa.getD j 0).toNat 0 else cs.getD j 0 - fl.getD (aa.getD j 0).toNat 0
def ResAt (aa cs : List Int) (bs : List Bool) (fl : List Int) (L k : Nat) (rl : List Int) : Prop := rl.length = L ∧ ∀ j, j < k → resOK aa cs bs fl j ∧ rl.getD j 0 = resV aa cs bs fl j
theorem ResAt.put {aa cs : List Int} {bs : List Bool} {fl : List Int} {L k : Nat} {rl : List Int} {v : Int} (h : ResAt aa cs bs fl L k rl) (hk : k < L) (h1 : resOK aa cs bs fl k) (h2 : v = resV aa cs bs fl k) : ResAt aa cs bs fl L (k + 1) (rl.set k v) := by
 refine ⟨by simpa using h.1, fun j hj => ?_⟩
 by_cases e : j = k
 · subst e; rw [Z3s (by rw [h.1]; exact hk)]; exact ⟨h1, h2⟩
 · rw [Uo (by omega)]; exact h.2 j (by omega)
end Go.Acq
namespace Go.Acq
open Go
theorem CsrOK.place {al : List Arc} {m : Nat} {fs hs rs cs aa : List Int} {bs : List Bool} (h : CsrOK al m fs hs rs cs aa bs) {j : Nat} (hj : j < Yc al m) :
    ∃ i s, i < al.length ∧ (al.getD i default).fr ≠ (al.getD i default).to ∧ pos al i s = j ∧ hs.getD j 0 = Yk (al.getD i default) (!s) ∧ rs.getD j 0 = pos al i (!s) ∧ cs.getD j 0 = (if s then 0 else (al.getD i default).cap) ∧ aa.getD j 0 = i ∧ bs.getD j false = s := by
  obtain ⟨i, s, hi, hne, hp, _⟩ := Z7m hj
  have := h.hat i hi hne s
  rw [hp] at this
  exact ⟨i, s, hi, hne, hp, this⟩
end Go.Acq
namespace Go.Acq
open Go
theorem Kn {α : Type} {m : Option α} {v : α} (h : Ok m (fun a => a = v)) : m = some v := by obtain ⟨a, h1, h2⟩ := h; rw [h1, h2]
theorem Xm {α : Type} {m : Option α} {v : α} {Q : α → Prop} (h : m = some v) (q : Q v) : Ok m Q := ⟨v, h, q⟩
abbrev lenok (n : Nat) : Prop := n ≤ 9223372036854775807
theorem Z06 {x n : Int} (h1 : n ≤ 4611686018427387904) : Jn x n = some (Us x n) := by
 unfold Jn Us
 by_cases h : n < 1
 · rw [if_pos h, if_pos h]
 ·
  have a1 := Int.tmod_lt_of_pos x (show 0 < n by omega)
  have a2 := Z6x x (show 0 < n by omega)
  rw [if_neg h, if_neg h, Vw (by omega), Vw (by constructor <;> omega), Vw (by omega)]
theorem Z33 (n : Net) (v : Int) : Gp n v = some (Ve n.N v) := by
 unfold Gp Ve
 by_cases h : 0 ≤ v <;> simp [h]
theorem s_rules4 (n : Net) (a : Arc) : Z0e n a = some (Ui n.N a) := by
 unfold Z0e Ui
 rw [Z33, Z33]
 simp only [Option.bind_some]
 cases Ve n.N a.fr <;> simp
theorem s_of4 (n : Net) (h : lenok n.Arcs.length) : Z0q n = some (n.Arcs.all (Ui n.N)) := by
 refine Kn ?_
 unfold Z0q Z3i Z3c
 refine Ok.bind.2 (Ok.bind.2 (Ok.bind.2 (Ok.loop (fun x => 0 ≤ x ∧ x ≤ n.Arcs.length ∧ ∀ i, i < x.toNat → Ui n.N (n.Arcs.getD i default) = true) (fun x => (n.Arcs.length - x).toNat) ⟨by omega, by omega, fun i hi => by omega⟩ (by unfold Yz; omega) ?_)))
 rintro x ⟨h0, h1, h2⟩
 unfold Z0u Z3g
 refine Ok.ite.2 ⟨fun hx => ?_, fun hx => ?_⟩
 ·
  refine Ok.gd.2 ⟨(by omega), Ok.bind.2 (Ok.bind.2 (Xm (s_rules4 _ _) (Ok.some.2 (Ok.ite.2 ⟨fun hb => ?_, fun hb => ?_⟩))))⟩
  ·
   refine Ok.some.2 (Ok.some.2 (Ok.some.2 (Ok.some.2 ?_)))
   simp only [h0, decide_true, Bool.not_true]
   refine Eq.symm (Bool.eq_false_iff.2 fun hall => ?_)
   have := List.all_eq_true.1 hall _ (Jt (show x.toNat < n.Arcs.length by omega) default)
   rw [this] at hb; cases hb
  ·
   refine Ok.gd.2 ⟨(by omega), Ok.some.2 ⟨⟨by omega, by omega, fun i hi => ?_⟩, by omega⟩⟩
   rcases Nat.lt_or_ge i x.toNat with h3 | h3
   · exact h2 i h3
   · rw [show i = x.toNat by omega]; simpa using hb
 ·
  refine Ok.some.2 (Ok.some.2 (Ok.some.2 (Ok.some.2 ?_)))
  refine Eq.symm (List.all_eq_true.2 fun a ha => ?_)
  obtain ⟨i, hi, rfl⟩ := List.getElem_of_mem ha
  have := h2 i (by omega)
  rwa [List.getD_eq_getElem?_getD, List.getElem?_eq_getElem hi] at this
theorem s_of5 (n : Net) (h : lenok n.Arcs.length) : Z1h n = some (n.Arcs.all Kv) := by
 refine Kn ?_
 unfold Z1h Z3d Z1r
 refine Ok.bind.2 (Ok.bind.2 (Ok.bind.2 (Ok.loop (fun x => 0 ≤ x ∧ x ≤ n.Arcs.length ∧ ∀ i, i < x.toNat → Kv (n.Arcs.getD i default) = true) (fun x => (n.Arcs.length - x).toNat) ⟨by omega, by omega, fun i hi => by omega⟩ (by unfold Yz; omega) ?_)))
 rintro x ⟨h0, h1, h2⟩
 unfold Z03 Z1u Z2a
 refine Ok.ite.2 ⟨fun hx => ?_, fun hx => ?_⟩
 ·
  refine Ok.gd.2 ⟨(by omega), Ok.bind.2 (Ok.bind.2 (Ok.some.2 (Ok.some.2 (Ok.ite.2 ⟨fun hb => ?_, fun hb => ?_⟩))))⟩
  ·
   refine Ok.some.2 (Ok.some.2 (Ok.some.2 (Ok.some.2 ?_)))
   simp only [h0, decide_true, Bool.not_true]
   refine Eq.symm (Bool.eq_false_iff.2 fun hall => ?_)
   have := List.all_eq_true.1 hall _ (Jt (show x.toNat < n.Arcs.length by omega) default)
   simp only [Kv] at this
   rw [this] at hb; cases hb
  ·
   refine Ok.gd.2 ⟨(by omega), Ok.some.2 ⟨⟨by omega, by omega, fun i hi => ?_⟩, by omega⟩⟩
   rcases Nat.lt_or_ge i x.toNat with h3 | h3
   · exact h2 i h3
   · rw [show i = x.toNat by omega]; simpa [Kv] using hb
 ·
  refine Ok.some.2 (Ok.some.2 (Ok.some.2 (Ok.some.2 ?_)))
  refine Eq.symm (List.all_eq_true.2 fun a ha => ?_)
  obtain ⟨i, hi, rfl⟩ := List.getElem_of_mem ha
  have := h2 i (by omega)
  rwa [List.getD_eq_getElem?_getD, List.getElem?_eq_getElem hi] at this
theorem s_Sum (n : Net) (h : lenok n.Arcs.length) : Z08 n = some (match Vk 4611686018427387904 n.Arcs with | some l => (4611686018427387904 - l, true) | none => (0, false)) := by
 refine Kn ?_
 unfold Z08
 refine Ok.bind.2 (Ok.loop (fun s => 0 ≤ s.2 ∧ s.2 ≤ n.Arcs.length ∧ 0 ≤ s.1 ∧ s.1 ≤ 4611686018427387904 ∧ Vk 4611686018427387904 n.Arcs = Vk s.1 (n.Arcs.drop s.2.toNat)) (fun s => (n.Arcs.length - s.2).toNat) ⟨by simp, by simp, by simp, by simp, by simp⟩ (by unfold Yz; simp; omega) ?_)
 rintro ⟨left, x⟩ ⟨h0, h1, h2, h3, h4⟩
 simp only at h0 h1 h2 h3 h4 ⊢
 unfold Z05 Z16
 refine Ok.ite.2 ⟨fun hx => ?_, fun hx => ?_⟩
 ·
  rw [Z6f (by omega)] at h4
  refine Ok.gd.2 ⟨(by omega), Ok.ite.2 ⟨fun hb => ?_, fun hb => ?_⟩⟩
  ·
   rw [if_pos rfl]
   refine Ok.some.2 (Ok.some.2 ?_)
   rw [h4, if_pos (.inl hb)]
  ·
   by_cases hc : left < (n.Arcs.getD x.toNat default).cap
   ·
    rw [if_pos (decide_eq_true hc)]
    refine Ok.some.2 (Ok.some.2 ?_)
    rw [h4, if_pos (.inr hc)]
   ·
    rw [if_neg (by simpa using hc)]
    refine Ok.gd.2 ⟨(by omega), Ok.gd.2 ⟨(by omega), Ok.some.2 ⟨⟨by simp only; omega, by simp only; omega, by simp only; omega, by simp only; omega, ?_⟩, by simp only; omega⟩⟩⟩
    rw [h4, if_neg (by omega)]
    simp only
    rw [show (x + 1).toNat = x.toNat + 1 by omega]
 ·
  unfold Z30
  refine Ok.some.2 (Ok.gd.2 ⟨(by omega), Ok.some.2 ?_⟩)
  rw [h4, List.drop_eq_nil_of_le (by omega)]
  rfl
theorem s_Check (n : Net) (h : lenok n.Arcs.length) : Z18 n = some (Uf n.N n.S n.T n.Arcs) := by
 unfold Z18 Z25 Z3f Z20 Z26 Z22 Z1q Z3a Z2f
 rw [Z33, Z33, s_of4 n h, s_of5 n h, s_Sum n h]
 unfold Uf
 simp only [Option.bind_some]
 by_cases h1 : 2 ≤ n.N ∧ n.N ≤ 4096
 ·
  rw [if_pos h1.1, if_neg (not_not_intro h1)]
  simp only [Option.bind_some, decide_eq_true h1.2, Bool.not_true, Bool.false_eq_true, if_false]
  by_cases h2 : (n.Arcs.length : Int) ≤ 16384
  ·
   rw [if_neg (by simp [h2]), if_neg (not_not_intro h2)]
   by_cases h3 : Ve n.N n.S = true ∧ Ve n.N n.T = true ∧ n.S ≠ n.T
   ·
    rw [if_pos h3.1, if_pos h3.2.1, if_neg (not_not_intro h3)]
    simp only [Option.bind_some, decide_eq_true h3.2.2, Bool.not_true, Bool.false_eq_true, if_false]
    cases h4 : n.Arcs.all (Ui n.N)
    · simp
    ·
     cases h5 : n.Arcs.all Kv
     · simp
     · cases h6 : Vk 4611686018427387904 n.Arcs <;> simp
   ·
    rw [if_pos h3]
    by_cases a1 : Ve n.N n.S = true
    ·
     by_cases a2 : Ve n.N n.T = true
     ·
      have a3 : ¬ n.S ≠ n.T := fun e => h3 ⟨a1, a2, e⟩
      simp [a1, a2, a3]
     · simp [a1, a2]
    · simp [a1]
  · rw [if_pos (by simp [h2]), if_pos h2]
 ·
  rw [if_pos h1]
  by_cases a1 : 2 ≤ n.N
  ·
   have a2 : ¬ n.N ≤ 4096 := fun e => h1 ⟨a1, e⟩
   simp [a1, a2]
  · simp [a1]
end Go.Acq
namespace Go.Acq
open Go
structure NetIn (n : Net) : Prop where
  nN : i64ok n.N
  nS : i64ok n.S
  nT : i64ok n.T
  arcs : ∀ a, a ∈ n.Arcs → i64ok a.fr ∧ i64ok a.to ∧ i64ok a.cap
  len : n.Arcs.length ≤ 9223372036854775807
structure Made (n : Net) (v a : Int) : Prop where
  check : Uf n.N n.S n.T n.Arcs = 0
  rows : SomeAt n.N.toNat n.Arcs
  verts : n.N ≤ v
  arcs : (n.Arcs.length : Int) ≤ a
  ends : 2 ≤ n.N ∧ 0 ≤ n.S ∧ n.S < n.N ∧ 0 ≤ n.T ∧ n.T < n.N ∧ n.S ≠ n.T
theorem Made.nat {n : Net} {v a : Int} (h : Made n v a) : ∃ m : Nat, n.N = m ∧ SomeAt m n.Arcs := ⟨n.N.toNat, by have := h.ends.1; omega, h.rows⟩
theorem Made.caps {n : Net} {m : Nat} (h : SomeAt m n.Arcs) : ∀ i, i < n.Arcs.length → 0 ≤ (n.Arcs.getD i default).cap ∧ (n.Arcs.getD i default).cap < 1125899906842624 := fun _ hi => (h _ (Jt hi default)).2
theorem s_Some {n : Net} {v a : Int} (h : NetIn n) (hv0 : 2 ≤ v) (hv1 : v ≤ 4096) (ha0 : 0 ≤ a) (ha1 : a ≤ 4096) : Ok (Z0r n v a) (fun r => Made r v a) := by
 have hN := Z0i (x := n.N) (n := v - 1) (by omega)
 unfold Z0r
 refine Ok.gd.2 ⟨(by omega), Ok.bind.2 (Xm (Z06 (by omega)) (Ok.gd.2 ⟨(by omega), ?_⟩))⟩
 obtain ⟨m, hm⟩ : ∃ m : Nat, 2 + Us n.N (v - 1) = m := ⟨(2 + Us n.N (v - 1)).toNat, by omega⟩
 rw [hm]
 have hS := Z0i (x := n.S) (n := (m : Int)) (by omega)
 have hT := Z0i (x := n.T) (n := (m : Int)) (by omega)
 refine Ok.bind.2 (Xm (Z06 (by omega)) (Ok.bind.2 (Xm (Z06 (by omega)) ?_)))
 have key : ∀ t : Int, 0 ≤ t → t < m → t ≠ Us n.S m → Ok (Rg n a (Us n.N (v - 1)) (Us n.S m) t) (fun r => Made r v a) := by
  intro t t0 t1 t2
  unfold Rg
  refine Ok.gd.2 ⟨(by omega), Ok.bind.2 ?_⟩
  obtain ⟨q, hq⟩ : ∃ q : Nat, min (n.Arcs.length : Int) a = q := ⟨(min (n.Arcs.length : Int) a).toNat, by omega⟩
  obtain ⟨al, hal⟩ : ∃ l, l = n.Arcs.take (q : Int).toNat := ⟨_, rfl⟩
  have hlen : al.length = q := by rw [hal, List.length_take]; omega
  have hcap : ∀ b, b ∈ al → i64ok b.cap := fun b hb => (h.arcs b (List.mem_of_mem_take (by rw [← hal]; exact hb))).2.2
  refine Kq (fun s => ∃ k : Nat, s.2 = k ∧ k ≤ q ∧ s.1.length = k ∧ SomeAt m s.1) (fun s => (q - s.2).toNat) ⟨0, rfl, by omega, rfl, fun b hb => by cases hb⟩ (by unfold Yz; simp only; omega) ?_
  rintro ⟨ol, x⟩ ⟨k, h1, h2, h3, h4⟩ P next exit
  simp only at h1 h2 h3 h4 next ⊢
  subst h1
  unfold Z07
  rw [hq, ← hal]
  simp only [Int.toNat_natCast]
  refine Ok.ite.2 ⟨fun hx => ?_, fun hx => ?_⟩
  ·
   have hkl : k < al.length := by omega
   have hc := hcap _ (Jt hkl default)
   have hj : ∀ c : Int, 0 ≤ c → Ok (Ly n a (Us n.N (v - 1)) ol k c) P := by
    intro c hc0
    unfold Ly
    rw [hq, ← hal, hm]
    refine Ok.bind.2 (Xm (Z06 (by omega)) (Ok.bind.2 (Xm (Z06 (by omega)) (Ok.gd.2 ⟨?_, Ok.gd.2 ⟨(by omega), Ok.some.2 (next _ ⟨k + 1, by simp, by omega, by simp [h3], ?_⟩ (by simp only; omega))⟩⟩))))
    · rw [List.length_append, h3]; simp only [List.length_cons, List.length_nil]; constructor <;> omega
    · exact h4.put (Z0i (by omega)) (Z0i (by omega)) (Z8j hc0 (by omega))
   refine Ok.gd.2 ⟨(by omega), Ok.ite.2 ⟨fun hn => ?_, fun hn => ?_⟩⟩
   · exact Ok.gd.2 ⟨by constructor <;> omega, Ok.gd.2 ⟨by constructor <;> omega, hj (-((al.getD k default).cap + 1)) (by omega)⟩⟩
   · exact hj (al.getD k default).cap (by omega)
  ·
   refine Ok.some.2 (exit _ ?_)
   unfold Z3e
   refine Ok.some.2 ?_
   rw [hm]
   exact ⟨Z7z (by omega) (by omega) hS ⟨t0, t1⟩ t2 h4 (show ol.length ≤ 4096 by omega), by simpa using h4, by simp only; omega, by show (ol.length : Int) ≤ a; omega, ⟨by simp only; omega, hS.1, hS.2, t0, t1, fun e => t2 e.symm⟩⟩
 refine Ok.ite.2 ⟨fun he => ?_, fun he => ?_⟩
 ·
  refine Ok.gd.2 ⟨(by omega), Ok.gd.2 ⟨by omega, ?_⟩⟩
  obtain ⟨n1, n2, n3⟩ := next_ne hS.1 hS.2 (by omega)
  exact key _ n1 n2 n3
 · exact key _ hT.1 hT.2 (fun e => he e.symm)
theorem Z8m {n : Net} {m : Nat} (hN : n.N = m) (hm : m ≤ 4096) (hl : n.Arcs.length ≤ 16384) (he : Uk m n.Arcs) :
    Ok (Z11 n) (fun fs => fs.length = m + 1 ∧ ∀ u, u ≤ m → fs.getD u 0 = Yc n.Arcs u) := by
  unfold Z11
  simp only [hN]
  refine Ok.gd.2 ⟨(by omega), Ok.gd.2 ⟨(by omega), Ok.bind.2 (Kq (fun s => ∃ k : Nat, s.2 = k ∧ k ≤ n.Arcs.length ∧ Counted n.Arcs m k s.1) (fun s => (n.Arcs.length - s.2).toNat) ⟨0, rfl, by omega, Counted.start n.Arcs m (by omega)⟩ (by unfold Yz; simp only; omega) ?_)⟩⟩
  rintro ⟨fs, x⟩ ⟨k, h1, h2, h3⟩ P next exit
  simp only at h1 h2 h3 next ⊢
  subst h1
  unfold Z0h
  simp only [Int.toNat_natCast]
  refine Ok.ite.2 ⟨fun hx => ?_, fun hx => ?_⟩
  · have hkl : k < n.Arcs.length := by omega
    have hfl := h3.1
    have e0 := he k hkl false
    have e1 := he k hkl true
    simp only [Yk, Bool.false_eq_true, if_false, if_true] at e0 e1
    have c0 := h3.2.2 _ e0.1 e0.2
    have c1 := h3.2.2 _ e1.1 e1.2
    have d0 := Z2m n.Arcs (n.Arcs.getD k default).fr.toNat k
    have d1 := Z2m n.Arcs (n.Arcs.getD k default).to.toNat k
    refine Ok.gd.2 ⟨(by omega), Ok.ite.2 ⟨fun hne => ?_, fun hne => ?_⟩⟩
    · have c2 : (fs.set ((n.Arcs.getD k default).fr + 1).toNat (fs.getD ((n.Arcs.getD k default).fr + 1).toNat 0 + 1)).getD ((n.Arcs.getD k default).to + 1).toNat 0 = cnt n.Arcs (n.Arcs.getD k default).to.toNat k := by rw [Uo (by omega)]; exact c1
      refine Ok.gd.2 ⟨(by omega), Ok.gd.2 ⟨(by omega), Ok.gd.2 ⟨(by omega), Ok.gd.2 ⟨(by omega), Ok.gd.2 ⟨(by omega), Ok.gd.2 ⟨(by simp only [List.length_set, List.length_replicate]; omega), Ok.gd.2 ⟨(by omega), Ok.gd.2 ⟨(by simp only [List.length_set, List.length_replicate]; omega), Ok.gd.2 ⟨(by omega), Ok.some.2 (next _ ⟨k + 1, by simp, by omega, ?_⟩ (by simp only; omega))⟩⟩⟩⟩⟩⟩⟩⟩⟩
      exact h3.put he hkl hne
    · refine Ok.gd.2 ⟨(by omega), Ok.some.2 (next _ ⟨k + 1, by simp, by omega, h3.skip (Classical.not_not.1 hne)⟩ (by simp only; omega))⟩
  · refine Ok.some.2 (exit _ ?_)
    have hk : k = n.Arcs.length := by omega
    subst hk
    unfold Z34
    refine Ok.bind.2 (Kq (fun s => ∃ v : Nat, s.2 = v ∧ v ≤ m ∧ Summed n.Arcs m v s.1) (fun s => (m - s.2).toNat) ⟨0, rfl, by omega, h3.summed⟩ (by unfold Yz; simp only; omega) ?_)
    rintro ⟨gs, y⟩ ⟨v, g1, g2, g3⟩ P2 next2 exit2
    simp only at g1 g2 g3 next2 ⊢
    subst g1
    unfold Z0j
    simp only [hN, Int.toNat_natCast]
    have hgl := g3.1
    have b0 := g3.2.1 v (Nat.le_refl _)
    refine Ok.ite.2 ⟨fun hv => ?_, fun hv => ?_⟩
    · have b1 := g3.2.2 v (Nat.le_refl _) (by omega)
      have b2 := Z3x (al := n.Arcs) (v := v) (by omega) hl
      have b3 := Z2m n.Arcs v n.Arcs.length
      have b5 : ((v : Int) + 1).toNat = v + 1 := by omega
      simp only [b5]
      refine Ok.gd.2 ⟨(by omega), Ok.gd.2 ⟨(by omega), Ok.gd.2 ⟨(by omega), Ok.gd.2 ⟨(by omega), Ok.gd.2 ⟨(by omega), Ok.gd.2 ⟨(by omega), Ok.some.2 (next2 _ ⟨v + 1, by simp, by omega, ?_⟩ (by simp only; omega))⟩⟩⟩⟩⟩⟩
      exact g3.put (by omega) rfl
    · refine Ok.some.2 (exit2 _ ?_)
      unfold Z1w
      have : v = m := by omega
      subst this
      exact Ok.some.2 ⟨hgl, g3.2.1⟩
structure CsrIs (n : Net) (m : Nat) (c : Csr) : Prop where
  hN : c.N = m
  hS : c.S = n.S
  hT : c.T = n.T
  ok : CsrOK n.Arcs m c.First c.Head c.Rev c.Cap c.Arc c.Back
theorem s_Make {n : Net} {m : Nat} (hN : n.N = m) (hc : Uf n.N n.S n.T n.Arcs = 0) (hl : lenok n.Arcs.length) :
    Ok (Z0t n) (fun r => CsrIs n m r.1 ∧ r.2 = 0) := by
  have hz := Rm hc
  have hm : m ≤ 4096 := by omega
  have he : Uk m n.Arcs := Z6z (by rw [← hN]; exact hz.2.2.2.1)
  unfold Z0t
  refine Ok.bind.2 (Xm (s_Check n hl) (Ok.ite.2 ⟨fun h => absurd hc h, fun _ => Ok.bind.2 (Ok.mono (Z8m hN hm (by omega) he) ?_)⟩))
  rintro fs ⟨hfl, hfs⟩
  simp only [hN, Int.toNat_natCast, hfs m (Nat.le_refl _)]
  have hbs := Z3x (al := n.Arcs) (v := m) hm (by omega)
  unfold Z2n
  refine Ok.gd.2 ⟨(by omega), Ok.gd.2 ⟨(by omega), Ok.gd.2 ⟨(by omega), Ok.gd.2 ⟨(by omega), Ok.gd.2 ⟨(by omega), Ok.gd.2 ⟨(by omega), Ok.bind.2 (Ok.gd.2 ⟨(by omega), Ok.some.2 (Ok.bind.2 ?_)⟩)⟩⟩⟩⟩⟩⟩
  refine Kq (fun s => ∃ k : Nat, s.2.2.2.2.2.2 = k ∧ k ≤ n.Arcs.length ∧ MakeAt n.Arcs m k s.2.2.2.2.2.1 s.1 s.2.1 s.2.2.1 s.2.2.2.1 s.2.2.2.2.1) (fun s => (n.Arcs.length - s.2.2.2.2.2.2).toNat) ⟨0, rfl, by omega, MakeAt.start hfl hfs⟩ (by unfold Yz; simp only; omega) ?_
  rintro ⟨hs, rs, cs, aa, bs, nx, x⟩ ⟨k, h1, h2, h3⟩ P next exit
  simp only at h1 h2 h3 next ⊢
  subst h1
  unfold Z1b
  simp only [Int.toNat_natCast]
  refine Ok.ite.2 ⟨fun hx => ?_, fun hx => ?_⟩
  · have hkl : k < n.Arcs.length := by omega
    refine Ok.gd.2 ⟨(by omega), Ok.ite.2 ⟨fun heq => ?_, fun hne => ?_⟩⟩
    · exact Ok.gd.2 ⟨(by omega), Ok.some.2 (next _ ⟨k + 1, by simp, by omega, h3.skip heq⟩ (by simp only; omega))⟩
    · have e0 := he k hkl false
      have e1 := he k hkl true
      have n0 := h3.at he hkl false
      have n1 := h3.at he hkl true
      have p0 : pos n.Arcs k false < Yc n.Arcs m := Gt hkl hne he
      have p1 : pos n.Arcs k true < Yc n.Arcs m := Gt hkl hne he
      simp only [Yk, Bool.false_eq_true, if_false, if_true] at e0 e1 n0 n1
      have hh := h3
      obtain ⟨⟨l0, l1, l2, l3, l4, l5⟩, _, _⟩ := h3
      unfold Z0a
      simp only [n0, Int.toNat_natCast]
      have n2 : (nx.set (n.Arcs.getD k default).fr.toNat ((pos n.Arcs k false : Int) + 1)).getD (n.Arcs.getD k default).to.toNat 0 = (pos n.Arcs k true : Nat) := by rw [Uo (by omega)]; exact n1
      refine Ok.bind.2 (Ok.gd.2 ⟨(by omega), Ok.gd.2 ⟨(by omega), Ok.gd.2 ⟨(by omega), Ok.gd.2 ⟨(by omega), Ok.gd.2 ⟨(by omega), Ok.gd.2 ⟨(by omega), Ok.gd.2 ⟨(by omega), Ok.gd.2 ⟨(by omega), Ok.some.2 (Ok.bind.2 ?_)⟩⟩⟩⟩⟩⟩⟩⟩)
      simp only [n2, Int.toNat_natCast]
      refine Ok.gd.2 ⟨(by simp only [List.length_set, List.length_replicate]; omega), Ok.gd.2 ⟨(by simp only [List.length_set, List.length_replicate]; omega), Ok.gd.2 ⟨(by omega), Ok.gd.2 ⟨(by simp only [List.length_set, List.length_replicate]; omega), Ok.gd.2 ⟨(by simp only [List.length_set, List.length_replicate]; omega), Ok.gd.2 ⟨(by simp only [List.length_set, List.length_replicate]; omega), Ok.gd.2 ⟨(by simp only [List.length_set, List.length_replicate]; omega), Ok.gd.2 ⟨(by simp only [List.length_set, List.length_replicate]; omega), Ok.some.2 (Ok.gd.2 ⟨(by omega), Ok.gd.2 ⟨(by simp only [List.length_set, List.length_replicate]; omega), Ok.gd.2 ⟨(by omega), Ok.some.2 (next _ ⟨k + 1, by simp, by omega, ?_⟩ (by simp only; omega))⟩⟩⟩)⟩⟩⟩⟩⟩⟩⟩⟩
      exact hh.put he hkl hne
  · refine Ok.some.2 (exit _ ?_)
    unfold Z3b
    have hk : k = n.Arcs.length := by omega
    subst hk
    exact Ok.some.2 ⟨⟨hN, rfl, rfl, h3.done hfl hfs⟩, rfl⟩
end Go.Acq
namespace Go.Acq
open Go
theorem s_Len (c : Csr) : Rs c = some (c.Head.length : Int) := rfl
end Go.Acq
namespace Go.Acq
open Go
def ex (al : List Arc) (f : List Int) (v : Int) : Nat → Int
  | 0 => 0
  | k + 1 => ex al f v k - (if (al.getD k default).fr = v then f.getD k 0 else 0) + (if (al.getD k default).to = v then f.getD k 0 else 0)
def tot (f : List Int) : Nat → Int
  | 0 => 0
  | k + 1 => tot f k + f.getD k 0
def part (al : List Arc) (f : List Int) (j : Int) : Nat → Int
  | 0 => 0
  | k + 1 => part al f j k - (if (al.getD k default).fr < j then f.getD k 0 else 0) + (if (al.getD k default).to < j then f.getD k 0 else 0)
theorem ex_le {al : List Arc} {f : List Int} (v : Int) {n : Nat} (h : ∀ i, i < n → 0 ≤ f.getD i 0) : ∀ k, k ≤ n → -tot f k ≤ ex al f v k ∧ ex al f v k ≤ tot f k
 | 0, _ => by simp [ex, tot]
 | k + 1, hk => by
  have ih := ex_le (al := al) v h k (by omega)
  have := h k hk
  simp only [ex, tot]
  split <;> split <;> omega
theorem Z3z {f : List Int} {n : Nat} (h : ∀ i, i < n → 0 ≤ f.getD i 0) : ∀ j k, j ≤ k → k ≤ n → tot f j ≤ tot f k
  | j, 0, hj, _ => by have : j = 0 := by omega
                      subst this; exact Int.le_refl _
  | j, k + 1, hj, hk => by
    rcases Nat.lt_or_ge j (k + 1) with h1 | h1
    · have := Z3z h j k (by omega) (by omega)
      have := h k hk
      simp only [tot]; omega
    · rw [show j = k + 1 by omega]; exact Int.le_refl _
theorem sumL_tot {f : List Int} : ∀ (al : List Arc) (left : Int) (k : Nat), (Vk left (al.drop k)).isSome = true → 0 ≤ left → k ≤ al.length → (∀ i, i < al.length → 0 ≤ f.getD i 0 ∧ f.getD i 0 ≤ (al.getD i default).cap) → tot f al.length - tot f k ≤ left := by
 intro al left k
 induction hn : al.length - k generalizing left k with
 | zero =>
  intro _ h0 hk _
  rw [show k = al.length by omega]; omega
 | succ n ih =>
  intro hs h0 hk hf
  have hkl : k < al.length := by omega
  rw [Z6f hkl] at hs
  by_cases hc : (al.getD k default).cap < 0 ∨ left < (al.getD k default).cap
  · rw [if_pos hc] at hs; cases hs
  ·
   rw [if_neg hc] at hs
   have := ih (left - (al.getD k default).cap) (k + 1) (by omega) hs (by omega) (by omega) hf
   have hfk := hf k hkl
   simp only [tot] at this
   omega
def FwithinP (n : Net) (f : List Int) : Prop := Uf n.N n.S n.T n.Arcs = 0 ∧ f.length = n.Arcs.length ∧ ∀ i, i < n.Arcs.length → 0 ≤ f.getD i 0 ∧ f.getD i 0 ≤ (n.Arcs.getD i default).cap
theorem FwithinP.tot {n : Net} {f : List Int} (h : FwithinP n f) : ∀ k, k ≤ n.Arcs.length → 0 ≤ tot f k ∧ tot f k ≤ 4611686018427387904 := by
 intro k hk
 have hz := Rm h.1
 have h1 := sumL_tot (f := f) n.Arcs 4611686018427387904 0 (by simpa using hz.2.2.2.2.2) (by omega) (by omega) h.2.2
 have h2 := Z3z (fun i hi => (h.2.2 i hi).1) k n.Arcs.length hk (Nat.le_refl _)
 have h3 := Z3z (fun i hi => (h.2.2 i hi).1) 0 k (by omega) hk
 simp only [Acq.tot] at h1 h3
 omega
end Go.Acq
namespace Go.Acq
open Go
theorem Z77 {α : Type} {xs ys : List α} {d : α} {i : Nat} (h : i < xs.length) : (xs ++ ys).getD i d = xs.getD i d := by
 rw [List.getD_eq_getElem?_getD, List.getElem?_append_left h, List.getD_eq_getElem?_getD]
theorem Z64 {α : Type} {xs ys : List α} {d : α} {i : Nat} (h : xs.length ≤ i) : (xs ++ ys).getD i d = ys.getD (i - xs.length) d := by
 rw [List.getD_eq_getElem?_getD, List.getElem?_append_right h, List.getD_eq_getElem?_getD]
theorem pos_row {al : List Arc} {i v : Nat} {s : Bool} (hi : i < al.length) (hne : (al.getD i default).fr ≠ (al.getD i default).to) (h0 : 0 ≤ Yk (al.getD i default) s) (h1 : Yc al v ≤ pos al i s) (h2 : pos al i s < Yc al (v + 1)) : Yk (al.getD i default) s = v ∧ pos al i s = Yc al v + cnt al v i := by
 obtain ⟨u, hu⟩ : ∃ u : Nat, Yk (al.getD i default) s = u := ⟨(Yk (al.getD i default) s).toNat, by omega⟩
 have hcl := Nz (s := s) hi hne h0
 have hpos : pos al i s = Yc al u + cnt al u i := by unfold pos; rw [hu, Int.toNat_natCast]
 rw [hu, Int.toNat_natCast] at hcl
 have hb1 : Yc al (u + 1) = Yc al u + cnt al u al.length := rfl
 have : u = v := by
  rcases Nat.lt_trichotomy u v with h | h | h
  · have := Ny (al := al) (show u + 1 ≤ v by omega); omega
  · exact h
  · have := Ny (al := al) (show v + 1 ≤ u by omega); omega
 subst this
 exact ⟨hu, hpos⟩
end Go.Acq
namespace Go.Acq
open Go
def Ww (c : List Bool) (v : Int) : Bool := c.getD v.toNat false
def acK (al : List Arc) (f : List Int) (c : List Bool) : Nat → Int
  | 0 => 0
  | k + 1 => acK al f c k + (if Ww c (al.getD k default).fr = true ∧ Ww c (al.getD k default).to = false then f.getD k 0 else 0) - (if Ww c (al.getD k default).fr = false ∧ Ww c (al.getD k default).to = true then f.getD k 0 else 0)
def Rx (al : List Arc) : Nat → Int
  | 0 => 0
  | k + 1 => Rx al k + (al.getD k default).cap
theorem Z62 (al : List Arc) : ∀ k, k ≤ al.length → Rx al k = tot (al.map (·.cap)) k
 | 0, _ => rfl
 | k + 1, hk => by
  simp only [Rx, tot, Z62 al k (by omega)]
  rw [List.getD_eq_getElem?_getD, List.getD_eq_getElem?_getD, List.getElem?_map, List.getElem?_eq_getElem (show k < al.length by omega)]; rfl
theorem Z8y {al : List Arc} {i : Nat} (hi : i < al.length) : (al.map (·.cap)).getD i 0 = (al.getD i default).cap := by
 rw [List.getD_eq_getElem?_getD, List.getD_eq_getElem?_getD, List.getElem?_map, List.getElem?_eq_getElem hi]; rfl
theorem Z9l {n : Net} (h : Uf n.N n.S n.T n.Arcs = 0) (hc : ∀ i, i < n.Arcs.length → 0 ≤ (n.Arcs.getD i default).cap) : FwithinP n (n.Arcs.map (·.cap)) :=
 ⟨h, by simp, fun i hi => by rw [Z8y hi]; exact ⟨hc i hi, Int.le_refl _⟩⟩
theorem Z72 {n : Net} (h : Uf n.N n.S n.T n.Arcs = 0) : ∀ i, i < n.Arcs.length → 0 ≤ (n.Arcs.getD i default).cap := fun i hi => by
 have := List.all_eq_true.1 (Rm h).2.2.2.2.1 _ (Jt hi default)
 simpa [Kv] using this
theorem Z6y {n : Net} (h : Uf n.N n.S n.T n.Arcs = 0) : ∀ k, k ≤ n.Arcs.length → 0 ≤ Rx n.Arcs k ∧ Rx n.Arcs k ≤ 4611686018427387904 := fun k hk => by
 rw [Z62 _ k hk]
 have := (Z9l h (Z72 h)).tot k (by simpa using hk)
 exact this
end Go.Acq
namespace Go.Acq
open Go
inductive Reach (G : Nat → Nat → Prop) (s : Nat) : Nat → Prop
  | refl : Reach G s s
  | step {u v : Nat} : Reach G s u → G u v → Reach G s v
theorem Reach.trans {G : Nat → Nat → Prop} {a b c : Nat} (h : Reach G a b) (g : Reach G b c) : Reach G a c := by
 induction g with
 | refl => exact h
 | step _ h2 ih => exact .step ih h2
theorem Reach.mono {G K : Nat → Nat → Prop} {a b : Nat} (h : Reach G a b) (hk : ∀ u v, G u v → K u v) : Reach K a b := by
 induction h with
 | refl => exact .refl
 | step _ h2 ih => exact .step ih (hk _ _ h2)
def tc (l : List Bool) : Nat → Nat
  | 0 => 0
  | k + 1 => tc l k + if l.getD k false = true then 1 else 0
theorem tc_le (l : List Bool) : ∀ k, tc l k ≤ k
 | 0 => Nat.le_refl _
 | k + 1 => by have := tc_le l k; simp only [tc]; split <;> omega
theorem tc_set {l : List Bool} {i : Nat} (hi : i < l.length) (hf : l.getD i false = false) : ∀ k : Nat, tc (l.set i true) k = tc l k + (if i < k then 1 else 0)
 | 0 => by simp [tc]
 | k + 1 => by
  have ih := tc_set hi hf k
  simp only [tc, ih, Vc]
  by_cases c : i = k
  ·
   subst c
   rw [if_neg (show ¬ i < i by omega), if_pos (show i = i ∧ i < l.length from ⟨rfl, hi⟩), hf, if_pos rfl, if_pos (show i < i + 1 by omega)]; rfl
  ·
   rw [if_neg (show ¬(i = k ∧ i < l.length) from fun h => c h.1)]
   by_cases c2 : i < k
   · rw [if_pos c2, if_pos (show i < k + 1 by omega)]; omega
   · rw [if_neg c2, if_neg (show ¬ i < k + 1 by omega)]; omega
structure MetI (G : Nat → Nat → Prop) (s m : Nat) (xs : List Bool) (row : List Int) : Prop where
  len : xs.length = m
  nat : ∀ q, q < row.length → ∃ v : Nat, row.getD q 0 = v ∧ v < m ∧ xs.getD v false = true ∧ Reach G s v
  has : ∀ v, v < m → xs.getD v false = true → ∃ q, q < row.length ∧ row.getD q 0 = (v : Int)
  cnt : row.length = tc xs m
theorem MetI.le {G : Nat → Nat → Prop} {s m : Nat} {xs : List Bool} {row : List Int} (h : MetI G s m xs row) : row.length ≤ m := by rw [h.cnt]; exact tc_le _ _
theorem MetI.put {G : Nat → Nat → Prop} {s m v : Nat} {xs : List Bool} {row : List Int} (h : MetI G s m xs row) (hv : v < m) (hf : xs.getD v false = false) (hr : Reach G s v) : MetI G s m (xs.set v true) (row ++ [(v : Int)]) := by
 have hl := h.len
 refine ⟨by simp [hl], fun q hq => ?_, fun u hu hx => ?_, ?_⟩
 ·
  rw [List.length_append, List.length_singleton] at hq
  rcases Nat.lt_or_ge q row.length with h1 | h1
  ·
   obtain ⟨u, h2, h3, h4, h5⟩ := h.nat q h1
   refine ⟨u, by rw [Z77 h1]; exact h2, h3, ?_, h5⟩
   rw [Vc]; split
   · rfl
   · exact h4
  ·
   refine ⟨v, ?_, hv, by rw [Vc, if_pos ⟨rfl, by omega⟩], hr⟩
   rw [Z64 h1, show q - row.length = 0 by omega]; rfl
 ·
  rw [Vc] at hx
  by_cases c : v = u
  ·
   refine ⟨row.length, by simp, ?_⟩
   rw [Z64 (Nat.le_refl _), Nat.sub_self, ← c]; rfl
  ·
   rw [if_neg (fun h => c h.1)] at hx
   obtain ⟨q, h1, h2⟩ := h.has u hu hx
   exact ⟨q, by rw [List.length_append]; omega, by rw [Z77 h1]; exact h2⟩
 · rw [List.length_append, List.length_singleton, tc_set (by omega) hf, if_pos hv, h.cnt]
end Go.Acq
namespace Go.Acq
open Go
def Kx (al : List Arc) (f : List Int) (c : List Bool) (j : Int) : Nat → Int
  | 0 => 0
  | k + 1 => Kx al f c j k - (if (al.getD k default).fr < j ∧ Ww c (al.getD k default).fr = false then f.getD k 0 else 0) + (if (al.getD k default).to < j ∧ Ww c (al.getD k default).to = false then f.getD k 0 else 0)
theorem Z6n {al : List Arc} {f : List Int} {c : List Bool} (j : Int) : ∀ k, Kx al f c (j + 1) k = Kx al f c j k + (if Ww c j = false then ex al f j k else 0)
 | 0 => by simp [Kx, ex]
 | k + 1 => by
  have ih := Z6n (al := al) (f := f) (c := c) j k
  simp only [Kx, ex, ih]
  have e1 : ∀ x : Int, (if x < j + 1 ∧ Ww c x = false then f.getD k 0 else 0) = (if x < j ∧ Ww c x = false then f.getD k 0 else 0) + (if x = j ∧ Ww c j = false then f.getD k 0 else 0) := fun x => by
   by_cases h1 : x < j
   ·
    by_cases h3 : Ww c x = false
    · rw [if_pos ⟨by omega, h3⟩, if_pos ⟨h1, h3⟩, if_neg (fun h => by omega)]; omega
    · rw [if_neg (fun h => h3 h.2), if_neg (fun h => h3 h.2), if_neg (fun h => by omega)]; omega
   ·
    by_cases h2 : x = j
    ·
     subst h2
     by_cases h3 : Ww c x = false
     · rw [if_pos ⟨by omega, h3⟩, if_neg (fun h => h1 h.1), if_pos ⟨rfl, h3⟩]; omega
     · rw [if_neg (fun h => h3 h.2), if_neg (fun h => h3 h.2), if_neg (fun h => h3 h.2)]; omega
    · rw [if_neg (fun h => by omega), if_neg (fun h => by omega), if_neg (fun h => h2 h.1)]; omega
  rw [e1, e1]
  by_cases h : Ww c j = false
  ·
   simp only [h, and_true, if_true]
   omega
  ·
   simp only [h, Bool.not_eq_false, and_false, if_false, ite_false, reduceCtorEq]
   omega
theorem Z5i {al : List Arc} {f : List Int} {c : List Bool} {m : Nat} (he : Uk m al) : ∀ k, k ≤ al.length → Kx al f c 0 k = 0
 | 0, _ => rfl
 | k + 1, hk => by
  have h0 := he k hk false
  have h1 := he k hk true
  simp only [Yk, Bool.false_eq_true, if_false, if_true] at h0 h1
  simp only [Kx, Z5i he k (by omega)]
  rw [if_neg (fun h => by omega), if_neg (fun h => by omega)]; rfl
theorem Z5j {al : List Arc} {f : List Int} {c : List Bool} {m : Nat} (he : Uk m al) : ∀ k, k ≤ al.length → Kx al f c m k = acK al f c k
 | 0, _ => rfl
 | k + 1, hk => by
  have h0 := he k hk false
  have h1 := he k hk true
  simp only [Yk, Bool.false_eq_true, if_false, if_true] at h0 h1
  simp only [Kx, acK, Z5j he k (by omega)]
  obtain ⟨A, hA⟩ : ∃ A, al.getD k default = A := ⟨_, rfl⟩
  obtain ⟨F, hF⟩ : ∃ F, f.getD k 0 = F := ⟨_, rfl⟩
  rw [hA] at h0 h1 ⊢
  rw [hF]
  cases a : Ww c A.fr <;> cases b : Ww c A.to <;> simp [h0.2, h1.2] <;> omega
end Go.Acq
namespace Go.Acq
open Go
def Yr (g : Nat → Int) : Nat → Int
  | 0 => 0
  | k + 1 => Yr g k + g k
theorem Z17 {g h : Nat → Int} : ∀ {k : Nat}, (∀ i, i < k → g i = h i) → Yr g k = Yr h k
 | 0, _ => rfl
 | k + 1, e => by simp only [Yr]; rw [Z17 fun i hi => e i (by omega), e k (by omega)]
theorem Z2s (g h : Nat → Int) : ∀ k, Yr (fun i => g i + h i) k = Yr g k + Yr h k
 | 0 => rfl
 | k + 1 => by simp only [Yr, Z2s g h k]; omega
theorem Z46 {g : Nat → Int} {k : Nat} (h : ∀ i, i < k → g i = 0) : Yr g k = 0 := by
 induction k with
 | zero => rfl
 | succ k ih => simp only [Yr]; rw [ih fun i hi => h i (by omega), h k (by omega)]; rfl
theorem Z1v {g : Nat → Int} {i : Nat} : ∀ {k : Nat}, i < k → (∀ j, j < k → j ≠ i → g j = 0) → Yr g k = g i
 | 0, h, _ => by omega
 | k + 1, h, e => by
  simp only [Yr]
  by_cases c : i = k
  · subst c; rw [Z46 fun j hj => e j (by omega) (by omega)]; omega
  · rw [Z1v (show i < k by omega) fun j hj hne => e j (by omega) hne, e k (by omega) (fun h => c h.symm)]; omega
theorem Z5x (F : Nat → Nat → Int) (K : Nat) : ∀ L, Yr (fun j => Yr (fun i => F i j) K) L = Yr (fun i => Yr (fun j => F i j) L) K
 | 0 => (Z46 fun _ _ => rfl).symm
 | L + 1 => by
  simp only [Yr]
  rw [Z5x F K L, ← Z2s]
theorem Z3r {g h : Nat → Int} : ∀ {k : Nat}, (∀ i, i < k → g i ≤ h i) → Yr g k ≤ Yr h k
 | 0, _ => Int.le_refl _
 | k + 1, e => by
  have := Z3r (k := k) fun i hi => e i (by omega)
  have := e k (by omega)
  simp only [Yr]; omega
theorem Z71 {g : Nat → Int} {k : Nat} : ∀ {l : Nat}, k ≤ l → (∀ i, i < l → 0 ≤ g i) → Yr g k ≤ Yr g l
 | 0, h, _ => by rw [show k = 0 by omega]; exact Int.le_refl _
 | l + 1, h, e => by
  by_cases c : k = l + 1
  · subst c; exact Int.le_refl _
  ·
   have := Z71 (show k ≤ l by omega) fun i hi => e i (by omega)
   have := e l (by omega)
   simp only [Yr]; omega
theorem Z7g (al : List Arc) (f : List Int) (v : Int) : ∀ k, ex al f v k = Yr (fun i => (if (al.getD i default).to = v then f.getD i 0 else 0) - (if (al.getD i default).fr = v then f.getD i 0 else 0)) k
 | 0 => rfl
 | k + 1 => by simp only [ex, Yr, Z7g al f v k]; omega
theorem Z6d (f : List Int) : ∀ k, tot f k = Yr (fun i => f.getD i 0) k
 | 0 => rfl
 | k + 1 => by simp only [tot, Yr, Z6d f k]
theorem Z59 {al : List Arc} {m : Nat} (he : Uk m al) (g : Nat → Int) : Yr g (Yc al m) = Yr (fun i => if (al.getD i default).fr = (al.getD i default).to then 0 else g (pos al i false) + g (pos al i true)) al.length := by
 let F : Nat → Nat → Int := fun i j => if (al.getD i default).fr = (al.getD i default).to then 0 else (if pos al i false = j then g j else 0) + (if pos al i true = j then g j else 0)
 have e1 : Yr g (Yc al m) = Yr (fun j => Yr (fun i => F i j) al.length) (Yc al m) := by
  refine Z17 fun j hj => ?_
  obtain ⟨i, s, hi, hne, hp, _⟩ := Z7m (al := al) hj
  rw [Z1v (i := i) hi]
  ·
   simp only [F]
   rw [if_neg hne]
   cases s
   ·
    have h2 : pos al i true ≠ j := fun e => by have := (Ke he hi hi hne hne (hp.trans e.symm)).2; cases this
    rw [if_pos hp, if_neg h2]; omega
   ·
    have h2 : pos al i false ≠ j := fun e => by have := (Ke he hi hi hne hne (hp.trans e.symm)).2; cases this
    rw [if_neg h2, if_pos hp]; omega
  ·
   intro i' hi' hii
   simp only [F]
   by_cases c : (al.getD i' default).fr = (al.getD i' default).to
   · rw [if_pos c]
   · rw [if_neg c, if_neg fun e => hii (Ke he hi' hi c hne (e.trans hp.symm)).1, if_neg fun e => hii (Ke he hi' hi c hne (e.trans hp.symm)).1]; rfl
 rw [e1, Z5x]
 refine Z17 fun i hi => ?_
 by_cases c : (al.getD i default).fr = (al.getD i default).to
 ·
  rw [if_pos c]
  exact Z46 fun j _ => by simp only [F]; rw [if_pos c]
 ·
  rw [if_neg c]
  have e2 : Yr (fun j => F i j) (Yc al m) = Yr (fun j => (if pos al i false = j then g j else 0) + (if pos al i true = j then g j else 0)) (Yc al m) := Z17 fun j _ => by simp only [F]; rw [if_neg c]
  rw [e2, Z2s, Z1v (i := pos al i false) (Gt hi c he) fun j _ hj => if_neg fun e => hj e.symm, Z1v (i := pos al i true) (Gt hi c he) fun j _ hj => if_neg fun e => hj e.symm, if_pos rfl, if_pos rfl]
def hd (c : Csr) (j : Nat) : Nat := (c.Head.getD j 0).toNat
def rv (c : Csr) (j : Nat) : Nat := (c.Rev.getD j 0).toNat
def fs (c : Csr) (v : Nat) : Nat := (c.First.getD v 0).toNat
def tl (c : Csr) (j : Nat) : Nat := hd c (rv c j)
def bk (c : Csr) (j : Nat) : Bool := c.Back.getD j false
def cp (c : Csr) (j : Nat) : Int := max (c.Cap.getD j 0) (c.Cap.getD (rv c j) 0)
structure Row (n : Net) (m L : Nat) (c : Csr) : Prop where
  is : CsrIs n m c
  chk : Uf n.N n.S n.T n.Arcs = 0
  hm : n.N = m
  hL : Yc n.Arcs m = L
section row
variable {n : Net} {m L : Nat} {c : Csr}
theorem Row.he (r : Row n m L c) : Uk m n.Arcs := Z6z (by rw [← r.hm]; exact (Rm r.chk).2.2.2.1)
theorem Row.bd (r : Row n m L c) : 2 ≤ m ∧ m ≤ 4096 ∧ n.Arcs.length ≤ 16384 ∧ L ≤ 67108864 := by
 have hz := Rm r.chk
 have := r.hm
 have hb := Z3x (al := n.Arcs) (v := m) (by omega) (by omega)
 have := r.hL
 omega
theorem Row.ends (r : Row n m L c) : (∃ S : Nat, n.S = S ∧ c.S = S ∧ S < m) ∧ (∃ T : Nat, n.T = T ∧ c.T = T ∧ T < m) ∧ n.S ≠ n.T ∧ c.N = m := by
 have hz := Rm r.chk
 simp only [Ve, decide_eq_true_eq] at hz
 have h1 := r.hm
 have h2 := r.is.hS
 have h3 := r.is.hT
 exact ⟨⟨n.S.toNat, by omega, by omega, by omega⟩, ⟨n.T.toNat, by omega, by omega, by omega⟩, hz.2.2.1.2.2, r.is.hN⟩
theorem Row.caps (r : Row n m L c) : ∀ i, i < n.Arcs.length → 0 ≤ (n.Arcs.getD i default).cap ∧ (n.Arcs.getD i default).cap ≤ 4611686018427387904 := fun i hi => by
 have h0 := Z72 r.chk i hi
 have h1 := Z6y r.chk (i + 1) hi
 have h2 := Z6y r.chk i (by omega)
 simp only [Rx] at h1
 omega
theorem Row.lens (r : Row n m L c) : c.First.length = m + 1 ∧ c.Head.length = L ∧ c.Rev.length = L ∧ c.Cap.length = L ∧ c.Arc.length = L ∧ c.Back.length = L := by
 have h := r.is.ok
 rw [← r.hL]
 exact ⟨h.lf, h.lh, h.lr, h.lc, h.la, h.lb⟩
theorem Row.at (r : Row n m L c) {j : Nat} (hj : j < L) : ∃ i s, i < n.Arcs.length ∧ (n.Arcs.getD i default).fr ≠ (n.Arcs.getD i default).to ∧ pos n.Arcs i s = j ∧ c.Head.getD j 0 = (hd c j : Nat) ∧ (hd c j : Int) = Yk (n.Arcs.getD i default) (!s) ∧ (tl c j : Int) = Yk (n.Arcs.getD i default) s ∧
    c.Rev.getD j 0 = (rv c j : Nat) ∧ rv c j = pos n.Arcs i (!s) ∧ c.Cap.getD j 0 = (if s then 0 else (n.Arcs.getD i default).cap) ∧ c.Arc.getD j 0 = i ∧ bk c j = s := by
  obtain ⟨i, s, hi, hne, hp, q1, q2, q3, q4, q5⟩ := r.is.ok.place (by rw [r.hL]; exact hj)
  have hv := r.he i hi (!s)
  have hv2 := r.he i hi s
  have hr : rv c j = pos n.Arcs i (!s) := by unfold rv; rw [q2, Int.toNat_natCast]
  refine ⟨i, s, hi, hne, hp, by unfold hd; omega, by unfold hd; omega, ?_, by unfold rv; omega, hr, q3, q4, q5⟩
  unfold tl hd
  rw [hr, (r.is.ok.hat i hi hne (!s)).1, Bool.not_not]; omega
theorem Row.head (r : Row n m L c) {j : Nat} (hj : j < L) : c.Head.getD j 0 = (hd c j : Nat) ∧ hd c j < m := by
 obtain ⟨i, s, hi, hne, hp, q1, q2, q3, q4, q5, q6, q7, q8⟩ := r.at hj
 have hv := r.he i hi (!s)
 exact ⟨q1, by omega⟩
theorem Row.rev (r : Row n m L c) {j : Nat} (hj : j < L) : c.Rev.getD j 0 = (rv c j : Nat) ∧ rv c j < L ∧ rv c (rv c j) = j ∧ rv c j ≠ j := by
 obtain ⟨i, s, hi, hne, hp, q1, q2, q3, q4, q5, q6, q7, q8⟩ := r.at hj
 have hq : pos n.Arcs i (!s) < L := by rw [← r.hL]; exact Gt hi hne r.he
 refine ⟨q4, by rw [q5]; exact hq, ?_, fun e => ?_⟩
 ·
  have := (r.is.ok.hat i hi hne (!s)).2.1
  rw [q5]; unfold rv; rw [this, Int.toNat_natCast, Bool.not_not, hp]
 ·
  have := (Ke r.he hi hi hne hne (q5.symm.trans (e.trans hp.symm))).2
  cases s <;> cases this
theorem Row.tlh (r : Row n m L c) {j : Nat} (hj : j < L) : tl c j < m ∧ tl c (rv c j) = hd c j ∧ hd c (rv c j) = tl c j ∧ tl c j ≠ hd c j := by
 obtain ⟨i, s, hi, hne, hp, q1, q2, q3, q4, q5, q6, q7, q8⟩ := r.at hj
 have hv := r.he i hi s
 refine ⟨by omega, ?_, rfl, fun e => ?_⟩
 · unfold tl; rw [(r.rev hj).2.2.1]
 ·
  apply hne
  have : Yk (n.Arcs.getD i default) s = Yk (n.Arcs.getD i default) (!s) := by omega
  cases s <;> simpa [Yk, eq_comm] using this
theorem Row.back (r : Row n m L c) {j : Nat} (hj : j < L) : bk c (rv c j) = !bk c j := by
 obtain ⟨i, s, hi, hne, hp, q1, q2, q3, q4, q5, q6, q7, q8⟩ := r.at hj
 unfold bk at q8 ⊢
 rw [q5, (r.is.ok.hat i hi hne (!s)).2.2.2.2, q8]
theorem Row.first (r : Row n m L c) : (∀ v, v ≤ m → c.First.getD v 0 = (fs c v : Nat) ∧ fs c v = Yc n.Arcs v) ∧ fs c 0 = 0 ∧ fs c m = L ∧ ∀ v, v < m → fs c v ≤ fs c (v + 1) ∧ fs c (v + 1) ≤ L := by
 have h : ∀ v, v ≤ m → c.First.getD v 0 = (fs c v : Nat) ∧ fs c v = Yc n.Arcs v := fun v hv => by
  have := r.is.ok.hf v hv
  unfold fs; rw [this, Int.toNat_natCast]; exact ⟨rfl, rfl⟩
 refine ⟨h, by rw [(h 0 (by omega)).2]; rfl, by rw [(h m (Nat.le_refl _)).2]; exact r.hL, fun v hv => ?_⟩
 rw [(h v (by omega)).2, (h (v + 1) (by omega)).2, ← r.hL]
 exact ⟨Ny (by omega), Ny (by omega)⟩
theorem Row.range (r : Row n m L c) {j u : Nat} (hj : j < L) (hu : u < m) : (fs c u ≤ j ∧ j < fs c (u + 1)) ↔ tl c j = u := by
 obtain ⟨i, s, hi, hne, hp, q1, q2, q3, q4, q5, q6, q7, q8⟩ := r.at hj
 have hv := r.he i hi s
 have f1 := (r.first.1 u (by omega)).2
 have f2 := (r.first.1 (u + 1) (by omega)).2
 constructor
 ·
  rintro ⟨h1, h2⟩
  have := (pos_row (v := u) hi hne hv.1 (by omega) (by omega)).1
  omega
 ·
  intro h
  have hcl := Nz (s := s) hi hne hv.1
  have hpos : pos n.Arcs i s = Yc n.Arcs (Yk (n.Arcs.getD i default) s).toNat + cnt n.Arcs (Yk (n.Arcs.getD i default) s).toNat i := rfl
  have e : (Yk (n.Arcs.getD i default) s).toNat = u := by omega
  rw [e] at hcl hpos
  have hb1 : Yc n.Arcs (u + 1) = Yc n.Arcs u + cnt n.Arcs u n.Arcs.length := rfl
  omega
theorem Row.cap (r : Row n m L c) {j : Nat} (hj : j < L) : 0 ≤ c.Cap.getD j 0 ∧ c.Cap.getD j 0 + c.Cap.getD (rv c j) 0 = cp c j ∧ cp c (rv c j) = cp c j ∧ 0 ≤ cp c j ∧ cp c j ≤ 4611686018427387904 ∧ (bk c j = true → c.Cap.getD j 0 = 0) := by
 obtain ⟨i, s, hi, hne, hp, q1, q2, q3, q4, q5, q6, q7, q8⟩ := r.at hj
 have hc := r.caps i hi
 have h2 : c.Cap.getD (rv c j) 0 = if (!s) then 0 else (n.Arcs.getD i default).cap := by rw [q5]; exact (r.is.ok.hat i hi hne (!s)).2.2.1
 have h3 := (r.rev hj).2.2.1
 unfold cp
 rw [h3, q6, h2, q8]
 cases s
 · simp only [Bool.not_false, if_true, Bool.false_eq_true, if_false, false_implies, and_true]; omega
 · simp only [Bool.not_true, if_true, Bool.false_eq_true, if_false, true_implies, and_true]; omega
theorem Row.cpPos (r : Row n m L c) {i : Nat} (hi : i < n.Arcs.length) (hne : (n.Arcs.getD i default).fr ≠ (n.Arcs.getD i default).to) (s : Bool) : cp c (pos n.Arcs i s) = (n.Arcs.getD i default).cap ∧ rv c (pos n.Arcs i s) = pos n.Arcs i (!s) ∧ pos n.Arcs i s < L := by
 have z := r.is.ok.hat i hi hne s
 have z2 := r.is.ok.hat i hi hne (!s)
 have hc := r.caps i hi
 have hr : rv c (pos n.Arcs i s) = pos n.Arcs i (!s) := by unfold rv; rw [z.2.1, Int.toNat_natCast]
 refine ⟨?_, hr, by rw [← r.hL]; exact Gt hi hne r.he⟩
 unfold cp
 rw [hr, z.2.2.1, z2.2.2.1]
 cases s <;> simp only [Bool.not_true, Bool.not_false, if_true, Bool.false_eq_true, if_false] <;> omega
theorem Z3p {S X : Type} {y : S → Int → Option (S ⊕ X)} {s0 : S} {u : Nat} (r : Row n m L c) (hu : u < m) (I : Nat → S → Prop) (J : X → Prop) (h0 : I (fs c u) s0)
    (hstep : ∀ j s, fs c u ≤ j → j < fs c (u + 1) → I j s → Ok (y s (j : Nat)) (fun t => match t with | .inl s' => I (j + 1) s' | .inr x => J x)) :
    Ok (Lc y c (u : Nat) (.inl s0)) (fun t => match t with | .inl s => I (fs c (u + 1)) s | .inr x => J x) := by
  have lf := r.lens.1
  have b := r.bd
  have f1 := (r.first.1 u (by omega)).1
  have f2 := (r.first.1 (u + 1) (by omega)).1
  have f3 := r.first.2.2.2 u hu
  have e1 : ((u : Int) + 1).toNat = u + 1 := by omega
  unfold Lc
  simp only [Int.toNat_natCast, f1]
  refine Ok.gd.2 ⟨(by omega), Ok.bind.2 (Kq (fun s => ∃ (k : Nat) (st : S), s = ((k : Int), Sum.inl st) ∧ fs c u ≤ k ∧ k ≤ fs c (u + 1) ∧ I k st) (fun s => (fs c (u + 1) - s.1).toNat) ⟨fs c u, s0, rfl, Nat.le_refl _, f3.1, h0⟩ (by unfold Yz; simp only; omega) ?_)⟩
  rintro s ⟨k, st, rfl, hk0, hk, hI⟩ P next exit
  unfold Z1n
  simp only [Int.toNat_natCast, e1, f2]
  refine Ok.gd.2 ⟨(by omega), Ok.gd.2 ⟨(by omega), Ok.ite.2 ⟨fun hx => ?_, fun hx => Ok.some.2 (exit _ (Ok.some.2 ?_))⟩⟩⟩
  · refine Ok.bind.2 ?_
    show Ok (y st _) _
    refine Ok.mono (hstep k st hk0 (by omega) hI) ?_
    rintro (s' | x) hr
    · exact Ok.ite.2 ⟨fun h => by simp at h, fun _ => Ok.gd.2 ⟨(by omega), Ok.some.2 (next _ ⟨k + 1, s', by simp, by omega, by omega, hr⟩ (by simp only; omega))⟩⟩
    · exact Ok.ite.2 ⟨fun _ => Ok.some.2 (exit _ (Ok.some.2 hr)), fun h => by simp at h⟩
  · obtain rfl : k = fs c (u + 1) := by omega
    exact hI
def Vy (al : List Arc) (R : List Int) : List Int := (List.range al.length).map fun i => if (al.getD i default).fr = (al.getD i default).to then 0 else R.getD (pos al i true) 0
theorem flN_len (al : List Arc) (R : List Int) : (Vy al R).length = al.length := by simp [Vy]
theorem Lm {al : List Arc} {R : List Int} {i : Nat} (h : i < al.length) : (Vy al R).getD i 0 = if (al.getD i default).fr = (al.getD i default).to then 0 else R.getD (pos al i true) 0 := by
 unfold Vy
 rw [List.getD_eq_getElem?_getD, List.getElem?_map, List.getElem?_range h]; rfl
structure ResOK (n : Net) (m L : Nat) (c : Csr) (R X : List Int) : Prop where
  lr : R.length = L
  lx : X.length = m
  res : ∀ j, j < L → 0 ≤ R.getD j 0 ∧ R.getD j 0 + R.getD (rv c j) 0 = cp c j
  ex : ∀ v : Nat, v < m → X.getD v 0 = ex n.Arcs (Vy n.Arcs R) v n.Arcs.length
theorem Z7o {R : List Int} (r : Row n m L c) (h : ∀ j, j < L → 0 ≤ R.getD j 0 ∧ R.getD j 0 + R.getD (rv c j) 0 = cp c j) : FwithinP n (Vy n.Arcs R) := by
 refine ⟨r.chk, flN_len _ _, fun i hi => ?_⟩
 rw [Lm hi]
 have hc := r.caps i hi
 by_cases e : (n.Arcs.getD i default).fr = (n.Arcs.getD i default).to
 · rw [if_pos e]; omega
 ·
  rw [if_neg e]
  obtain ⟨a1, a2, a3⟩ := r.cpPos hi e true
  have h1 := h _ a3
  have h2 := h _ (r.rev a3).2.1
  omega
theorem ResOK.within {R X : List Int} (h : ResOK n m L c R X) (r : Row n m L c) : FwithinP n (Vy n.Arcs R) := Z7o r h.res
theorem Z9t {f : List Int} (hw : FwithinP n f) (v : Int) : -4611686018427387904 ≤ ex n.Arcs f v n.Arcs.length ∧ ex n.Arcs f v n.Arcs.length ≤ 4611686018427387904 := by
 have := ex_le (al := n.Arcs) v (fun i hi => (hw.2.2 i hi).1) n.Arcs.length (Nat.le_refl _)
 have := hw.tot n.Arcs.length (Nat.le_refl _)
 omega
theorem ResOK.bnd {R X : List Int} (h : ResOK n m L c R X) (r : Row n m L c) {v : Nat} (hv : v < m) : -4611686018427387904 ≤ X.getD v 0 ∧ X.getD v 0 ≤ 4611686018427387904 := by
 rw [h.ex v hv]; exact Z9t (h.within r) v
theorem ResOK.rle {R X : List Int} (h : ResOK n m L c R X) (r : Row n m L c) {j : Nat} (hj : j < L) : 0 ≤ R.getD j 0 ∧ R.getD j 0 ≤ cp c j ∧ R.getD j 0 ≤ 4611686018427387904 := by
 have h1 := h.res j hj
 have h2 := h.res _ (r.rev hj).2.1
 have h3 := r.cap hj
 omega
def mvR (c : Csr) (R : List Int) (j : Nat) (d : Int) : List Int := (R.set j (R.getD j 0 - d)).set (rv c j) (R.getD (rv c j) 0 + d)
def mvX (c : Csr) (X : List Int) (j : Nat) (d : Int) : List Int := (X.set (tl c j) (X.getD (tl c j) 0 - d)).set (hd c j) (X.getD (hd c j) 0 + d)
theorem Rl {R : List Int} {j k : Nat} {d : Int} (r : Row n m L c) (hl : R.length = L) (hj : j < L) : (mvR c R j d).getD k 0 = if k = rv c j then R.getD (rv c j) 0 + d else if k = j then R.getD j 0 - d else R.getD k 0 := by
 have := r.rev hj
 unfold mvR
 rw [Vc, Vc, List.length_set]
 by_cases c1 : k = rv c j
 · rw [if_pos ⟨c1.symm, by omega⟩, if_pos c1]
 ·
  rw [if_neg fun h => c1 h.1.symm, if_neg c1]
  by_cases c2 : k = j
  · rw [if_pos ⟨c2.symm, by omega⟩, if_pos c2]
  · rw [if_neg fun h => c2 h.1.symm, if_neg c2]
theorem Z2k {X : List Int} {j k : Nat} {d : Int} (r : Row n m L c) (hl : X.length = m) (hj : j < L) : (mvX c X j d).getD k 0 = X.getD k 0 - (if tl c j = k then d else 0) + (if hd c j = k then d else 0) := by
 have h1 := r.tlh hj
 have h2 := r.head hj
 unfold mvX
 rw [Vc, Vc, List.length_set]
 by_cases c1 : hd c j = k
 ·
  subst c1
  rw [if_pos ⟨rfl, by omega⟩, if_neg h1.2.2.2, if_pos rfl]; omega
 ·
  rw [if_neg fun h => c1 h.1]
  by_cases c2 : tl c j = k
  ·
   subst c2
   rw [if_pos ⟨rfl, by omega⟩, if_pos rfl, if_neg c1]; omega
  · rw [if_neg fun h => c2 h.1, if_neg c2, if_neg c1]; omega
theorem ex_bump {al : List Arc} {f g : List Int} {i : Nat} {δ : Int} {K : Nat} (v : Int) (hi : i < K) (h : ∀ k, k < K → g.getD k 0 = f.getD k 0 + if k = i then δ else 0) :
    ex al g v K = ex al f v K + ((if (al.getD i default).to = v then δ else 0) - (if (al.getD i default).fr = v then δ else 0)) := by
  have key : ∀ k, k ≤ K → ex al g v k = ex al f v k + if i < k then ((if (al.getD i default).to = v then δ else 0) - (if (al.getD i default).fr = v then δ else 0)) else 0 := by
    intro k
    induction k with
    | zero => intro _; rw [if_neg (by omega)]; rfl
    | succ k ih =>
      intro hk
      simp only [ex]
      rw [ih (by omega), h k (by omega)]
      by_cases e : k = i
      · subst e
        rw [if_neg (show ¬ k < k by omega), if_pos rfl, if_pos (show k < k + 1 by omega)]
        split <;> split <;> omega
      · rw [if_neg e]
        by_cases e2 : i < k
        · rw [if_pos e2, if_pos (show i < k + 1 by omega)]; simp only [Int.add_zero]; omega
        · rw [if_neg e2, if_neg (show ¬ i < k + 1 by omega)]; simp only [Int.add_zero]
  rw [key K (Nat.le_refl _), if_pos hi]
theorem ResOK.move {R X : List Int} {j : Nat} {d : Int} (h : ResOK n m L c R X) (r : Row n m L c) (hj : j < L) (d0 : 0 ≤ d) (d1 : d ≤ R.getD j 0) : ResOK n m L c (mvR c R j d) (mvX c X j d) := by
 have hr := r.rev hj
 have hlr := h.lr
 have hlx := h.lx
 refine ⟨by simp [mvR, hlr], by simp [mvX, hlx], fun k hk => ?_, fun v hv => ?_⟩
 ·
  have hk2 := r.rev hk
  have a := h.res k hk
  have a2 := h.res _ hr.2.1
  have a3 := h.res j hj
  have a4 := r.cap hj
  rw [Rl r hlr hj, Rl r hlr hj]
  by_cases c1 : k = rv c j
  ·
   subst c1
   rw [if_pos rfl, hr.2.2.1, if_neg fun e => hr.2.2.2 e.symm, if_pos rfl, a4.2.2.1]; omega
  ·
   by_cases c2 : k = j
   ·
    subst c2
    rw [if_neg c1, if_pos rfl, if_pos rfl]; omega
   ·
    have c3 : rv c k ≠ rv c j := fun e => c2 (by rw [← hk2.2.2.1, e, hr.2.2.1])
    have c4 : rv c k ≠ j := fun e => c1 (by rw [← e, hk2.2.2.1])
    rw [if_neg c1, if_neg c2, if_neg c3, if_neg c4]; exact a
 ·
  obtain ⟨i, s, hi, hne, hp, q1, q2, q3, q4, q5, q6, q7, q8⟩ := r.at hj
  rw [Z2k r hlx hj, h.ex v hv, ex_bump (f := Vy n.Arcs R) (g := Vy n.Arcs (mvR c R j d)) (i := i) (δ := if s then -d else d) (v : Int) hi fun k hk => ?_]
  ·
   have t1 : (tl c j = v) ↔ Yk (n.Arcs.getD i default) s = (v : Int) := by rw [← q3]; omega
   have t2 : (hd c j = v) ↔ Yk (n.Arcs.getD i default) (!s) = (v : Int) := by rw [← q2]; omega
   simp only [t1, t2]
   cases s <;> simp only [Yk, Bool.not_false, Bool.not_true, if_true, if_false, Bool.false_eq_true] <;> split <;> split <;> omega
  ·
   rw [Lm hk, Lm hk]
   by_cases e : (n.Arcs.getD k default).fr = (n.Arcs.getD k default).to
   ·
    have : k ≠ i := fun e2 => by subst e2; exact hne e
    rw [if_pos e, if_pos e, if_neg this]; rfl
   ·
    rw [if_neg e, if_neg e, Rl r hlr hj]
    by_cases e2 : k = i
    ·
     subst e2
     cases s
     ·
      have b1 : pos n.Arcs k true = rv c j := by rw [q5]; rfl
      rw [if_pos b1, if_pos rfl, b1]; rfl
     ·
      have b1 : pos n.Arcs k true ≠ rv c j := fun e3 => by rw [q5] at e3; have := (Ke r.he hk hk e e e3).2; cases this
      rw [if_neg b1, if_pos hp, if_pos rfl, hp]; rfl
    ·
     have b1 : pos n.Arcs k true ≠ rv c j := fun e3 => by rw [q5] at e3; exact e2 (Ke r.he hk hi e hne e3).1
     have b2 : pos n.Arcs k true ≠ j := fun e3 => by rw [← hp] at e3; exact e2 (Ke r.he hk hi e hne e3).1
     rw [if_neg b1, if_neg b2, if_neg e2, Int.add_zero]
theorem s_move {p : Pre} {j : Nat} {d : Int} (r : Row n m L c) (h : ResOK n m L c p.Res p.Ex) (hj : j < L) (d0 : 0 ≤ d) (d1 : d ≤ p.Res.getD j 0) : Z01 c p (j : Nat) d = some ⟨mvR c p.Res j d, mvX c p.Ex j d, p.H⟩ := by
 refine Kn ?_
 obtain ⟨-, lh, lr, -, -, -⟩ := r.lens
 have h1 := r.head hj
 have h2 := r.rev hj
 have h3 := r.tlh hj
 have h4 := r.head h2.2.1
 have hlr := h.lr
 have hlx := h.lx
 have hm := h.move r hj d0 d1
 have b1 := h.bnd r h3.1
 have b2 := hm.bnd r h1.2
 have b3 := h.rle r hj
 have b4 := hm.rle r h2.2.1
 have b5 := h.rle r h2.2.1
 rw [Z2k r hlx hj, if_neg h3.2.2.2, if_pos rfl] at b2
 rw [Rl r hlr hj, if_pos rfl] at b4
 have e1 : (p.Res.set j (p.Res.getD j 0 - d)).getD (rv c j) 0 = p.Res.getD (rv c j) 0 := Uo fun e => h2.2.2.2 e.symm
 have e2 : (p.Ex.set (tl c j) (p.Ex.getD (tl c j) 0 - d)).getD (hd c j) 0 = p.Ex.getD (hd c j) 0 := Uo h3.2.2.2
 have e3 : c.Head.getD (rv c j) 0 = (tl c j : Nat) := h4.1
 unfold Z01
 simp only [Int.toNat_natCast, h1.1, h2.1, e3, e1, e2, List.length_set, hlr, hlx, lh, lr]
 have i1 : inb (j : Int) L := by constructor <;> omega
 have i2 : inb ((rv c j : Nat) : Int) L := by constructor <;> omega
 have i3 : inb ((tl c j : Nat) : Int) m := by constructor <;> omega
 have i4 : inb ((hd c j : Nat) : Int) m := by constructor <;> omega
 have o1 : i64ok (p.Res.getD j 0 - d) := by constructor <;> omega
 have o2 : i64ok (p.Res.getD (rv c j) 0 + d) := by constructor <;> omega
 have o3 : i64ok (p.Ex.getD (tl c j) 0 - d) := by constructor <;> omega
 have o4 : i64ok (p.Ex.getD (hd c j) 0 + d) := by constructor <;> omega
 refine Ok.gd.2 ⟨i1, Ok.gd.2 ⟨i2, Ok.gd.2 ⟨i1, Ok.gd.2 ⟨o1, Ok.gd.2 ⟨i1, Ok.gd.2 ⟨i1, Ok.gd.2 ⟨i2, Ok.gd.2 ⟨o2, Ok.gd.2 ⟨i2, Ok.gd.2 ⟨i3, Ok.gd.2 ⟨o3, Ok.gd.2 ⟨i3, Ok.gd.2 ⟨i1, Ok.gd.2 ⟨i4, Ok.gd.2 ⟨o4, Ok.gd.2 ⟨i4, Ok.some.2 rfl⟩⟩⟩⟩⟩⟩⟩⟩⟩⟩⟩⟩⟩⟩⟩⟩
theorem Z81 {xs : List Int} (h : xs.length ≤ 1000000000) : Rd xs = some xs := by
 refine Kn ?_
 unfold Rd
 exact Ok.gd.2 ⟨by constructor <;> omega, Ok.some.2 rfl⟩
end row
end Go.Acq
namespace Go.Acq
open Go
section row
variable {n : Net} {m L : Nat} {c : Csr}
theorem Z6u {g h : Nat → Int} : ∀ {k : Nat}, (∀ i, i < k → -h i ≤ g i ∧ g i ≤ h i) → -Yr h k ≤ Yr g k ∧ Yr g k ≤ Yr h k
 | 0, _ => by simp [Yr]
 | k + 1, e => by
  have := Z6u (k := k) fun i hi => e i (by omega)
  have := e k (by omega)
  simp only [Yr]; omega
theorem Z8t {a b : List Int} (h : lenok a.length) : Z10 a b = some (decide (a = b)) := by
 refine Kn ?_
 unfold Z10
 refine Ok.ite.2 ⟨fun hl => Ok.some.2 (decide_eq_false ?_).symm, fun hl => ?_⟩
 · rintro rfl; exact hl rfl
 ·
  refine Ok.bind.2 (Ok.loop (fun x => 0 ≤ x ∧ x ≤ a.length ∧ ∀ i, i < x.toNat → a.getD i 0 = b.getD i 0) (fun x => (a.length - x).toNat) ⟨by omega, by omega, fun i hi => by omega⟩ (by unfold Yz; omega) ?_)
  rintro x ⟨h0, h1, h2⟩
  unfold Z0k
  refine Ok.ite.2 ⟨fun hx => ?_, fun hx => ?_⟩
  ·
   refine Ok.gd.2 ⟨(by omega), Ok.gd.2 ⟨(by omega), Ok.ite.2 ⟨fun hne => ?_, fun hne => ?_⟩⟩⟩
   ·
    refine Ok.some.2 (Ok.some.2 (decide_eq_false ?_).symm)
    rintro rfl; exact hne rfl
   ·
    refine Ok.gd.2 ⟨(by omega), Ok.some.2 ⟨⟨by omega, by omega, fun i hi => ?_⟩, by omega⟩⟩
    rcases Nat.lt_or_ge i x.toNat with h3 | h3
    · exact h2 i h3
    · rw [show i = x.toNat by omega]; exact Classical.not_not.1 hne
  ·
   refine Ok.some.2 ?_
   unfold Z1t
   exact Ok.some.2 (decide_eq_true (Zal 0 (by omega) (fun i hi => h2 i (by omega)))).symm
def HeightsP (n : Net) (m : Nat) (h : List Int) : Prop := h.length = m ∧ (∀ s : Nat, n.S = s → h.getD s 0 = m) ∧ (∀ t : Nat, n.T = t → h.getD t 0 = 0) ∧ ∀ v, v < m → 0 ≤ h.getD v 0 ∧ h.getD v 0 < 2 * m
structure PreOK (n : Net) (m L : Nat) (c : Csr) (p : Pre) : Prop where
  ok : ResOK n m L c p.Res p.Ex
  nn : ∀ v, v < m → (v : Int) ≠ n.S → 0 ≤ p.Ex.getD v 0
  hs : HeightsP n m p.H
  val : ∀ j, j < L → 0 < p.Res.getD j 0 → p.H.getD (tl c j) 0 ≤ p.H.getD (hd c j) 0 + 1
structure PreLen (p : Pre) : Prop where
  r : lenok p.Res.length
  x : lenok p.Ex.length
  h : lenok p.H.length
theorem PreOK.len {p : Pre} (h : PreOK n m L c p) (r : Row n m L c) : PreLen p := by
 have := r.bd
 have h1 := h.ok.lr
 have h2 := h.ok.lx
 have h3 := h.hs.1
 exact ⟨by omega, by omega, by omega⟩
end row
end Go.Acq
namespace Go.Acq
open Go
def Vq (n : Net) (X : List Int) (u : Nat) : Prop := (u : Int) ≠ n.S ∧ (u : Int) ≠ n.T ∧ 0 < X.getD u 0
instance (n : Net) (X : List Int) (u : Nat) : Decidable (Vq n X u) := by unfold Vq; infer_instance
def Vd (c : Csr) (p : Pre) (u j : Nat) : Prop := 0 < p.Res.getD j 0 ∧ p.H.getD u 0 = p.H.getD (hd c j) 0 + 1
instance (c : Csr) (p : Pre) (u j : Nat) : Decidable (Vd c p u j) := by unfold Vd; infer_instance
def Gk (n : Net) (c : Csr) (p : Pre) (u : Nat) : Prop := Vq n p.Ex u ∧ ∀ j, fs c u ≤ j → j < fs c (u + 1) → ¬Vd c p u j
instance (n : Net) (c : Csr) (p : Pre) (u : Nat) : Decidable (Gk n c p u) :=
  if h : Vq n p.Ex u ∧ ∀ j, j < fs c (u + 1) → fs c u ≤ j → ¬Vd c p u j then .isTrue ⟨h.1, fun j a b => h.2 j b a⟩ else .isFalse fun g => h ⟨g.1, fun j a b => g.2 j b a⟩
def Vm (p : Nat → Bool) : Nat → List Int
  | 0 => []
  | k + 1 => Vm p k ++ (if p k = true then [(k : Int)] else [])
theorem Z4q (p : Nat → Bool) : ∀ k, (Vm p k).length ≤ k
 | 0 => Nat.le_refl _
 | k + 1 => by
  have := Z4q p k
  simp only [Vm, List.length_append]
  split <;> simp <;> omega
section row
variable {n : Net} {m L : Nat} {c : Csr}
theorem Z7e {p : Pre} {u : Nat} (r : Row n m L c) (lx : p.Ex.length = m) (hu : u < m) : Z23 c p (u : Nat) = some (decide (Vq n p.Ex u)) := by
 have h2 := r.is.hS
 have h3 := r.is.hT
 unfold Z23 Vq
 rw [h2, h3]
 by_cases a : (u : Int) ≠ n.S
 ·
  by_cases b : (u : Int) ≠ n.T
  · rw [if_pos a, if_pos b, Vw (by constructor <;> omega), Int.toNat_natCast]; simp [a, b]
  · rw [if_pos a, if_neg b]; simp [b]
 · rw [if_neg a]; simp [a]
def HtB (m : Nat) (h : List Int) : Prop := h.length = m ∧ ∀ v, v < m → -1000000 ≤ h.getD v 0 ∧ h.getD v 0 ≤ 1000000
theorem HeightsP.hb {h : List Int} (r : Row n m L c) (hh : HeightsP n m h) : HtB m h := ⟨hh.1, fun v hv => by have := hh.2.2.2 v hv; have := r.bd; omega⟩
theorem Z5l {p : Pre} {u j : Nat} (r : Row n m L c) (lr : p.Res.length = L) (hb : HtB m p.H) (hu : u < m) (hj : j < L) : Z2j c p (u : Nat) (j : Nat) = some (decide (Vd c p u j)) := by
 have g1 := r.head hj
 have g2 := hb.2 _ g1.2
 have := hb.1
 have := r.lens.2.1
 unfold Z2j Vd
 simp only [Int.toNat_natCast, g1.1]
 rw [Vw (by constructor <;> omega)]
 by_cases h : 0 < p.Res.getD j 0
 ·
  rw [if_pos h, Vw (by constructor <;> omega), Vw (by constructor <;> omega), Vw (by constructor <;> omega), Vw (by constructor <;> omega)]
  exact congrArg some (decide_eq_decide.2 ⟨fun e => ⟨h, e⟩, fun e => e.2⟩)
 ·
  rw [if_neg h]
  exact congrArg some (decide_eq_false fun e => h e.1).symm
theorem s_stuck {p : Pre} {u : Nat} (r : Row n m L c) (lr : p.Res.length = L) (lx : p.Ex.length = m) (hb : HtB m p.H) (hu : u < m) : Ok (Z3w c p (u : Nat)) (fun b => b = decide (Gk n c p u)) := by
 have hfl := r.first.2.2.2 u hu
 unfold Z3w Na
 refine Ok.bind.2 (Ok.some.2 (Ok.bind.2 (Ok.mono (Z3p r hu (fun j _ => ∀ i, fs c u ≤ i → i < j → ¬Vd c p u i) (fun _ => ∃ j, fs c u ≤ j ∧ j < fs c (u + 1) ∧ Vd c p u j) (fun i h1 h2 => by omega) fun j s h1 h2 h3 => ?_) ?_)))
 ·
  unfold Z7a
  refine Ok.bind.2 (Xm (Z5l r lr hb hu (by omega)) (Ok.ite.2 ⟨fun h => Ok.some.2 ⟨j, h1, h2, of_decide_eq_true h⟩, fun h => Ok.some.2 fun i h4 h5 => ?_⟩))
  rcases Nat.lt_or_ge i j with h6 | h6
  · exact h3 i h4 h6
  · rw [show i = j by omega]; exact fun h7 => h (decide_eq_true h7)
 ·
  rintro (s | x) h
  ·
   refine Ok.bind.2 (Xm (Z7e r lx hu) (Ok.some.2 ?_))
   rw [Bool.eq_iff_iff, decide_eq_true_iff, decide_eq_true_iff]
   exact ⟨fun h1 => ⟨h1, h⟩, fun h1 => h1.1⟩
  ·
   obtain ⟨j, h1, h2, h3⟩ := h
   exact Ok.some.2 (decide_eq_false fun h4 => h4.2 j h1 h2 h3).symm
theorem s_all {p : Nat → Bool} {step : List Int → Int → Option ((List Int × Int) ⊕ List Int)} (hm : m ≤ 4096)
    (hs : ∀ (o : List Int) (k : Nat), k ≤ m → o.length ≤ k → step o k = if k < m then (if p k = true then some (.inl (o ++ [(k : Int)], (k : Int) + 1)) else some (.inl (o, (k : Int) + 1))) else some (.inr o)) : Ok (Xl (fun s => step s.1 s.2) Yz ([], 0)) (fun o => o = Vm p m) := by
  refine Kq (fun s => ∃ k : Nat, s.2 = k ∧ k ≤ m ∧ s.1 = Vm p k) (fun s => (m - s.2).toNat) ⟨0, rfl, by omega, rfl⟩ (by unfold Yz; simp only; omega) ?_
  rintro ⟨o, x⟩ ⟨k, h1, hk, ho⟩ P next exit
  simp only at h1 ho next ⊢
  subst h1; subst ho
  rw [hs _ k hk (Z4q p k)]
  refine Ok.ite.2 ⟨fun hx => Ok.ite.2 ⟨fun h => Ok.some.2 (next _ ⟨k + 1, by simp, by omega, by simp only [Vm]; rw [if_pos h]⟩ (by simp only; omega)), fun h => Ok.some.2 (next _ ⟨k + 1, by simp, by omega, by simp only [Vm]; rw [if_neg h, List.append_nil]⟩ (by simp only; omega))⟩, fun hx => Ok.some.2 (exit _ (by rw [show k = m by omega]))⟩
theorem s_May {p : Pre} (r : Row n m L c) (lr : p.Res.length = L) (lx : p.Ex.length = m) (hb : HtB m p.H) : Z4w c p = some (Vm (fun j => decide (Vq n p.Ex (tl c j) ∧ Vd c p (tl c j) j)) L, Vm (fun u => decide (Gk n c p u)) m) := by
 have b := r.bd
 have hN := r.is.hN
 refine Kn ?_
 unfold Z4w
 refine Ok.bind.2 (Kq (fun s => ∃ k : Nat, s.2 = k ∧ k ≤ m ∧ s.1 = Vm (fun j => decide (Vq n p.Ex (tl c j) ∧ Vd c p (tl c j) j)) (fs c k)) (fun s => (m - s.2).toNat) ⟨0, rfl, by omega, by rw [r.first.2.1]; rfl⟩ (by unfold Yz; simp only; omega) ?_)
 rintro ⟨o, x⟩ ⟨k, h1, hk, ho⟩ P next exit
 simp only at h1 ho next ⊢
 subst h1
 unfold Z6e
 rw [hN]
 refine Ok.ite.2 ⟨fun hx => ?_, fun hx => Ok.some.2 (exit _ ?_)⟩
 ·
  have hkm : k < m := by omega
  have hfl := r.first.2.2.2 k hkm
  unfold Na
  refine Ok.bind.2 (Ok.some.2 (Ok.bind.2 (Ok.mono (Z3p r hkm (fun j s => s = Vm (fun j => decide (Vq n p.Ex (tl c j) ∧ Vd c p (tl c j) j)) j) (fun _ => False) ho fun j s g1 g2 g3 => ?_) ?_)))
  ·
   have hjL : j < L := by omega
   have ht := (r.range hjL hkm).1 ⟨g1, g2⟩
   subst g3
   have hle := Z4q (fun j => decide (Vq n p.Ex (tl c j) ∧ Vd c p (tl c j) j)) j
   have j3 : ∀ (b : Bool) (P : List Int ⊕ Empty → Prop), (P (.inl (Vm (fun j => decide (Vq n p.Ex (tl c j) ∧ Vd c p (tl c j) j)) (j + 1)))) → (b = true ↔ (Vq n p.Ex k ∧ Vd c p k j)) → Ok (Z2z (Vm (fun j => decide (Vq n p.Ex (tl c j) ∧ Vd c p (tl c j) j)) j) (j : Nat) b) P := by
    intro b P hP hb
    unfold Z2z
    have e : decide (Vq n p.Ex (tl c j) ∧ Vd c p (tl c j) j) = b := by rw [ht, Bool.eq_iff_iff, decide_eq_true_iff]; exact hb.symm
    refine Ok.ite.2 ⟨fun h => Ok.gd.2 ⟨?_, Ok.some.2 ?_⟩, fun h => Ok.some.2 ?_⟩
    · rw [List.length_append, List.length_singleton]; constructor <;> omega
    · simp only [Vm] at hP; rw [if_pos (e.trans h)] at hP; exact hP
    · simp only [Vm] at hP; rw [if_neg (by rw [e]; exact h), List.append_nil] at hP; exact hP
   unfold Z68
   refine Ok.bind.2 (Xm (Z7e r lx hkm) (Ok.ite.2 ⟨fun h => Ok.bind.2 (Xm (Z5l r lr hb hkm hjL) (j3 _ _ rfl ?_)), fun h => j3 false _ rfl ⟨fun h2 => (by cases h2), fun h2 => absurd (decide_eq_true h2.1) h⟩⟩))
   rw [decide_eq_true_iff]
   exact ⟨fun h2 => ⟨of_decide_eq_true h, h2⟩, fun h2 => h2.2⟩
  ·
   rintro (s | x) h
   · exact Ok.gd.2 ⟨(by omega), Ok.some.2 (next _ ⟨k + 1, by simp, by omega, h⟩ (by simp only; omega))⟩
   · exact h.elim
 ·
  obtain rfl : k = m := by omega
  unfold Z7c Z75
  refine Ok.bind.2 (Ok.bind.2 (Ok.mono (s_all (m := k) (p := fun u => decide (Gk n c p u)) (step := fun o x => Z4v c c p o x) (by omega) fun o q hq hol => ?_) fun o2 ho2 => ?_))
  ·
   unfold Z4v Z5h
   rw [hN]
   by_cases h : q < k
   ·
    obtain ⟨b, hb1, hb2⟩ := s_stuck r lr lx hb h
    rw [if_pos (by omega), if_pos h, hb1]
    simp only [Option.bind_some]
    rw [hb2]
    by_cases h2 : decide (Gk n c p q) = true
    · rw [if_pos h2, if_pos h2, Vw (by rw [List.length_append, List.length_singleton]; constructor <;> omega), Vw (by constructor <;> omega)]
    · rw [if_neg h2, if_neg h2, Vw (by constructor <;> omega)]
   · rw [if_neg (by omega), if_neg h]
  ·
   unfold Z5f
   refine Ok.some.2 (Ok.some.2 ?_)
   rw [ho, r.first.2.2.1, ho2]
def pushD (c : Csr) (p : Pre) (j : Nat) : Int := min (p.Ex.getD (tl c j) 0) (p.Res.getD j 0)
def pushP (c : Csr) (p : Pre) (j : Nat) : Pre := ⟨mvR c p.Res j (pushD c p j), mvX c p.Ex j (pushD c p j), p.H⟩
theorem PreOK.push {p : Pre} {j : Nat} (h : PreOK n m L c p) (r : Row n m L c) (hj : j < L) (hA : Vq n p.Ex (tl c j)) (hB : Vd c p (tl c j) j) : PreOK n m L c (pushP c p j) := by
 have h1 := hA.2.2
 have h2 := hB.1
 have hD : pushD c p j = min (p.Ex.getD (tl c j) 0) (p.Res.getD j 0) := rfl
 have hlr := h.ok.lr
 have hlx := h.ok.lx
 have ht := r.tlh hj
 have hr := r.rev hj
 refine ⟨h.ok.move r hj (by omega) (by omega), fun v hv hvS => ?_, h.hs, fun k hk h0 => ?_⟩
 ·
  have := h.nn v hv hvS
  simp only [pushP]
  rw [Z2k r hlx hj]
  by_cases c1 : tl c j = v
  ·
   subst c1
   rw [if_pos rfl, if_neg fun e => ht.2.2.2 e.symm]; omega
  · rw [if_neg c1]; split <;> omega
 ·
  simp only [pushP] at h0 ⊢
  rw [Rl r hlr hj] at h0
  by_cases c1 : k = rv c j
  ·
   subst c1
   rw [ht.2.1, ht.2.2.1]
   have := hB.2
   omega
  ·
   rw [if_neg c1] at h0
   by_cases c2 : k = j
   · subst c2; exact h.val k hk h2
   · rw [if_neg c2] at h0; exact h.val k hk h0
def Ji (c : Csr) (p : Pre) (m : Nat) (a : Nat) : Nat → Int
  | 0 => 2 * m
  | k + 1 => if 0 < p.Res.getD (a + k) 0 then min (Ji c p m a k) (p.H.getD (hd c (a + k)) 0) else Ji c p m a k
def Kd (c : Csr) (p : Pre) (m u : Nat) : Int := Ji c p m (fs c u) (fs c (u + 1) - fs c u)
def Ra (c : Csr) (p : Pre) (m u : Nat) : Pre := ⟨p.Res, p.Ex, p.H.set u (Kd c p m u + 1)⟩
theorem Z63 {p : Pre} {a : Nat} : ∀ {k i : Nat}, i < k → 0 < p.Res.getD (a + i) 0 → Ji c p m a k ≤ p.H.getD (hd c (a + i)) 0
 | 0, _, h, _ => by omega
 | k + 1, i, h, h0 => by
  simp only [Ji]
  rcases Nat.lt_or_ge i k with h1 | h1
  ·
   have := Z63 h1 h0
   split <;> omega
  ·
   have : i = k := by omega
   subst this
   rw [if_pos h0]; omega
theorem Z6i (p : Pre) (a : Nat) : ∀ k : Nat, Ji c p m a k ≤ 2 * m ∧ (Ji c p m a k = 2 * m ∨ ∃ i, i < k ∧ 0 < p.Res.getD (a + i) 0 ∧ p.H.getD (hd c (a + i)) 0 = Ji c p m a k)
 | 0 => ⟨Int.le_refl _, .inl rfl⟩
 | k + 1 => by
  obtain ⟨h1, h2⟩ := Z6i p a k
  simp only [Ji]
  by_cases h : 0 < p.Res.getD (a + k) 0
  ·
   rw [if_pos h]
   refine ⟨by omega, ?_⟩
   by_cases h3 : p.H.getD (hd c (a + k)) 0 ≤ Ji c p m a k
   · exact .inr ⟨k, by omega, h, by omega⟩
   ·
    rcases h2 with h2 | ⟨i, g1, g2, g3⟩
    · exact .inl (by omega)
    · exact .inr ⟨i, by omega, g2, by omega⟩
  ·
   rw [if_neg h]
   refine ⟨h1, ?_⟩
   rcases h2 with h2 | ⟨i, g1, g2, g3⟩
   · exact .inl h2
   · exact .inr ⟨i, by omega, g2, g3⟩
theorem lowV_le {p : Pre} {u j : Nat} (r : Row n m L c) (hu : u < m) (hj : j < L) (ht : tl c j = u) (h0 : 0 < p.Res.getD j 0) : Kd c p m u ≤ p.H.getD (hd c j) 0 := by
 have h1 := (r.range hj hu).2 ht
 have e : fs c u + (j - fs c u) = j := by omega
 have := Z63 (c := c) (m := m) (p := p) (a := fs c u) (k := fs c (u + 1) - fs c u) (i := j - fs c u) (by omega) (by rw [e]; exact h0)
 rw [e] at this; exact this
theorem lowV_at (p : Pre) {u : Nat} (r : Row n m L c) (hu : u < m) : Kd c p m u ≤ 2 * m ∧ (Kd c p m u = 2 * m ∨ ∃ j, j < L ∧ tl c j = u ∧ 0 < p.Res.getD j 0 ∧ p.H.getD (hd c j) 0 = Kd c p m u) := by
 have hfl := r.first.2.2.2 u hu
 obtain ⟨h1, h2⟩ := Z6i (c := c) (m := m) p (fs c u) (fs c (u + 1) - fs c u)
 refine ⟨h1, ?_⟩
 rcases h2 with h2 | ⟨i, g1, g2, g3⟩
 · exact .inl h2
 · exact .inr ⟨fs c u + i, by omega, (r.range (by omega) hu).1 ⟨by omega, by omega⟩, g2, g3⟩
def OpenJ (c : Csr) (L : Nat) (R : List Int) (u v : Nat) : Prop := ∃ j, j < L ∧ tl c j = u ∧ hd c j = v ∧ 0 < R.getD j 0
theorem OpenJ.lt {R : List Int} (r : Row n m L c) {u v : Nat} (h : OpenJ c L R u v) : u < m ∧ v < m := by
 obtain ⟨j, h1, h2, h3, _⟩ := h
 exact ⟨by rw [← h2]; exact (r.tlh h1).1, by rw [← h3]; exact (r.head h1).2⟩
theorem Zao {H : Nat → Int} {G : Nat → Nat → Prop} (hG : ∀ u v, G u v → H u ≤ H v + 1) {u v : Nat} (hr : Reach G u v) : ∀ k : Int, H v ≤ k → k ≤ H u → ∃ w, Reach G u w ∧ H w = k := by
 induction hr with
 | refl => intro k h1 h2; exact ⟨u, .refl, by omega⟩
 | step h1 h2 ih =>
  rename_i x y
  intro k h3 h4
  by_cases c : H x ≤ k
  · exact ih k c h4
  ·
   have := hG _ _ h2
   exact ⟨y, .step h1 h2, by omega⟩
theorem pigeon : ∀ (m : Nat) (f : Nat → Nat), (∀ k, k ≤ m → f k < m) → ∃ i j, i < j ∧ j ≤ m ∧ f i = f j
 | 0, f, h => absurd (h 0 (Nat.le_refl _)) (by omega)
 | m + 1, f, h => by
  by_cases e : ∃ i, i ≤ m ∧ f i = f (m + 1)
  ·
   obtain ⟨i, h1, h2⟩ := e
   exact ⟨i, m + 1, by omega, by omega, h2⟩
  ·
   have ne : ∀ i, i ≤ m → f i ≠ f (m + 1) := fun i hi h2 => e ⟨i, hi, h2⟩
   obtain ⟨i, j, h1, h2, h3⟩ := pigeon m (fun k => if f (m + 1) < f k then f k - 1 else f k) fun k hk => by
    have a := h k (by omega)
    have a2 := h (m + 1) (by omega)
    have a3 := ne k hk
    split <;> omega
   have a1 := ne i (by omega)
   have a2 := ne j (by omega)
   refine ⟨i, j, h1, by omega, ?_⟩
   split at h3 <;> split at h3 <;> omega
theorem Zb4 {H : Nat → Int} {a : Int} (h : ∀ k : Nat, k ≤ m → ∃ w, w < m ∧ H w = a + k) : False := by
 have : ∀ k : Nat, ∃ w, k ≤ m → w < m ∧ H w = a + k := fun k => by
  by_cases c : k ≤ m
  · obtain ⟨w, hw⟩ := h k c; exact ⟨w, fun _ => hw⟩
  · exact ⟨0, fun h => absurd h c⟩
 obtain ⟨f, hf⟩ := Classical.axiomOfChoice this
 obtain ⟨i, j, h1, h2, h3⟩ := pigeon m f fun k hk => (hf k hk).1
 have a1 := (hf i (by omega)).2
 have a2 := (hf j h2).2
 rw [h3] at a1
 omega
theorem reach_lt {R : List Int} (r : Row n m L c) {u v : Nat} (hu : u < m) (h : Reach (OpenJ c L R) u v) : v < m := by
 induction h with
 | refl => exact hu
 | step _ h2 _ => exact (h2.lt r).2
theorem Za6 {R X : List Int} {S u : Nat} (r : Row n m L c) (h : ResOK n m L c R X) (hS : n.S = S) (nn : ∀ v, v < m → v ≠ S → 0 ≤ X.getD v 0) (hu : u < m) (hx : 0 < X.getD u 0) : Reach (OpenJ c L R) u S := by
 refine Classical.byContradiction fun hno => ?_
 let q : Nat → Bool := fun v => @decide (¬Reach (OpenJ c L R) u v) (Classical.propDecidable _)
 have hq : ∀ v, q v = true ↔ ¬Reach (OpenJ c L R) u v := fun v => @decide_eq_true_iff _ (Classical.propDecidable _)
 obtain ⟨cl, hcl⟩ : ∃ cl : List Bool, cl = (List.range m).map q := ⟨_, rfl⟩
 have inc : ∀ v : Nat, v < m → (Ww cl v = true ↔ ¬Reach (OpenJ c L R) u v) := fun v hv => by
  unfold Ww
  rw [hcl, Int.toNat_natCast, List.getD_eq_getElem?_getD, List.getElem?_map, List.getElem?_range hv]
  exact hq v
 have inf : ∀ v : Nat, v < m → (Ww cl v = false ↔ Reach (OpenJ c L R) u v) := fun v hv => by
  rw [Bool.eq_false_iff, ne_eq, inc v hv]; exact Classical.not_not
 have he := r.he
 have hw := h.within r
 have hac : ∀ k, k ≤ n.Arcs.length → acK n.Arcs (Vy n.Arcs R) cl k ≤ 0 := by
  intro k
  induction k with
  | zero => intro _; simp [acK]
  | succ k ih =>
   intro hk
   have h0 := he k hk false
   have h1 := he k hk true
   simp only [Yk, Bool.false_eq_true, if_false, if_true] at h0 h1
   have hf := (hw.2.2 k hk).1
   have ih := ih (by omega)
   simp only [acK]
   by_cases c1 : Ww cl (n.Arcs.getD k default).fr = true ∧ Ww cl (n.Arcs.getD k default).to = false
   ·
    have hz : (Vy n.Arcs R).getD k 0 = 0 := by
     rw [Lm hk]
     by_cases e : (n.Arcs.getD k default).fr = (n.Arcs.getD k default).to
     · rw [if_pos e]
     ·
      rw [if_neg e]
      obtain ⟨-, a2, a3⟩ := r.cpPos hk e true
      have z := r.is.ok.hat k hk e true
      have z2 := r.is.ok.hat k hk e false
      have nnR := (h.res _ a3).1
      refine Int.le_antisymm (Int.not_lt.1 fun hpos => ?_) nnR
      obtain ⟨p, hp⟩ : ∃ p : Nat, (n.Arcs.getD k default).fr = p := ⟨(n.Arcs.getD k default).fr.toNat, by omega⟩
      obtain ⟨t, ht⟩ : ∃ t : Nat, (n.Arcs.getD k default).to = t := ⟨(n.Arcs.getD k default).to.toNat, by omega⟩
      rw [hp, ht] at c1
      have r1 := (inf t (by omega)).1 c1.2
      refine (inc p (by omega)).1 c1.1 (.step r1 ⟨_, a3, ?_, ?_, hpos⟩)
      · unfold tl hd; rw [a2]; simp only [Bool.not_true]; rw [z2.1]; simp only [Yk, Bool.not_false, if_true, ht]; omega
      · unfold hd; rw [z.1]; simp only [Yk, Bool.not_true, Bool.false_eq_true, if_false, hp]; omega
    rw [if_pos c1, hz]; split <;> omega
   · rw [if_neg c1]; split <;> omega
 have hpc : ∀ j, j ≤ m → 0 ≤ Kx n.Arcs (Vy n.Arcs R) cl j n.Arcs.length ∧ (u < j → 0 < Kx n.Arcs (Vy n.Arcs R) cl j n.Arcs.length) := by
  intro j
  induction j with
  | zero => intro _; rw [show ((0 : Nat) : Int) = 0 from rfl, Z5i he _ (Nat.le_refl _)]; exact ⟨Int.le_refl _, fun h => by omega⟩
  | succ j ih =>
   intro hj
   obtain ⟨i1, i2⟩ := ih (by omega)
   rw [Int.natCast_succ, Z6n]
   by_cases c1 : Ww cl j = false
   ·
    rw [if_pos c1, ← h.ex j (by omega)]
    have hjS : j ≠ S := fun e => hno (by rw [← e]; exact (inf j (by omega)).1 c1)
    have := nn j (by omega) hjS
    refine ⟨by omega, fun hlt => ?_⟩
    by_cases e : u = j
    · subst e; omega
    · have := i2 (by omega); omega
   ·
    rw [if_neg c1]
    refine ⟨by omega, fun hlt => ?_⟩
    by_cases e : u = j
    · subst e; exact absurd ((inf u hu).2 .refl) c1
    · have := i2 (by omega); omega
 have := (hpc m (Nat.le_refl _)).2 hu
 rw [Z5j he _ (Nat.le_refl _)] at this
 have := hac _ (Nat.le_refl _)
 omega
theorem Z82 {R : List Int} {H : Nat → Int} {S u : Nat} (r : Row n m L c) (hu : u < m) (hval : ∀ j, j < L → 0 < R.getD j 0 → H (tl c j) ≤ H (hd c j) + 1) (hHS : H S = m) (hr : Reach (OpenJ c L R) u S) : H u < 2 * m := by
 refine Int.not_le.1 fun hge => ?_
 refine Zb4 (m := m) (H := H) (a := m) fun k hk => ?_
 obtain ⟨w, h1, h2⟩ := Zao (H := H) (G := OpenJ c L R) (fun a b ⟨j, g1, g2, g3, g4⟩ => by rw [← g2, ← g3]; exact hval j g1 g4) hr (m + k) (by omega) (by omega)
 exact ⟨w, reach_lt r hu h1, h2⟩
theorem PreOK.lift {p : Pre} {u : Nat} (h : PreOK n m L c p) (r : Row n m L c) (hu : u < m) (hS : Gk n c p u) : PreOK n m L c (Ra c p m u) ∧ p.H.getD u 0 ≤ Kd c p m u := by
 obtain ⟨⟨S, hnS, -, hSm⟩, ⟨T, hnT, -, hTm⟩, -, -⟩ := r.ends
 have lh := h.hs.1
 obtain ⟨⟨hA1, hA2, hA3⟩, hB⟩ := hS
 have huS : u ≠ S := by omega
 have huT : u ≠ T := by omega
 have hlow : p.H.getD u 0 ≤ Kd c p m u := by
  have h2 := h.hs.2.2.2 u hu
  rcases (lowV_at p r hu).2 with h1 | ⟨j, h1, h3, h4, h5⟩
  · omega
  ·
   have h6 := h.val j h1 h4
   rw [h3] at h6
   have h7 := (r.range h1 hu).2 h3
   have h8 := hB j h7.1 h7.2
   have : p.H.getD u 0 ≠ p.H.getD (hd c j) 0 + 1 := fun e => h8 ⟨h4, e⟩
   omega
 have hHu : ∀ v, (p.H.set u (Kd c p m u + 1)).getD v 0 = if v = u then Kd c p m u + 1 else p.H.getD v 0 := fun v => by
  rw [Vc]
  by_cases e : v = u
  · rw [if_pos ⟨e.symm, by omega⟩, if_pos e]
  · rw [if_neg fun h => e h.1.symm, if_neg e]
 have hval : ∀ j, j < L → 0 < p.Res.getD j 0 → (p.H.set u (Kd c p m u + 1)).getD (tl c j) 0 ≤ (p.H.set u (Kd c p m u + 1)).getD (hd c j) 0 + 1 := fun j hj h0 => by
  have ht := r.tlh hj
  rw [hHu, hHu]
  by_cases c1 : tl c j = u
  ·
   have := lowV_le r hu hj c1 h0
   rw [if_pos c1, if_neg fun e => ht.2.2.2 (c1.trans e.symm)]; omega
  ·
   rw [if_neg c1]
   have := h.val j hj h0
   by_cases c2 : hd c j = u
   · rw [if_pos c2]; rw [c2] at this; omega
   · rw [if_neg c2]; exact this
 have hreach := Za6 r h.ok hnS (fun v hv hvS => h.nn v hv (by omega)) hu hA3
 have hbound := Z82 (H := fun v => (p.H.set u (Kd c p m u + 1)).getD v 0) r hu hval (by simp only [hHu]; rw [if_neg fun e => huS e.symm]; exact h.hs.2.1 S hnS) hreach
 simp only [hHu, if_true] at hbound
 refine ⟨⟨h.ok, h.nn, ⟨by simp [Ra, lh], fun s hs => ?_, fun t ht => ?_, fun v hv => ?_⟩, hval⟩, hlow⟩
 · simp only [Ra]; rw [hHu, if_neg (by omega)]; exact h.hs.2.1 s hs
 · simp only [Ra]; rw [hHu, if_neg (by omega)]; exact h.hs.2.2.1 t ht
 ·
  have h1 := h.hs.2.2.2 v hv
  have h2 := h.hs.2.2.2 u hu
  simp only [Ra]; rw [hHu]
  by_cases e : v = u
  · rw [if_pos e]; omega
  · rw [if_neg e]; exact h1
end row
end Go.Acq
namespace Go.Acq
open Go
theorem Z70 {α : Type} {z v : α} {k i : Int} : ∀ mp : List (Int × α), Kr z i (Jh k v mp) = if i = k then v else Kr z i mp
 | [] => by simp only [Jh, Kr]
 | x :: mp => by
  simp only [Jh]
  by_cases h : k = x.1
  ·
   rw [if_pos h]; simp only [Kr]
   by_cases e : i = k
   · rw [if_pos e, if_pos e]
   · rw [if_neg e, if_neg e, if_neg (by omega)]
  ·
   rw [if_neg h]; simp only [Kr]
   by_cases e : i = x.1
   · rw [if_pos e, if_pos e, if_neg (by omega)]
   · rw [if_neg e, if_neg e, Z70 mp]
theorem Z4u {α : Type} {v : α} {k : Int} : ∀ {mp : List (Int × α)} {x : Int × α}, x ∈ Jh k v mp → x.1 = k ∨ ∃ y, y ∈ mp ∧ y.1 = x.1
 | [], x, h => by simp only [Jh, List.mem_singleton] at h; left; rw [h]
 | y :: mp, x, h => by
  simp only [Jh] at h
  by_cases e : k = y.1
  ·
   rw [if_pos e] at h
   rcases List.mem_cons.1 h with h | h
   · left; rw [h]
   · exact .inr ⟨x, List.mem_cons_of_mem _ h, rfl⟩
  ·
   rw [if_neg e] at h
   rcases List.mem_cons.1 h with h | h
   · exact .inr ⟨y, List.mem_cons_self, by rw [h]⟩
   ·
    rcases Z4u h with h | ⟨z, h1, h2⟩
    · exact .inl h
    · exact .inr ⟨z, List.mem_cons_of_mem _ h1, h2⟩
def Apart {α : Type} : List (Int × α) → Prop
  | [] => True
  | x :: mp => (∀ y, y ∈ mp → y.1 ≠ x.1) ∧ Apart mp
theorem Apart.put {α : Type} {v : α} {k : Int} : ∀ {mp : List (Int × α)}, Apart mp → Apart (Jh k v mp)
 | [], _ => ⟨fun y h => (by cases h), trivial⟩
 | x :: mp, h => by
  simp only [Jh]
  by_cases e : k = x.1
  · rw [if_pos e]; exact ⟨fun y hy => by rw [e]; exact h.1 y hy, h.2⟩
  ·
   rw [if_neg e]
   refine ⟨fun y hy => ?_, Apart.put h.2⟩
   rcases Z4u hy with h1 | ⟨z, h1, h2⟩
   · rw [h1]; exact e
   · rw [← h2]; exact h.1 z h1
theorem Apart.at {α : Type} {z : α} (d : Int × α) : ∀ {mp : List (Int × α)} {j : Nat}, Apart mp → j < mp.length → Kr z (mp.getD j d).1 mp = (mp.getD j d).2
 | [], j, _, h => by simp at h
 | x :: mp, 0, _, _ => by simp [Kr]
 | x :: mp, j + 1, h, hj => by
  have hj' : j < mp.length := by simpa using hj
  have hm := h.1 _ (Jt hj' d)
  show Kr z (mp.getD j d).1 (x :: mp) = (mp.getD j d).2
  simp only [Kr]
  rw [if_neg hm]; exact Apart.at d h.2 hj'
theorem Apart.inj {α : Type} (d : Int × α) : ∀ {mp : List (Int × α)} {i j : Nat}, Apart mp → i < mp.length → j < mp.length → (mp.getD i d).1 = (mp.getD j d).1 → i = j
 | [], i, _, _, h, _, _ => by simp at h
 | x :: mp, 0, 0, _, _, _, _ => rfl
 | x :: mp, 0, j + 1, h, _, hj, e => absurd e.symm (h.1 _ (Jt (by simpa using hj) d))
 | x :: mp, i + 1, 0, h, hi, _, e => absurd e (h.1 _ (Jt (by simpa using hi) d))
 | x :: mp, i + 1, j + 1, h, hi, hj, e => congrArg (· + 1) (Apart.inj d h.2 (by simpa using hi) (by simpa using hj) e)
def Kh (n : Net) (h : Hop) : Int := if h.Back = true then (n.Arcs.getD h.Arc.toNat default).to else (n.Arcs.getD h.Arc.toNat default).fr
def hto (n : Net) (h : Hop) : Int := if h.Back = true then (n.Arcs.getD h.Arc.toNat default).fr else (n.Arcs.getD h.Arc.toNat default).to
def hok (n : Net) (h : Hop) : Prop := 0 ≤ h.Arc ∧ h.Arc < n.Arcs.length
def cntH (l : List Hop) (i : Int) : Nat → Int
  | 0 => 0
  | k + 1 => cntH l i k + (if (l.getD k default).Arc = i then (if (l.getD k default).Back = true then -1 else 1) else 0)
structure MapIs (n : Net) (mp : List (Int × Int)) (l : List Hop) (k : Nat) : Prop where
  val : ∀ i, Kr 0 i mp = cntH l i k
  key : ∀ x, x ∈ mp → 0 ≤ x.1 ∧ x.1 < n.Arcs.length
  apart : Apart mp
theorem MapIs.put {n : Net} {mp : List (Int × Int)} {l : List Hop} {k : Nat} (h : MapIs n mp l k) (hk : hok n (l.getD k default)) {v : Int} (hv : v = cntH l (l.getD k default).Arc k + (if (l.getD k default).Back = true then -1 else 1)) : MapIs n (Jh (l.getD k default).Arc v mp) l (k + 1) := by
 refine ⟨fun i => ?_, fun x hx => ?_, h.apart.put⟩
 ·
  rw [Z70]
  simp only [cntH]
  by_cases e : i = (l.getD k default).Arc
  · rw [if_pos e, if_pos e.symm, hv, e]
  · rw [if_neg e, if_neg (fun h => e h.symm), h.val, Int.add_zero]
 ·
  rcases Z4u hx with h1 | ⟨y, h1, h2⟩
  · rw [h1]; exact hk
  · rw [← h2]; exact h.key y h1
end Go.Acq
namespace Go.Acq
open Go
def fits (n : Net) (f : List Int) (i : Nat) (c d : Int) : Prop := 0 ≤ f.getD i 0 + d * c ∧ f.getD i 0 + d * c ≤ (n.Arcs.getD i default).cap
def limit (n : Net) (f : List Int) (x : Int × Int) : Int :=
  if 0 < x.2 then ((n.Arcs.getD x.1.toNat default).cap - f.getD x.1.toNat 0).tdiv x.2 else if x.2 < 0 then (f.getD x.1.toNat 0).tdiv (-x.2) else 4611686018427387904
end Go.Acq
namespace Go.Acq
open Go
section row
variable {n : Net} {m L : Nat} {c : Csr}
theorem Z5u {al : List Arc} {f : List Int} {v : Int} : ∀ {k : Nat}, (∀ i, i < k → f.getD i 0 = 0) → ex al f v k = 0
 | 0, _ => rfl
 | k + 1, h => by simp only [ex]; rw [Z5u fun i hi => h i (by omega), h k (by omega)]; simp
theorem s_Begin (r : Row n m L c) : Ok (Z13 c) (fun p => PreOK n m L c p) := by
 have b := r.bd
 obtain ⟨⟨S, hS, hcS, hSm⟩, ⟨T, hT, hcT, hTm⟩, hne, hN⟩ := r.ends
 obtain ⟨-, -, -, lc, -, -⟩ := r.lens
 have hfl := r.first.2.2.2 S hSm
 unfold Z13
 refine Ok.bind.2 (Xm (Z81 (by omega)) ?_)
 rw [hN, hcS]
 simp only [Int.toNat_natCast]
 obtain ⟨H0, hH0⟩ : ∃ H0, (List.replicate m (0 : Int)).set S m = H0 := ⟨_, rfl⟩
 have hHl : H0.length = m := by rw [← hH0]; simp
 have hHv : ∀ v, H0.getD v 0 = if v = S then (m : Int) else 0 := fun v => by
  rw [← hH0, Vc, List.length_replicate, Ni]
  by_cases e : v = S
  · rw [if_pos ⟨e.symm, hSm⟩, if_pos e]
  · rw [if_neg fun h => e h.1.symm, if_neg e]
 rw [hH0]
 unfold Na
 refine Ok.gd.2 ⟨(by omega), Ok.gd.2 ⟨(by omega), Ok.gd.2 ⟨by rw [List.length_replicate]; constructor <;> omega, Ok.bind.2 (Ok.some.2 (Ok.bind.2 (Ok.mono (Z3p r hSm
  (fun k s => ResOK n m L c s.1 s.2 ∧ (∀ v, v < m → v ≠ S → 0 ≤ s.2.getD v 0) ∧ ∀ i, fs c S ≤ i → i < k → s.1.getD i 0 = 0) (fun _ => False) ⟨⟨lc, by simp, fun j hj => ?_, fun v hv => ?_⟩, fun v hv _ => by rw [Ni]; exact Int.le_refl _, fun i h1 h2 => by omega⟩ fun j s h1 h2 h3 => ?_) ?_)))⟩⟩⟩
 · have := r.cap hj; exact ⟨this.1, this.2.1⟩
 ·
  rw [Ni, Z5u fun i hi => ?_]
  rw [Lm hi]
  by_cases e : (n.Arcs.getD i default).fr = (n.Arcs.getD i default).to
  · rw [if_pos e]
  · rw [if_neg e, (r.is.ok.hat i hi e true).2.2.1]; rfl
 ·
  obtain ⟨xs, ys⟩ := s
  obtain ⟨g1, g2, g3⟩ := h3
  simp only at g1 g2 g3
  have hjL : j < L := by omega
  have ht := (r.range hjL hSm).1 ⟨h1, h2⟩
  have htl := r.tlh hjL
  have hrv := r.rev hjL
  have hle := g1.rle r hjL
  have hxl := g1.lr
  unfold Ls
  rw [hN, hcS]
  simp only [Int.toNat_natCast, hH0]
  refine Ok.gd.2 ⟨(by omega), Ok.bind.2 (Xm (s_move (p := ⟨xs, ys, H0⟩) r g1 hjL hle.1 (Int.le_refl _)) (Ok.some.2 ⟨g1.move r hjL hle.1 (Int.le_refl _), fun v hv hvS => ?_, fun i h4 h5 => ?_⟩))⟩
  ·
   simp only
   rw [Z2k r g1.lx hjL, ht, if_neg fun e => hvS e.symm]
   have := g2 v hv hvS
   split <;> omega
  ·
   simp only
   have hiL : i < L := by omega
   have hti := (r.range hiL hSm).1 ⟨h4, by omega⟩
   rw [Rl r hxl hjL, if_neg fun e => by rw [e, htl.2.1] at hti; exact htl.2.2.2 (ht.trans hti.symm)]
   by_cases e : i = j
   · rw [if_pos e]; omega
   · rw [if_neg e]; exact g3 i h4 (by omega)
 ·
  rintro (⟨xs, ys⟩ | x) h
  ·
   obtain ⟨g1, g2, g3⟩ := h
   simp only at g1 g2 g3
   refine Ok.some.2 ⟨g1, fun v hv hvS => g2 v hv (by omega), ⟨hHl, fun s hs => ?_, fun t ht => ?_, fun v hv => ?_⟩, fun j hj h0 => ?_⟩
   · simp only; rw [hHv, if_pos (by omega)]
   · simp only; rw [hHv, if_neg (by omega)]
   · simp only; rw [hHv]; split <;> omega
   ·
    simp only at h0 ⊢
    rw [hHv, hHv]
    by_cases e : tl c j = S
    ·
     have := (r.range hj hSm).2 e
     rw [g3 j this.1 this.2] at h0; omega
    · rw [if_neg e]; split <;> omega
  · exact h.elim
def StepP (n : Net) (m L : Nat) (c : Csr) (was p : Pre) : Prop :=
  (∃ j, j < L ∧ Vq n was.Ex (tl c j) ∧ Vd c was (tl c j) j ∧ p = pushP c was j) ∨ (∃ u, u < m ∧ Gk n c was u ∧ p = Ra c was m u)
theorem PreOK.hb {p : Pre} (h : PreOK n m L c p) (r : Row n m L c) : HtB m p.H := h.hs.hb r
theorem PreOK.step {was p : Pre} (h : PreOK n m L c was) (r : Row n m L c) (hs : StepP n m L c was p) : PreOK n m L c p := by
 rcases hs with ⟨j, h1, h2, h3, rfl⟩ | ⟨u, h1, h2, rfl⟩
 · exact h.push r h1 h2 h3
 · exact (h.lift r h1 h2).1
def arcsOf (n : Net) (L : Nat) (c : Csr) (p : Pre) : List Int := Vm (fun j => decide (Vq n p.Ex (tl c j) ∧ Vd c p (tl c j) j)) L
def vertsOf (n : Net) (m : Nat) (c : Csr) (p : Pre) : List Int := Vm (fun u => decide (Gk n c p u)) m
theorem PreOK.may {p : Pre} (h : PreOK n m L c p) (r : Row n m L c) : Z4w c p = some (arcsOf n L c p, vertsOf n m c p) := s_May r h.ok.lr h.ok.lx (h.hb r)
theorem row_of {m : Nat} (hc : CsrIs n m c) (hm : n.N = m) (hk : Uf n.N n.S n.T n.Arcs = 0) : Row n m (Yc n.Arcs m) c := ⟨hc, hk, hm, rfl⟩
end row
end Go.Acq
namespace Go.Acq
open Go
section row
variable {n : Net} {m L : Nat} {c : Csr}
def exB (c : Csr) (R : List Int) (v : Nat) (j : Nat) : Int := if bk c j = true then (if tl c j = v then R.getD j 0 else 0) - (if hd c j = v then R.getD j 0 else 0) else 0
theorem exB_all {R : List Int} (r : Row n m L c) (v : Nat) : Yr (exB c R v) L = ex n.Arcs (Vy n.Arcs R) v n.Arcs.length := by
 rw [← r.hL, Z59 r.he, Z7g]
 refine Z17 fun i hi => ?_
 rw [Lm hi]
 by_cases e : (n.Arcs.getD i default).fr = (n.Arcs.getD i default).to
 · rw [if_pos e]; simp only [if_pos e, ite_self]; rfl
 ·
  simp only [if_neg e]
  obtain ⟨-, a2, a3⟩ := r.cpPos hi e false
  obtain ⟨-, b2, b3⟩ := r.cpPos hi e true
  have za := r.is.ok.hat i hi e false
  have zb := r.is.ok.hat i hi e true
  have e0 := r.he i hi false
  have e1 := r.he i hi true
  have k1 : bk c (pos n.Arcs i false) = false := za.2.2.2.2
  have k2 : bk c (pos n.Arcs i true) = true := zb.2.2.2.2
  have k3 : (hd c (pos n.Arcs i true) = v) ↔ (n.Arcs.getD i default).fr = (v : Int) := by
   unfold hd; rw [zb.1]; simp only [Yk, Bool.not_true, if_true, Bool.false_eq_true, if_false] at e0 e1 ⊢; omega
  have k4 : (tl c (pos n.Arcs i true) = v) ↔ (n.Arcs.getD i default).to = (v : Int) := by
   unfold tl hd; rw [b2]; simp only [Bool.not_true]; rw [za.1]; simp only [Yk, Bool.not_false, if_true, Bool.false_eq_true, if_false] at e0 e1 ⊢; omega
  unfold exB
  rw [k1, k2, if_neg (by simp), if_pos rfl]
  simp only [k3, k4]
  omega
theorem capBk (r : Row n m L c) : Yr (fun j => if bk c j = true then cp c j else 0) L ≤ 4611686018427387904 := by
 have hw : FwithinP n (n.Arcs.map (·.cap)) := ⟨r.chk, by simp, fun i hi => by
  have := (r.caps i hi).1
  have e : (n.Arcs.map (·.cap)).getD i 0 = (n.Arcs.getD i default).cap := by simp [List.getD_eq_getElem?_getD, List.getElem?_map, List.getElem?_eq_getElem hi]
  rw [e]; omega⟩
 have ht := hw.tot n.Arcs.length (Nat.le_refl _)
 rw [Z6d] at ht
 rw [← r.hL, Z59 r.he]
 refine Int.le_trans (Z3r fun i hi => ?_) ht.2
 have h1 := hw.2.2 i hi
 have e : (n.Arcs.map (·.cap)).getD i 0 = (n.Arcs.getD i default).cap := by simp [List.getD_eq_getElem?_getD, List.getElem?_map, List.getElem?_eq_getElem hi]
 by_cases h : (n.Arcs.getD i default).fr = (n.Arcs.getD i default).to
 · rw [if_pos h]; omega
 ·
  rw [if_neg h]
  have k1 : bk c (pos n.Arcs i false) = false := (r.is.ok.hat i hi h false).2.2.2.2
  have k2 : bk c (pos n.Arcs i true) = true := (r.is.ok.hat i hi h true).2.2.2.2
  rw [k1, k2, if_neg (by simp), if_pos rfl, (r.cpPos hi h true).1, e]; omega
theorem exB_bd {R : List Int} (r : Row n m L c) (v : Nat) {k : Nat} (hk : k ≤ L) (h : ∀ j, j < k → 0 ≤ R.getD j 0 ∧ R.getD j 0 ≤ cp c j) : -4611686018427387904 ≤ Yr (exB c R v) k ∧ Yr (exB c R v) k ≤ 4611686018427387904 := by
 have h5 := Z6u (k := k) (g := exB c R v) (h := fun j => if bk c j = true then cp c j else 0) fun j hj => by
  have := h j hj
  simp only [exB]
  split
  · split <;> split <;> omega
  · omega
 have h6 := Z71 (g := fun j => if bk c j = true then cp c j else 0) hk fun j hj => by
  have := (r.cap hj).2.2.2.1
  split <;> omega
 have := capBk r
 omega
end row
end Go.Acq
namespace Go.Acq
open Go
theorem Z54 : ∀ k : Nat, Yr (fun _ => (1 : Int)) k = k
 | 0 => rfl
 | k + 1 => by rw [Yr, Z54 k]; simp
theorem s_room {v : Int} (h0 : 0 ≤ v) (h1 : v ≤ 4096) : Ok (Z09 v) (fun x => 1 ≤ x ∧ x ≤ 8192) := by
 unfold Z09
 refine Ok.bind.2 (Kq (fun x => 1 ≤ x ∧ x ≤ 8192) (fun x => (v - x).toNat) ⟨by omega, by omega⟩ (by unfold Yz; omega) ?_)
 rintro x ⟨h2, h3⟩ P next exit
 unfold Z1a
 refine Ok.ite.2 ⟨fun h => Ok.gd.2 ⟨(by omega), Ok.some.2 (next _ ⟨by omega, by omega⟩ (by omega))⟩, fun h => Ok.some.2 (exit _ (by unfold Z2h; exact Ok.some.2 ⟨h2, h3⟩))⟩
theorem Gd {a s : Int} {L : Layout} (h : L.Size = s) (h0 : 0 ≤ s) (h1 : s ≤ 1000000) (h2 : 0 ≤ a) (h3 : a ≤ 1000000) : Uh a L = some (s, ⟨L.Verts, L.Arcs, L.Workers, L.Room, L.Res, L.Ex, L.H, L.Flag, L.Pending, L.Ask, L.Count, L.Sense, L.Deques, s + a⟩) := by
 unfold Uh
 rw [h, Vw (by constructor <;> omega), Vw (by constructor <;> omega), show s + a - a = s by omega]
theorem s_Plan {v a w : Int} (v0 : 0 ≤ v) (v1 : v ≤ 4096) (a0 : 0 ≤ a) (a1 : a ≤ 32768) (w0 : 1 ≤ w) (w1 : w ≤ 4) : Ok (Gw v a w) (fun t => 0 ≤ t.1.Size ∧ t.1.Size ≤ 524288 ∧ t.2 = 0) := by
 unfold Gw Lb Ns Ld Nu Nr
 simp only [if_neg (show ¬(v < 0) by omega), decide_eq_false (show ¬(4096 < v) by omega), decide_eq_false (show ¬(a < 0) by omega), decide_eq_false (show ¬(32768 < a) by omega), decide_eq_false (show ¬(w < 1) by omega), decide_eq_false (show ¬(64 < w) by omega), Bool.false_eq_true, if_false]
 refine Ok.bind.2 (Ok.mono (s_room v0 v1) fun x hx => ?_)
 have hw : w * (x + 2) ≤ 4 * (x + 2) := Int.mul_le_mul_of_nonneg_right w1 (by omega)
 have hw0 : 0 ≤ w * (x + 2) := Int.mul_nonneg (by omega) (by omega)
 refine Ok.bind.2 (Xm (Gd rfl (by simp only; omega) (by simp only; omega) (by omega) (by omega)) ?_)
 refine Ok.bind.2 (Xm (Gd rfl (by simp only; omega) (by simp only; omega) (by omega) (by omega)) ?_)
 refine Ok.bind.2 (Xm (Gd rfl (by simp only; omega) (by simp only; omega) (by omega) (by omega)) ?_)
 refine Ok.bind.2 (Xm (Gd rfl (by simp only; omega) (by simp only; omega) (by omega) (by omega)) ?_)
 refine Ok.bind.2 (Xm (Gd rfl (by simp only; omega) (by simp only; omega) (by omega) (by omega)) ?_)
 refine Ok.bind.2 (Xm (Gd rfl (by simp only; omega) (by simp only; omega) (by omega) (by omega)) ?_)
 refine Ok.bind.2 (Xm (Gd rfl (by simp only; omega) (by simp only; omega) (by omega) (by omega)) ?_)
 refine Ok.bind.2 (Xm (Gd rfl (by simp only; omega) (by simp only; omega) (by omega) (by omega)) ?_)
 refine Ok.gd.2 ⟨by constructor <;> omega, Ok.gd.2 ⟨by constructor <;> omega, ?_⟩⟩
 refine Ok.bind.2 (Xm (Gd rfl (by simp only; omega) (by simp only; omega) (by omega) (by omega)) ?_)
 exact Ok.some.2 ⟨by simp only; omega, by simp only; omega, rfl⟩
theorem s_PlanN {v a w : Int} (h : w < 1 ∨ 64 < w) : Gw v a w = some (⟨0, 0, 0, 0, 0, 0, 0, 0, 0, 0, 0, 0, 0, 0⟩, 2) := by
 have j5 : Nr v a w true = some (⟨0, 0, 0, 0, 0, 0, 0, 0, 0, 0, 0, 0, 0, 0⟩, 2) := by unfold Nr; rw [if_pos rfl]
 have j4 : ∀ b : Bool, (b = true ∨ 64 < w) → Nu v a w b = some (⟨0, 0, 0, 0, 0, 0, 0, 0, 0, 0, 0, 0, 0, 0⟩, 2) := fun b hb => by
  unfold Nu
  split
  · exact j5
  · rw [decide_eq_true (hb.resolve_left (by assumption)), j5]
 have j3 : ∀ b : Bool, Ld v a w b = some (⟨0, 0, 0, 0, 0, 0, 0, 0, 0, 0, 0, 0, 0, 0⟩, 2) := fun b => by
  unfold Ld
  split
  · exact j4 _ (.inl rfl)
  · exact j4 _ (h.imp (fun h => decide_eq_true h) id)
 have j2 : ∀ b : Bool, Ns v a w b = some (⟨0, 0, 0, 0, 0, 0, 0, 0, 0, 0, 0, 0, 0, 0⟩, 2) := fun b => by
  unfold Ns
  split <;> exact j3 _
 have j1 : ∀ b : Bool, Lb v a w b = some (⟨0, 0, 0, 0, 0, 0, 0, 0, 0, 0, 0, 0, 0, 0⟩, 2) := fun b => by
  unfold Lb
  split <;> exact j2 _
 unfold Gw
 split <;> exact j1 _
theorem s_cNew {k : Int} (h0 : 0 ≤ k) (h1 : k ≤ 524288) : ∃ b, Z0z k = some (b, 0) := by
 unfold Z0z Z0l
 rw [if_neg (by omega), decide_eq_false (by omega), if_neg (by simp), Vw (by constructor <;> omega)]
 exact ⟨_, rfl⟩
section row
variable {n : Net} {m L : Nat} {c : Csr}
theorem Row.small (r : Row n m L c) : L ≤ 2 * n.Arcs.length := by
 have h := Z59 r.he (fun _ => 1)
 rw [r.hL, Z54] at h
 have h2 : Yr (fun i => if (n.Arcs.getD i default).fr = (n.Arcs.getD i default).to then (0 : Int) else 1 + 1) n.Arcs.length ≤ Yr (fun _ => 1 + 1) n.Arcs.length := Z3r fun i hi => by split <;> omega
 have h3 := Z2s (fun _ => 1) (fun _ => 1) n.Arcs.length
 rw [Z54] at h3
 omega
theorem s_crNew {w l : Int} (r : Row n m L c) (hs : n.Arcs.length ≤ 12) (w0 : 1 ≤ w) (w1 : w ≤ 4) (hl : 1 ≤ l) : Ok (Z02 c w l) (fun t => t.1.c = c ∧ t.2 = 0) := by
 have b := r.bd
 have hsm := r.small
 have lh := r.lens.2.1
 obtain ⟨-, -, -, hN⟩ := r.ends
 unfold Z02
 refine Ok.bind.2 (Xm (s_Len c) ?_)
 rw [lh, hN]
 refine Ok.bind.2 (Ok.mono (s_Plan (by omega) (by omega) (by omega) (by omega) w0 w1) ?_)
 rintro ⟨y, e⟩ ⟨h0, h1, h2⟩
 simp only at h0 h1 h2 ⊢
 subst h2
 rw [if_neg (by simp), if_neg (by omega)]
 obtain ⟨bk, hb⟩ := s_cNew h0 h1
 refine Ok.bind.2 (Xm hb ?_)
 simp only
 rw [if_neg (by simp)]
 exact Ok.some.2 ⟨rfl, rfl⟩
theorem Z3j (r : Row n m L c) : Ok (Gx c) (fun p => PreOK n m L c p) := by
 unfold Gx
 exact Ok.bind.2 (Ok.mono (s_Begin r) fun p hp => Ok.some.2 hp)
theorem s_even {p : Pre} (r : Row n m L c) : Ok (Z1m c p) (fun b => b = true → p.Res.length = L ∧ p.Ex.length = m ∧ ∀ v, v < m → p.Ex.getD v 0 = ex n.Arcs (Vy n.Arcs p.Res) v n.Arcs.length) := by
 have b := r.bd
 obtain ⟨⟨S, hS, hcS, hSm⟩, ⟨T, hT, hcT, hTm⟩, hne, hN⟩ := r.ends
 obtain ⟨-, llh, llr, llc, -, llb⟩ := r.lens
 unfold Z1m
 refine Ok.bind.2 (Xm (s_Len c) (Ok.ite.2 ⟨fun h => Ok.some.2 fun h => (by cases h), fun h1 => Ok.ite.2 ⟨fun h => Ok.some.2 fun h => (by cases h), fun h2 => ?_⟩⟩))
 have lr : p.Res.length = L := by omega
 have lx : p.Ex.length = m := by omega
 rw [hN]
 simp only [Int.toNat_natCast]
 refine Ok.gd.2 ⟨by constructor <;> omega, Ok.bind.2 ?_⟩
 refine Kq (fun s => ∃ k : Nat, s.2 = k ∧ k ≤ L ∧ s.1.length = m ∧ (∀ v, v < m → s.1.getD v 0 = Yr (exB c p.Res v) k) ∧ ∀ j, j < k → 0 ≤ p.Res.getD j 0 ∧ p.Res.getD j 0 ≤ cp c j) (fun s => (L - s.2).toNat) ⟨0, rfl, by omega, by simp, fun v hv => by rw [Ni]; rfl, fun j hj => by omega⟩ (by unfold Yz; simp only; omega) ?_
 rintro ⟨xs, x⟩ ⟨k, h4, hk, hxl, hx, hI⟩ P next exit
 simp only at h4 hxl hx next ⊢
 subst h4
 unfold Z0o
 simp only [lr, Int.toNat_natCast]
 have bad : P (.inr (.inl false)) := exit _ (Ok.some.2 fun h => (by cases h))
 refine Ok.ite.2 ⟨fun hxx => ?_, fun hxx => Ok.some.2 (exit _ ?_)⟩
 ·
  have hkL : k < L := by omega
  have g1 := r.head hkL
  have g2 := r.rev hkL
  have g3 := r.tlh hkL
  have g4 := r.head g2.2.1
  have e4 : c.Head.getD (rv c k) 0 = (tl c k : Nat) := g4.1
  have gc := r.cap hkL
  have em : max (c.Cap.getD k 0) (c.Cap.getD (rv c k) 0) = cp c k := rfl
  have i1 : inb (k : Int) L := by constructor <;> omega
  have i2 : inb ((rv c k : Nat) : Int) L := by constructor <;> omega
  have i3 : inb ((tl c k : Nat) : Int) m := by constructor <;> omega
  have i4 : inb ((hd c k : Nat) : Int) m := by constructor <;> omega
  simp only [g1.1, g2.1, e4, llh, llr, llc, llb, hxl, List.length_set, Int.toNat_natCast, em]
  refine Ok.gd.2 ⟨i1, Ok.gd.2 ⟨i1, Ok.gd.2 ⟨i1, Ok.gd.2 ⟨i2, Ok.ite.2 ⟨fun h => Ok.some.2 bad, fun h5 => Ok.ite.2 ⟨fun h => Ok.some.2 bad, fun h6 => Ok.gd.2 ⟨i2, Ok.gd.2 ⟨by constructor <;> omega, Ok.ite.2 ⟨fun h => Ok.some.2 bad, fun h7 => Ok.gd.2 ⟨i1, ?_⟩⟩⟩⟩⟩⟩⟩⟩⟩⟩
  have hI' : ∀ j, j < k + 1 → 0 ≤ p.Res.getD j 0 ∧ p.Res.getD j 0 ≤ cp c j := fun j hj => by
   rcases Nat.lt_or_ge j k with h | h
   · exact hI j h
   · rw [show j = k by omega]; exact ⟨by omega, by omega⟩
  have hb1 := exB_bd (R := p.Res) r (hd c k) (show k + 1 ≤ L by omega) hI'
  have hb2 := exB_bd (R := p.Res) r (tl c k) (show k + 1 ≤ L by omega) hI'
  refine Ok.ite.2 ⟨fun hb => ?_, fun hb => ?_⟩
  ·
   have hbt : bk c k = true := hb
   simp only [Yr, exB, hbt, if_true] at hb1 hb2
   rw [← hx _ g1.2, if_neg g3.2.2.2] at hb1
   rw [← hx _ g3.1, if_neg fun e => g3.2.2.2 e.symm] at hb2
   have o1 : i64ok (xs.getD (hd c k) 0 - p.Res.getD k 0) := by constructor <;> omega
   have o2 : i64ok (xs.getD (tl c k) 0 + p.Res.getD k 0) := by constructor <;> omega
   have ex1 : (xs.set (hd c k) (xs.getD (hd c k) 0 - p.Res.getD k 0)).getD (tl c k) 0 = xs.getD (tl c k) 0 := Uo fun e => g3.2.2.2 e.symm
   simp only [ex1]
   refine Ok.gd.2 ⟨i1, Ok.gd.2 ⟨i4, Ok.gd.2 ⟨o1, Ok.gd.2 ⟨i4, Ok.gd.2 ⟨i2, Ok.gd.2 ⟨i3, Ok.gd.2 ⟨o2, Ok.gd.2 ⟨i3, Ok.gd.2 ⟨(by omega), Ok.some.2 (next _ ⟨k + 1, by simp, by omega, by simp [hxl], fun v hv => ?_, hI'⟩ (by simp only; omega))⟩⟩⟩⟩⟩⟩⟩⟩⟩
   simp only [Yr, exB, hbt, if_true]
   rw [← hx v hv, Vc, Vc, List.length_set, hxl]
   by_cases c1 : tl c k = v
   ·
    subst c1
    rw [if_pos ⟨rfl, hv⟩, if_pos rfl, if_neg fun e => g3.2.2.2 e.symm]; omega
   ·
    rw [if_neg fun h => c1 h.1, if_neg c1]
    by_cases c2 : hd c k = v
    ·
     subst c2
     rw [if_pos ⟨rfl, hv⟩, if_pos rfl]; omega
    · rw [if_neg fun h => c2 h.1, if_neg c2]; omega
  ·
   have hbf : bk c k = false := by unfold bk; simpa using hb
   refine Ok.gd.2 ⟨(by omega), Ok.some.2 (next _ ⟨k + 1, by simp, by omega, hxl, fun v hv => ?_, hI'⟩ (by simp only; omega))⟩
   simp only [Yr, exB, hbf, Bool.false_eq_true, if_false]
   rw [hx v hv]; omega
 ·
  obtain rfl : k = L := by omega
  show Ok (Z0c c p xs) _
  unfold Z0c
  refine Ok.bind.2 (Kq (fun x => ∃ k : Nat, x = k ∧ k ≤ m) (fun x => (m - x).toNat) ⟨0, rfl, by omega⟩ (by unfold Yz; omega) ?_)
  rintro x ⟨k, rfl, hkm⟩ P2 next2 exit2
  unfold Z0x Z29
  rw [hN, hcS]
  simp only [Int.toNat_natCast]
  have bad2 : P2 (.inr (.inl false)) := exit2 _ (Ok.some.2 fun h => (by cases h))
  refine Ok.ite.2 ⟨fun h6 => ?_, fun h6 => Ok.some.2 (exit2 _ ?_)⟩
  ·
   have nx : Ok (gd (i64ok ((k : Int) + 1)) <| some (.inl ((k : Int) + 1))) P2 := Ok.gd.2 ⟨(by omega), Ok.some.2 (next2 _ ⟨k + 1, by simp, by omega⟩ (by omega))⟩
   refine Ok.bind.2 (Ok.ite.2 ⟨fun h7 => Ok.gd.2 ⟨by rw [hxl]; constructor <;> omega, Ok.some.2 (Ok.ite.2 ⟨fun _ => Ok.some.2 bad2, fun _ => nx⟩)⟩, fun h7 => Ok.some.2 (Ok.ite.2 ⟨fun h => (by cases h), fun _ => nx⟩)⟩)
  ·
   show Ok (Z1e p xs) _
   unfold Z1e
   refine Ok.bind.2 (Xm (Z8t (by omega)) (Ok.some.2 fun h => ⟨lr, lx, fun v hv => ?_⟩))
   rw [← of_decide_eq_true h, hx v hv, exB_all r]
theorem s_off {l : List Int} (hl : lenok l.length) : Ok (Z1c l c) (fun b => b = false → ∀ j, j < l.length → 0 ≤ l.getD j 0 ∧ l.getD j 0 ≤ c.N) := by
 unfold Z1c Z2d
 refine Ok.bind.2 (Ok.bind.2 (Kq (fun x => ∃ k : Nat, x = k ∧ k ≤ l.length ∧ ∀ j, j < k → 0 ≤ l.getD j 0 ∧ l.getD j 0 ≤ c.N) (fun x => (l.length - x).toNat) ⟨0, rfl, by omega, fun j hj => by omega⟩ (by unfold Yz; omega) ?_))
 rintro x ⟨k, rfl, g2, g3⟩ P next exit
 unfold Z0b Z2i
 simp only [Int.toNat_natCast]
 refine Ok.ite.2 ⟨fun hx => ?_, fun hx => ?_⟩
 ·
  have bad : P (.inr (.inl (k : Int))) := exit _ (Ok.some.2 (Ok.some.2 fun h => by have := of_decide_eq_false h; omega))
  have nx : (0 ≤ l.getD k 0 ∧ l.getD k 0 ≤ c.N) → Ok (gd (i64ok ((k : Int) + 1)) <| some (.inl ((k : Int) + 1))) P := fun h => Ok.gd.2 ⟨(by omega), Ok.some.2 (next _ ⟨k + 1, by simp, by omega, fun j hj => by
   rcases Nat.lt_or_ge j k with h2 | h2
   · exact g3 j h2
   · rw [show j = k by omega]; exact h⟩ (by omega))⟩
  refine Ok.gd.2 ⟨(by omega), Ok.bind.2 (Ok.ite.2 ⟨fun h => Ok.some.2 (Ok.ite.2 ⟨fun _ => Ok.some.2 bad, fun h => absurd rfl h⟩), fun h => Ok.some.2 (Ok.ite.2 ⟨fun _ => Ok.some.2 bad, fun h2 => nx ?_⟩)⟩)⟩
  have := of_decide_eq_false (Bool.eq_false_iff.2 h2); omega
 · refine Ok.some.2 (exit _ (Ok.some.2 (Ok.some.2 fun _ j hj => g3 j (by omega))))
theorem Z1d {p : Pre} (r : Row n m L c) (hno : p.Res.length = L → p.Ex.length = m → (∀ v, v < m → p.Ex.getD v 0 = ex n.Arcs (Vy n.Arcs p.Res) v n.Arcs.length) → p.H.length = m → (∀ s : Nat, n.S = s → p.H.getD s 0 = m) → (∀ t : Nat, n.T = t → p.H.getD t 0 = 0) → (∀ v, v < m → 0 ≤ p.H.getD v 0 ∧ p.H.getD v 0 ≤ m) → False) : Gh c p = some false := by
 have b := r.bd
 obtain ⟨⟨S, hS, hcS, hSm⟩, ⟨T, hT, hcT, hTm⟩, hne, hN⟩ := r.ends
 refine Kn ?_
 unfold Gh
 refine Ok.ite.2 ⟨fun _ => Ok.some.2 rfl, fun h0 => Ok.bind.2 (Ok.mono (s_even r) fun q hq => Ok.ite.2 ⟨fun _ => Ok.some.2 rfl, fun h1 => ?_⟩)⟩
 have hq := hq (by simpa using h1)
 have lh : p.H.length = m := by omega
 rw [hcS, hcT, hN]
 simp only [Int.toNat_natCast]
 refine Ok.gd.2 ⟨(by omega), Ok.ite.2 ⟨fun _ => Ok.some.2 rfl, fun h2 => Ok.gd.2 ⟨(by omega), Ok.ite.2 ⟨fun _ => Ok.some.2 rfl, fun h3 => Ok.bind.2 (Ok.mono (s_off (by omega)) fun z hz => Ok.ite.2 ⟨fun _ => Ok.some.2 rfl, fun h4 => ?_⟩)⟩⟩⟩⟩
 have hz := hz (by simpa using h4)
 refine (hno hq.1 hq.2.1 hq.2.2 lh (fun s hs => ?_) (fun t ht => ?_) fun v hv => ?_).elim
 · rw [show s = S by omega]; omega
 · rw [show t = T by omega]; omega
 · have := hz v (by omega); rw [hN] at this; exact this
end row
end Go.Acq
namespace Go.Acq
open Go
theorem Z94 : Z1p = some true := rfl
theorem s_some17 {n : Net} {at' which : Int} (hn : NetIn n) (ha : u8ok at') (hw : u8ok which) : Ok (Z1j n at' which) (fun t => t.2.2.2 = true ∧ Made t.1 6 12 ∧ CsrIs t.1 t.1.N.toNat t.2.1 ∧ t.2.2.1.c = t.2.1) := by
 have ha0 : 0 ≤ at' ∧ at' ≤ 255 := ha
 have hw0 : 0 ≤ which ∧ which ≤ 255 := hw
 have a1 := Int.tmod_lt_of_pos at' (show (0 : Int) < 4 by omega)
 have a2 := Int.tmod_nonneg 4 ha0.1
 have b1 := Int.tmod_lt_of_pos which (show (0 : Int) < 40 by omega)
 have b2 := Int.tmod_nonneg 40 hw0.1
 unfold Z1j
 refine Ok.bind.2 (Ok.mono (s_Some hn (by omega) (by omega) (by omega) (by omega)) fun r hr => ?_)
 obtain ⟨m, hm, hso⟩ := hr.nat
 have hl := hr.arcs
 refine Ok.bind.2 (Ok.mono (s_Make hm hr.check (by omega)) ?_)
 rintro ⟨c, e⟩ ⟨hc, h0⟩
 simp only at hc h0 ⊢
 subst h0
 have rr := row_of hc hm hr.check
 refine Ok.gd.2 ⟨by constructor <;> omega, Ok.gd.2 ⟨by constructor <;> omega, Ok.gd.2 ⟨by constructor <;> omega, Ok.gd.2 ⟨by constructor <;> omega, Ok.bind.2 (Ok.mono (s_crNew rr (by omega) (by omega) (by omega) (by omega)) ?_)⟩⟩⟩⟩
 rintro ⟨⟨wc, wl, wb, wi⟩, e⟩ ⟨h1, h2⟩
 simp only at h1 h2 ⊢
 subst h1 h2
 rw [if_pos trivial]
 exact Ok.some.2 ⟨rfl, hr, by rw [show r.N.toNat = m by omega]; exact hc, rfl⟩
section row
variable {n : Net} {m L : Nat} {c : Csr}
theorem Z79 {w l : Int} (h : w < 1 ∨ 64 < w) : Ga c w l = some 2 := by
 refine Kn ?_
 unfold Ga
 refine Ok.bind.2 (Xm (s_Len c) (Ok.bind.2 (Xm (s_PlanN h) ?_)))
 simp only
 exact Ok.ite.2 ⟨fun _ => Ok.some.2 rfl, fun h => absurd (by simp) h⟩
theorem s_crNewL (r : Row n m L c) (hs : n.Arcs.length ≤ 12) : Ga c 2 0 = some 2 := by
 have b := r.bd
 have hsm := r.small
 have lh := r.lens.2.1
 obtain ⟨-, -, -, hN⟩ := r.ends
 refine Kn ?_
 unfold Ga
 refine Ok.bind.2 (Xm (s_Len c) ?_)
 rw [lh, hN]
 refine Ok.bind.2 (Ok.mono (s_Plan (by omega) (by omega) (by omega) (by omega) (by omega) (by omega)) ?_)
 rintro ⟨y, e⟩ ⟨h0, h1, h2⟩
 simp only at h0 h1 h2 ⊢
 subst h2
 rw [if_neg (by simp), if_pos (by omega)]
 exact Ok.some.2 rfl
end row
theorem s_RunF {x : CrewCrew} {p : Pre} (h : Gh x.c p = some false) : Gr x p [] 2097152 = some (⟨[], [], []⟩, ⟨0, 0, false, []⟩, 2) := by
 unfold Gr
 rw [if_neg (by omega), if_neg (by omega), h]
 rfl
theorem s_Run0 {x : CrewCrew} {p : Pre} : Gr x p [] 0 = some (⟨[], [], []⟩, ⟨0, 0, false, []⟩, 2) := by
 unfold Gr
 rw [if_pos (by omega)]
 rfl
theorem p_CrewNone {n : Net} {at' which : Int} (hn : NetIn n) (ha : u8ok at') (hw : u8ok which) : Z2o n at' which = some true := by
 have ha0 : 0 ≤ at' ∧ at' ≤ 255 := ha
 refine Kn ?_
 unfold Z2o
 refine Ok.bind.2 (Ok.mono (s_some17 hn ha hw) ?_)
 rintro ⟨r, c, ⟨yc, yl, yb, yi⟩, b⟩ ⟨h1, hr, hc, hy⟩
 simp only at h1 hr hc hy ⊢
 subst h1 hy
 obtain ⟨m, hm, hso⟩ := hr.nat
 have hl := hr.arcs
 have rr : Row r m _ yc := row_of (by rw [show m = r.N.toNat by omega]; exact hc) hm hr.check
 obtain ⟨L, hL⟩ : ∃ L, Yc r.Arcs m = L := ⟨_, rfl⟩
 rw [hL] at rr
 have b := rr.bd
 obtain ⟨⟨S, hS, hcS, hSm⟩, -, -, hN⟩ := rr.ends
 rw [if_neg (by simp)]
 refine Ok.bind.2 (Ok.mono (Z3j rr) fun p0 _ => Ok.bind.2 (Xm (show Z2x p0 [] 10 = some (⟨[], [], []⟩, ⟨0, 0, false, []⟩, 1) from rfl) ?_))
 show Ok (if (1 : Int) ≠ 1 then _ else _) _
 rw [if_neg (by simp)]
 refine Ok.bind.2 (Ok.mono (Z3j rr) fun p1 _ => Ok.bind.2 (Xm (show Z28 p1 [] 10 = some (⟨[], [], []⟩, ⟨0, 0, false, []⟩, 1) from rfl) ?_))
 show Ok (if (1 : Int) ≠ 1 then _ else _) _
 rw [if_neg (by simp)]
 have j2 : ∀ R X H, Gh yc ⟨R, X, H⟩ = some false → Ok (Jl yc ⟨yc, yl, yb, yi⟩ R X H) (fun b => b = true) := fun R X H h => by
  unfold Jl
  refine Ok.bind.2 (Xm (s_RunF h) ?_)
  refine Ok.bind.2 (Ok.mono (Z3j rr) fun p2 _ => Ok.bind.2 (Xm s_Run0 ?_))
  refine Ok.bind.2 (Xm (Z79 (.inl (by omega))) (Ok.bind.2 (Xm (Z79 (.inr (by omega))) (Ok.bind.2 (Xm (s_crNewL rr (by omega)) ?_)))))
  show Ok (if (2 : Int) = 2 then _ else _) _
  rw [if_pos rfl]
  unfold Z0m
  rw [if_pos (decide_eq_true rfl)]
  unfold Z0y
  rw [if_pos (decide_eq_true rfl)]
  unfold Z1i
  rw [if_pos (decide_eq_true rfl)]
  unfold Z0f
  rw [if_pos (decide_eq_true rfl)]
  refine Ok.bind.2 (Xm h ?_)
  unfold Z0p
  rw [if_pos (by rfl)]
  refine Ok.bind.2 (Xm Z94 ?_)
  unfold Z0n
  exact Ok.some.2 rfl
 unfold Z2v
 refine Ok.bind.2 (Ok.mono (Z3j rr) fun p hp => ?_)
 have lh := hp.hs.1
 have lx := hp.ok.lx
 have lr := hp.ok.lr
 rw [if_neg (by omega), if_neg (by omega)]
 have t1 := Int.tmod_lt_of_pos at' (show 0 < r.N by omega)
 have t2 := Int.tmod_nonneg r.N ha0.1
 obtain ⟨u, hu⟩ : ∃ u : Nat, at'.tmod r.N = u := ⟨(at'.tmod r.N).toNat, by omega⟩
 rw [hu] at t1 ⊢
 rw [hS, lh, lx]
 simp only [Int.toNat_natCast]
 have um : u < m := by omega
 have hxb := hp.ok.bnd rr um
 have iu : inb (u : Int) m := by constructor <;> omega
 have iS : inb (S : Int) m := by constructor <;> omega
 have eS := hp.hs.2.1 S hS
 refine Ok.gd.2 ⟨by constructor <;> omega, Ok.gd.2 ⟨by omega, Ok.ite.2 ⟨fun _ => Ok.gd.2 ⟨by constructor <;> omega, Ok.gd.2 ⟨iu, j2 _ _ _ (Z1d rr fun g1 g2 g3 g4 g5 g6 g7 => ?_)⟩⟩, fun _ => Ok.ite.2 ⟨fun _ => Ok.gd.2 ⟨iu, Ok.gd.2 ⟨by constructor <;> omega, Ok.gd.2 ⟨iu, j2 _ _ _ (Z1d rr fun g1 g2 g3 g4 g5 g6 g7 => ?_)⟩⟩⟩, fun _ => Ok.ite.2 ⟨fun _ => Ok.gd.2 ⟨iS, Ok.gd.2 ⟨by constructor <;> omega, Ok.gd.2 ⟨iS, j2 _ _ _ (Z1d rr fun g1 g2 g3 g4 g5 g6 g7 => ?_)⟩⟩⟩, fun _ => Ok.ite.2 ⟨fun _ => Ok.gd.2 ⟨?_, j2 _ _ _ (Z1d rr fun g1 g2 g3 g4 g5 g6 g7 => ?_)⟩, fun _ => Ok.gd.2 ⟨iu, j2 _ _ _ (Z1d rr fun g1 g2 g3 g4 g5 g6 g7 => ?_)⟩⟩⟩⟩⟩⟩⟩
 ·
  have := (g7 u um).2
  simp only at this
  rw [Vc, if_pos ⟨rfl, by omega⟩] at this; omega
 ·
  have h1 := g3 u um
  have h2 := hp.ok.ex u um
  simp only at h1
  rw [Vc, if_pos ⟨rfl, by omega⟩] at h1; omega
 ·
  have h1 := g5 S hS
  simp only at h1
  rw [Vc, if_pos ⟨rfl, by omega⟩] at h1; omega
 · rw [List.length_append, lr]; simp only [List.length_cons, List.length_nil]; constructor <;> omega
 · simp only [List.length_append, List.length_cons, List.length_nil] at g1; omega
 ·
  have := (g7 u um).1
  simp only at this
  rw [Vc, if_pos ⟨rfl, by omega⟩] at this; omega
end Go.Acq
