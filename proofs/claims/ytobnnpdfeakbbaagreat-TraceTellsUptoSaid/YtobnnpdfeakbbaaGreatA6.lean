/- Texts of this claim, one behind the other. -/
import Derived.Test.YtobnnpdfeakbbaaGreatA2
import Derived.Test.YtobnnpdfeakbbaaGreatA4
import Derived.Test.YtobnnpdfeakbbaaGreatA5
import Derived.Test.YtobnnpdfeakbbaaGreatA1
set_option linter.unusedVariables false
set_option linter.unusedSimpArgs false
namespace Go.Proofs.YtobnnpdfeakbbaaGreat.Ax
open Go Go.Acq Go.RowKit Go.Proofs
set_option maxHeartbeats 8000000
set_option maxRecDepth 20000
theorem Z8q : Vk Tryz.prog 91 2 = true := by kernel_rfl
theorem Zee : Vz Tryz.prog 40 = some 56 := by kernel_rfl
theorem Zeu : Xm Tryz.prog 22 = true := by kernel_rfl
theorem Zev : Xm Tryz.prog 23 = true := by kernel_rfl
theorem Z39 : Xm Tryz.prog 28 = true := by kernel_rfl
theorem Zdq : Xm Tryz.prog 32 = true := by kernel_rfl
theorem Zbo : Xm Tryz.prog 36 = true := by kernel_rfl
theorem Zc6 : Xm Tryz.prog 40 = true := by kernel_rfl
theorem Zdp : Xm Tryz.prog 41 = true := by kernel_rfl
theorem Zeg : Xm Tryz.prog 42 = true := by kernel_rfl
theorem Zdu : Xm Tryz.prog 43 = true := by kernel_rfl
theorem Zfc : Xm Tryz.prog 48 = true := by kernel_rfl
theorem Z77 : Gq Tryz.prog 84 [.i64, .i64, .i64, .i64, .i64, .i64, .i64] = true := by kernel_rfl
theorem Zd8 : Gq Tryz.prog 91 [.i64, .i64] = true := by kernel_rfl
theorem Zcu : Tryz.prog.underlying 4 = some .bool := by kernel_rfl
theorem Zez : ElemT Tryz.prog 68 40 7 56 (.agg #[iV 0, .int .u8 0, iV 0, iV 0, iV 0, iV 0, iV 0]) := ⟨Vr, Uj, Zee, Z1j, rfl⟩
theorem w_acequialaw18_TraceTells {n0 : Net} {p1 end2 : Pre} {l3 : List Evt} {workers4 : Int} {h8 c7 b7 b8 d9 e3 d4 h5 : Option Addr} {h9 i1 c4 c8 b9 c9 d0 d1 e0 d8 d6 d7 d5 e4 o8 h3 : Nat} (w : World) (o9 : RS w [] Kl 3 h8 h9 i1 n0.Arcs) (a4 : RS w [] iC 1 c7 c4 c8 p1.Res) (a5 : RS w [] iC 1 b7 b9 c9 p1.Ex) (a3 : RS w [] iC 1 b8 d0 d1 p1.H) (h4 : RS w [] iC 1 d9 e0 d8 end2.Res) (h6 : RS w [] iC 1 e3 d6 d7 end2.Ex) (h2 : RS w [] iC 1 d4 d5 e4 end2.H) (b0 : RS w [] Um 7 h5 o8 h3 l3) {r0 : Bool} (H : Z67 n0 p1 end2 l3 workers4 = some r0) : Fnc Tryz.prog 9 #[.agg #[iV n0.N, iV n0.S, iV n0.T, .slice h8 h9 i1], .agg #[.slice c7 c4 c8, .slice b7 b9 c9, .slice b8 d0 d1], .agg #[.slice d9 e0 d8, .slice e3 d6 d7, .slice d4 d5 e4], .slice h5 o8 h3, iV workers4] w [] (fun v N => v = .bool r0 ∧ N = []) := by
 unfold Z67 at H; refine Fnc.enter (vs := [.agg #[iV n0.N, iV n0.S, iV n0.T, .slice h8 h9 i1], .agg #[.slice c7 c4 c8, .slice b7 b9 c9, .slice b8 d0 d1], .agg #[.slice d9 e0 d8, .slice e3 d6 d7, .slice d4 d5 e4], .slice h5 o8 h3, iV workers4]) Tryz.func9 rfl rfl (Inv.refl w) ?_; refine sR Y4 rfl (Xs Za ?_); intro b1; refine Xs Za ?_; intro b3; refine Xs Za ?_; intro b5; refine aN Za (Zl ?_); obtain ⟨r7, e8, H⟩ := Yg H; obtain ⟨⟨a9, E6⟩, y8, H⟩ := Yg H; refine rG Y9 rfl (Yt Za Jr Yq rfl ?_); refine Xa Zev Za (fun wc hwc => Zcj (n0 := n0) (verts1 := 8) (arcs2 := 16) wc (o9.mono hwc) e8) ?_; rintro _ _ ⟨E7, E8, E9, y9, rfl, rfl, r4, r5, z0, r6⟩; refine Xa Zeu Za (fun wc hwc => Ze1 (n0 := r7) wc (hwc.rs (f := Kl) (s := 3) (xs := r7.Arcs) (j := y9) (fun _ => rfl) Zk r4 r5 r6) y8) ?_; rintro _ _ ⟨i4, n22, c23, r8, i5, n26, r9, s1, i6, s6, s7, s8, i7, s9, t0, t1, i8, t2, c39, t4, i9, t5, c43, t6, rfl, rfl, e6, e7, z1, e9, f0, f1, z5, f2, f3, f4, z6, f5, f6, f7, z7, f8, f9, g0, z8, g1, g2, g3, z9, g4⟩; refine Zd Za (TO.extract Zb (TO.extract Zb (Wv Yb Z6u ?_))); intro p2; refine Wi Za Ze Z6h Yb (aN Za (Zu (aT [3, 4, 6, 7, 11, 12] rfl) (Zl (sR Y2 rfl (Zd Za (Zt Zm (dN ?_))))))); rcases Zq H with ⟨t7, H⟩ | ⟨t7, H⟩
 · refine Yp rfl t7 (sR Y1 rfl (aN Za (Zu (aT [10] rfl) (T.ret (Zw ?_))))); obtain rfl := ret1 H; exact Zz Za (Res.tmp rfl) Zg ⟨rfl, rfl⟩
 ·
  refine Yn rfl t7 (T.skip (Ya ?_)); obtain ⟨h7, H⟩ := Zy H; refine sR Y6 rfl (Zd Za (Zd Za (Xo (xs := l3) b0.len Zb Vr (TO.min2 Zb (TO.slH (xs := l3) b0.len b0.cap h7 Zb Vr Uj (aN Za (Zu (aT [3, 4, 6, 7, 11] rfl) (Zl ?_)))))))); obtain ⟨g5, A1, H⟩ := Yg H; obtain ⟨t8, H⟩ := Zy H; refine rG Y8 rfl (Yt Za Wc mm9 rfl ?_); refine Xa Zdq Za (fun wc hwc => Zcl (p0 := p1) wc (a4.mono hwc) (a5.mono hwc) (a3.mono hwc) A1) ?_; rintro _ _ ⟨g6, q3, q4, q5, g7, q6, q7, q8, g8, q9, r1, r2, rfl, rfl, m4, m5, A2, m6, m7, m8, A3, j1, j2, j3, w4, j4⟩; refine Nw Yb Vr Uj ?_; intro t9; refine Zd Za ?_; refine Ud (f := Um) (s := 7) (xs := ([] : List Evt)) (ob := some t9) (j := ([])) (ys := (l3.take (min (l3.length : Int) 200).toNat)) (fun _ => rfl) (fun _ => rfl) Zez t8 Zb Ze rfl (Nat.le_refl _) (Wp 0 _) Vs (fun wc hwc => ((RS.take b0 h7).mono hwc)) ?_; intro d2 j7 j0 k1 w5 k2; refine Wv Yb Gr ?_; intro g9; refine Wi Za Ze Kb Yb (aN Za (Zl ?_)); obtain ⟨⟨p5, a6, A4⟩, u0, H⟩ := Yg H; refine rG Y13 rfl (Yt Za Ww Wg rfl (Yt Za Wc mm14 rfl (Zd Za ?_))); refine Xa Z9p Za (fun wc hwc => Z8s (c0 := a9) (p1 := p1) (l2 := (l3.take (min (l3.length : Int) 200).toNat)) wc (Yz hwc Ur e6 e7 e9) (Yz hwc Kc f0 f1 f2) (Yz hwc Vw f3 f4 f5) (Yz hwc mm9 f6 f7 f8) (Yz hwc mm10 f9 g0 g1) (rsB hwc mm11 g2 g3 g4) (a4.mono hwc) (a5.mono hwc) (a3.mono hwc) ((RS.take b0 h7).mono hwc) u0) ?_; rintro _ _ ⟨w6, A5, A6, A7, w7, A8, A9, B0, w8, B1, B2, B3, rfl, rfl, k3, k4, w9, k5, k6, k7, x2, k8, k9, l1, x3, l4⟩; refine Zd Za (TO.extract Zb (TO.extract Zb (TO.extract Zb (Wv Yb Gr ?_)))); intro B4; refine Wv Yb Rd ?_; intro B5; refine Wi Za Zs Kb Yb (Wi Za Zs Gk Yb (aN Za (Zu (aT [3, 4, 6, 7, 11, 13, 14, 15, 16, 17] rfl) (Zl ?_)))); obtain ⟨⟨p6, a7, B6⟩, u3, H⟩ := Yg H; refine rG Y13 rfl (Yt Za Ww mm10 rfl (Yt Za Wc mm19 rfl (Zd Za ?_))); refine Xa Zbd Za (fun wc hwc => Z8j (c0 := a9) (p1 := p1) (l2 := (l3.take (min (l3.length : Int) 200).toNat)) wc (Yz hwc mm11 e6 e7 e9) (Yz hwc mm12 f0 f1 f2) (Yz hwc mm13 f3 f4 f5) (Yz hwc mm14 f6 f7 f8) (Yz hwc mm15 f9 g0 g1) (rsB hwc mm16 g2 g3 g4) (a4.mono hwc) (a5.mono hwc) (a3.mono hwc) ((RS.take b0 h7).mono hwc) u3) ?_; rintro _ _ ⟨x4, B7, B8, x5, x6, B9, x7, C0, C1, x8, x9, C2, y0, C3, C4, y1, y2, C5, rfl, rfl, l5, l6, l7⟩; refine Zd Za (TO.extract Zb (TO.extract Zb (TO.extract Zb (Wv Yb Gr ?_)))); intro C6; refine Wv Yb Rd ?_; intro C7; refine Wi Za Zs Kb Yb (Wi Za Zs Gk Yb (aN Za (Zu (aT [3, 4, 6, 7, 11, 13, 14, 15, 16, 17, 18, 19, 20] rfl) (Zl (Zl ?_))))); rcases Zq H with ⟨j5, H⟩ | ⟨j5, H⟩
  · refine Xl 24 [0, 1, 2, 3, 4, 5, 6, 7, 8, 9, 10, 11, 12, 13, 14, 15, 16, 17, 18, 19, 20, 21, 22, 23] rfl Yx (by kernel_rfl) (by kernel_rfl) rfl (by kernel_rfl) ?_; refine TQ.move Za (TQ.move Za (Wb Zm (TQ.move Za (Xf (t := 63) (b' := true) rfl (decide_eq_true j5) (Zh Za (Zh Za (Zh Za (Kf Zb (TQ.move Za (Zh Za (Zh Za (Zh Za (Zh Za (Kf Zb (TQ.move Za (Zh Za ?_)))))))))))))))); refine Zh Za (Zh Za (Zh Za (Zh Za (Zh Za (Zh Za (Zh Za (Zh Za (TQ.tail [24, 25, 26] Yd (Zf Za (Zf Za (Ym Zb (dN (Zu (aT [3, 4, 6, 11, 13, 14, 86] rfl) (Xi Yd (sR Y1 rfl (aN Za ?_)))))))))))))))); refine T.ret (Zw ?_); obtain rfl := ret1 H; exact Zz Za (Res.tmp rfl) Zg ⟨rfl, rfl⟩
  ·
   rcases Zq H with ⟨j8, H⟩ | ⟨j8, H⟩
   · refine Xl 24 [0, 1, 2, 3, 4, 5, 6, 7, 8, 9, 10, 11, 12, 13, 14, 15, 16, 17, 18, 19, 20, 21, 22, 23] rfl Yx (by kernel_rfl) (by kernel_rfl) rfl (by kernel_rfl) ?_; refine TQ.move Za (TQ.move Za (Wb Zm (TQ.move Za (Xf (t := 63) (b' := false) rfl (decide_eq_false j5) (Wx Za Kw Wg rfl (Wx Za Kw Zk rfl ?_)))))); refine Z81 (us := [a6.Pushes, a6.Flat, a6.Steep, a6.Up, a6.Lifts, a6.Stale, a6.Given]) (ws := [a7.Pushes, a7.Flat, a7.Steep, a7.Up, a7.Lifts, a7.Stale, a7.Given]) [.i64, .i64, .i64, .i64, .i64, .i64, .i64] Z77 rr9 ?_; refine Ue Zb (TQ.move Za (Xf (t := 68) (b' := true) rfl j8 (Zh Za (Zh Za (Zh Za (Zh Za (Kf Zb (TQ.move Za (Zh Za (Zh Za (Zh Za (Zh Za (Zh Za (Zh Za (Zh Za (Zh Za ?_)))))))))))))))); refine Zh Za (TQ.tail [24, 25, 26] Yd (Zf Za (Zf Za (Ym Zb (dN (Zu (aT [3, 4, 6, 11, 13, 14, 86] rfl) (Xi Yd (sR Y1 rfl (aN Za (T.ret (Zw ?_))))))))))); obtain rfl := ret1 H; exact Zz Za (Res.tmp rfl) Zg ⟨rfl, rfl⟩
   ·
    obtain ⟨C8, p7, H⟩ := Yg H; rcases Zq H with ⟨m9, H⟩ | ⟨m9, H⟩
    · refine Xl 24 [0, 1, 2, 3, 4, 5, 6, 7, 8, 9, 10, 11, 12, 13, 14, 15, 16, 17, 18, 19, 20, 21, 22, 23] rfl Yx (by kernel_rfl) (by kernel_rfl) rfl (by kernel_rfl) ?_; refine TQ.move Za (TQ.move Za (Wb Zm (TQ.move Za (Xf (t := 63) (b' := false) rfl (decide_eq_false j5) (Wx Za Kw Wg rfl (Wx Za Kw Zk rfl ?_)))))); refine Z81 (us := [a6.Pushes, a6.Flat, a6.Steep, a6.Up, a6.Lifts, a6.Stale, a6.Given]) (ws := [a7.Pushes, a7.Flat, a7.Steep, a7.Up, a7.Lifts, a7.Stale, a7.Given]) [.i64, .i64, .i64, .i64, .i64, .i64, .i64] Z77 rr9 ?_; refine Ue Zb (TQ.move Za (Xf (t := 68) (b' := false) rfl (Bool.eq_false_iff.2 j8) (Wx Za Wc Ur rfl (Wx Za Wc Zv rfl ?_)))); refine Jz Z39 Za (fun wc hwc => Z2m (a0 := p5) (b1 := p6) wc (Yz hwc Kc k3 k4 k5) (Yz hwc Vw k6 k7 k8) (Yz hwc mm9 k9 l1 l4) ((Ws l5 a4).rs (fun _ => rfl) hwc Yq) ((Ws l6 a5).rs (fun _ => rfl) hwc Wk) ((Ws l7 a3).rs (fun _ => rfl) hwc Wr) p7) (by rintro _ _ ⟨rfl, rfl⟩; rfl) ?_; refine TQ.not Za (Ue Zb (TQ.move Za (Xf (t := 74) (b' := true) rfl m9 (Zh Za (Zh Za (Zh Za (Zh Za (Zh Za (Zh Za (Zh Za (Zh Za (Zh Za (TQ.tail [24, 25, 26] Yd (Zf Za (Zf Za (Ym Zb ?_)))))))))))))))); refine dN (Zu (aT [3, 4, 6, 11, 13, 14, 86] rfl) (Xi Yd (sR Y1 rfl (aN Za (T.ret (Zw ?_)))))); obtain rfl := ret1 H; exact Zz Za (Res.tmp rfl) Zg ⟨rfl, rfl⟩
    ·
     obtain ⟨C9, u5, H⟩ := Yg H; obtain ⟨D0, u6, H⟩ := Yg H; refine Xl 24 [0, 1, 2, 3, 4, 5, 6, 7, 8, 9, 10, 11, 12, 13, 14, 15, 16, 17, 18, 19, 20, 21, 22, 23] rfl Yx (by kernel_rfl) (by kernel_rfl) rfl (by kernel_rfl) ?_; refine TQ.move Za (TQ.move Za (Wb Zm (TQ.move Za (Xf (t := 63) (b' := false) rfl (decide_eq_false j5) (Wx Za Kw Wg rfl (Wx Za Kw Zk rfl ?_)))))); refine Z81 (us := [a6.Pushes, a6.Flat, a6.Steep, a6.Up, a6.Lifts, a6.Stale, a6.Given]) (ws := [a7.Pushes, a7.Flat, a7.Steep, a7.Up, a7.Lifts, a7.Stale, a7.Given]) [.i64, .i64, .i64, .i64, .i64, .i64, .i64] Z77 rr9 ?_; refine Ue Zb (TQ.move Za (Xf (t := 68) (b' := false) rfl (Bool.eq_false_iff.2 j8) (Wx Za Wc Ur rfl (Wx Za Wc Zv rfl ?_)))); refine Jz Z39 Za (fun wc hwc => Z2m (a0 := p5) (b1 := p6) wc (Yz hwc Kc k3 k4 k5) (Yz hwc Vw k6 k7 k8) (Yz hwc mm9 k9 l1 l4) ((Ws l5 a4).rs (fun _ => rfl) hwc Yq) ((Ws l6 a5).rs (fun _ => rfl) hwc Wk) ((Ws l7 a3).rs (fun _ => rfl) hwc Wr) p7) (by rintro _ _ ⟨rfl, rfl⟩; rfl) ?_; refine TQ.not Za (Ue Zb (TQ.move Za (Xf (t := 74) (b' := false) rfl (Bool.eq_false_iff.2 m9) (Wx Za Ww mm15 rfl (Wx Za Wc mm24 rfl (TQ.move Za (Wx Za Wc mm23 rfl ?_))))))); refine Jz Zc6 Za (fun wc hwc => Zci (c0 := a9) (p1 := p1) (l2 := (l3.take (min (l3.length : Int) 200).toNat)) (end3 := end2) wc (Yz hwc mm16 e6 e7 e9) (Yz hwc mm17 f0 f1 f2) (Yz hwc mm18 f3 f4 f5) (Yz hwc mm19 f6 f7 f8) (Yz hwc mm20 f9 g0 g1) (rsB hwc mm21 g2 g3 g4) (a4.mono hwc) (a5.mono hwc) (a3.mono hwc) ((RS.take b0 h7).mono hwc) (h4.mono hwc) (h6.mono hwc) (h2.mono hwc) u5) (by rintro _ _ ⟨rfl, rfl⟩; rfl) ?_; refine Wx Za Ww mm15 rfl (Wx Za Wc mm24 rfl (TQ.move Za (Wx Za Wc mm23 rfl (TQ.tail [24, 25, 26] Yd ?_)))); refine Xa Zdp Za (fun wc hwc => Zca (c0 := a9) (p1 := p1) (l2 := (l3.take (min (l3.length : Int) 200).toNat)) (end3 := end2) wc (Yz hwc mm16 e6 e7 e9) (Yz hwc mm17 f0 f1 f2) (Yz hwc mm18 f3 f4 f5) (Yz hwc mm19 f6 f7 f8) (Yz hwc mm20 f9 g0 g1) (rsB hwc mm21 g2 g3 g4) (a4.mono hwc) (a5.mono hwc) (a3.mono hwc) ((RS.take b0 h7).mono hwc) (h4.mono hwc) (h6.mono hwc) (h2.mono hwc) u6) ?_; rintro _ _ ⟨rfl, rfl⟩; refine Zt Zm (Yr Zb (dN (Zu (aT [3, 4, 6, 11, 13, 14, 86] rfl) ?_))); rcases Zq H with ⟨n5, H⟩ | ⟨n5, H⟩
     · refine Yp rfl n5 (sR Y1 rfl (aN Za (T.ret (Zw ?_)))); obtain rfl := ret1 H; exact Zz Za (Res.tmp rfl) Zg ⟨rfl, rfl⟩
     ·
      refine Yn rfl n5 (T.skip (Ya (Zl ?_))); obtain ⟨e5, u7, H⟩ := Yg H; obtain ⟨h1, u9, H⟩ := Yg H; refine rG Y8 rfl (Zd Za (Zd Za ?_)); refine Xa Zeg Za (fun wc hwc => Zdc (l0 := (l3.take (min (l3.length : Int) 200).toNat)) (workers1 := workers4) wc ((RS.take b0 h7).mono hwc) u7) ?_; rintro _ _ ⟨l8, v0, c201, v2, rfl, rfl, i2, l9, y3, m0⟩; refine Zd Za (Zd Za ?_); refine Xa Zdu Za (fun wc hwc => Zdo (l0 := (l3.take (min (l3.length : Int) 200).toNat)) (workers1 := workers4) wc ((RS.take b0 h7).mono hwc) u9) ?_; rintro _ _ ⟨m1, v3, v4, v5, rfl, rfl, j6, m2, y4, m3⟩; refine Xq Za (aN Za (Zu (aT [3, 6, 11, 13, 14, 21, 22] rfl) (Zl (sR Y5 rfl (Zd Za (Xo (xs := e5) i2 Zb Jg (Zd Za (Xo (xs := h1) j6 Zb Jg (Zt Zm (dN ?_)))))))))); rcases Zq H with ⟨n6, H⟩ | ⟨n6, H⟩
      · refine Yp rfl n6 (sR Y1 rfl (aN Za (Zu (aT [10] rfl) (T.ret (Zw ?_))))); obtain rfl := ret1 H; exact Zz Za (Res.tmp rfl) Zg ⟨rfl, rfl⟩
      ·
       refine Yn rfl n6 (T.skip (Ya (Zl (sR Y3 rfl (Zd Za (Xo (xs := e5) i2 Zb Jg (Zd Za (dN ?_)))))))); refine Wj (fun (n7 : Unit) => Z1x p1 l3 a9 g5 = some r0) (fun (n7 : Unit) => [(3, .slice h5 ((min (l3.length : Int) 200).toNat) h3), (6, pV b3), (11, pV p2), (13, pV g9), (14, sV d2 (0 + (min (l3.length : Int) 200).toNat) j7)]) (fun (n7 : Unit) => [(eC b3 #[.slice c7 c4 c8, .slice b7 b9 c9, .slice b8 d0 d1] 53), (eC p2 #[iV a9.N, iV a9.S, iV a9.T, sV i4 n22 c23, sV i5 n26 r9, sV i6 s6 s7, sV i7 s9 t0, sV i8 t2 c39, sV i9 t5 c43] 29), (eI i4 a9.First r8 3), (eI i5 a9.Head s1 3), (eI i6 a9.Rev s8 3), (eI i7 a9.Cap t1 2), (eI i8 a9.Arc t4 3), (eA i9 boolC a9.Back t6 4), (eC g9 #[sV g6 q3 q4, sV g7 q6 q7, sV g8 q9 r1] 53), (eI g6 g5.Res q5 2), (eI g7 g5.Ex q8 2), (eI g8 g5.H r2 3), (eA d2 Um (l3.take (min (l3.length : Int) 200).toNat) j0 40)]) ?_ ?_
       ·
        refine T.block ?_; obtain ⟨D1, D2, y5⟩ := Yg H; refine Jb (fun (p3 : Nat) (b6 : Int) => Yw (fun s => Rh e5 h1 s) p3 b6 = some D1) (fun (p3 : Nat) (b6 : Int) => [(3, .slice h5 ((min (l3.length : Int) 200).toNat) h3), (6, pV b3), (11, pV p2), (13, pV g9), (14, sV d2 (0 + (min (l3.length : Int) 200).toNat) j7), (21, sV l8 v0 c201), (22, sV m1 v3 v4), (99, iV (e5.length : Int)), (100, iV b6)]) (fun (p3 : Nat) (b6 : Int) => [(eC b3 #[.slice c7 c4 c8, .slice b7 b9 c9, .slice b8 d0 d1] 53), (eC p2 #[iV a9.N, iV a9.S, iV a9.T, sV i4 n22 c23, sV i5 n26 r9, sV i6 s6 s7, sV i7 s9 t0, sV i8 t2 c39, sV i9 t5 c43] 29), (eI i4 a9.First r8 3), (eI i5 a9.Head s1 3), (eI i6 a9.Rev s8 3), (eI i7 a9.Cap t1 2), (eI i8 a9.Arc t4 3), (eA i9 boolC a9.Back t6 4), (eC g9 #[sV g6 q3 q4, sV g7 q6 q7, sV g8 q9 r1] 53), (eI g6 g5.Res q5 2), (eI g7 g5.Ex q8 2), (eI g8 g5.H r2 3), (eA d2 Um (l3.take (min (l3.length : Int) 200).toNat) j0 40), (eA l8 Vq e5 v2 91), (eA m1 Vq h1 v5 91)]) (fun (p3 : Nat) (b6 : Int) => p3) Yh 0 D2 (aF rfl) (Zc tk26 (Zc Lp (Zc Lp (Zc Lp (Zc Lp (Zc Lp (Zc Lp (Zc Lp (Zc tk12 (Zc tk13 (Zc tk13 (Zc tk13 (Zc tk12 (Zc Zs (Zc Ze Zg))))))))))))))) ?_; rintro p3 b6 H; obtain ⟨D3, D4, rfl, H, v6⟩ := Vb H; have H : Rh e5 h1 b6 = some D4 := H; unfold Rh at H; refine sR Y1 rfl (Zt Zm (dS ?_)); rcases Zq H with ⟨n8, H⟩ | ⟨n8, H⟩
        ·
         refine Yp rfl n8 (T.skip (Ya (Zl (T.block (sR Y2 rfl (Zd Za (aN Za (Zl ?_)))))))); obtain ⟨p8, p9, H⟩ := Vf H; refine Xl 8 [0, 1, 2, 3, 4, 5, 6, 7] rfl Yx (by kernel_rfl) (by kernel_rfl) rfl (by kernel_rfl) ?_; refine TQ.move Za (TQ.move Za (Kn m0 l9 i2 p8 Zb Jg Gg ?_)); refine Zam (f := Vq) (cs := [iV ((e5.getD b6.toNat default).Pushes), iV ((e5.getD b6.toNat default).Lifts)]) default (fun _ => rfl) m0 l9 i2 p8 Zb Z8q mm13 ?_; refine TQ.move Za (TQ.move Za (Kn m3 m2 j6 p9 Zb Jg Gg ?_)); refine Zam (f := Vq) (cs := [iV ((h1.getD b6.toNat default).Pushes), iV ((h1.getD b6.toNat default).Lifts)]) default (fun _ => rfl) m3 m2 j6 p9 Zb Z8q mm14 ?_; refine TQ.tail [8] Yd ?_; refine TO.neS (us := [(e5.getD b6.toNat default).Pushes, (e5.getD b6.toNat default).Lifts]) (ws := [(h1.getD b6.toNat default).Pushes, (h1.getD b6.toNat default).Lifts]) [.i64, .i64] Zd8 rr9 ?_; refine dN (Zu (aT [3, 6, 11, 13, 14, 21, 22, 99, 100, 111] rfl) ?_); rcases Zq H with ⟨n9, H⟩ | ⟨n9, H⟩
         · refine Xi ⟨rfl, n9⟩ (sR Y1 rfl (aN Za (Zu (aT [10] rfl) (T.ret (Xn (Zw ?_)))))); have H := Xp H v6 ▸ y5; refine Zw (Xn (Zw ?_)); obtain rfl := ret1 H; exact Zz Za (Res.tmp rfl) Zg ⟨rfl, rfl⟩
         · refine Wu rfl (Bool.eq_false_iff.2 n9) (T.skip (Xu (Ya ?_))); obtain ⟨v7, H⟩ := Zy H; refine rG Y2 rfl (Ys v7 Zb (Zd Za (Zo ?_))); have H := We H v6; exact Kk D3 (b6 + 1) H (Nat.lt_succ_self _) (aF rfl) (Zc Ze (Zc Ze (Zc Ze (Zc Ze (Zc Ze (Zc Ze (Zc Ze (Zc Ze (Zc Ze (Zc Ze (Zc Ze (Zc Ze (Zc Ze (Zc Ze (Zc Ze Zg)))))))))))))))
        · refine Yn rfl n8 (T.exit (Xh ?_)); have H := Xp H v6 ▸ y5; refine Xh (Wt ?_); exact Xk () H (aF rfl) (Zc Ze (Zc Ze (Zc Ze (Zc Ze (Zc Ze (Zc Ze (Zc Ze (Zc Ze (Zc Ze (Zc Ze (Zc Ze (Zc Ze (Zc Ze Zg)))))))))))))
       ·
        rintro n7 H; unfold Z1x at H; refine Zl (Zl ?_); obtain ⟨D5, v8, H⟩ := Yg H; refine rG Y3 rfl (Yt Za Ww Zv rfl (Yt Za Wc Zk rfl ?_)); refine Xa Zb0 Za (fun wc hwc => Z92 (c0 := a9) (p1 := p1) wc (Yz hwc Yq e6 e7 e9) (Yz hwc Wk f0 f1 f2) (Yz hwc Wr f3 f4 f5) (Yz hwc Wg f6 f7 f8) (Yz hwc Ur f9 g0 g1) (rsB hwc Kc g2 g3 g4) (a4.mono hwc) (a5.mono hwc) (a3.mono hwc) v8) ?_; rintro _ _ ⟨rfl, rfl⟩; refine dN ?_; refine Wj (fun (o0 : Unit) => Rn p1 l3 g5 = some r0) (fun (o0 : Unit) => [(3, .slice h5 ((min (l3.length : Int) 200).toNat) h3), (6, pV b3), (13, pV g9), (14, sV d2 (0 + (min (l3.length : Int) 200).toNat) j7)]) (fun (o0 : Unit) => [(eC b3 #[.slice c7 c4 c8, .slice b7 b9 c9, .slice b8 d0 d1] 53), (eC g9 #[sV g6 q3 q4, sV g7 q6 q7, sV g8 q9 r1] 53), (eI g6 g5.Res q5 2), (eI g7 g5.Ex q8 2), (eI g8 g5.H r2 3), (eA d2 Um (l3.take (min (l3.length : Int) 200).toNat) j0 40)]) ?_ ?_
        ·
         rcases Zq H with ⟨o1, H⟩ | ⟨o1, H⟩
         ·
          refine Xi ⟨rfl, o1⟩ (sR Y3 rfl (Zd Za (Xo (xs := (l3.take (min (l3.length : Int) 200).toNat)) ((RS.take b0 h7).len) Zb Vr (Zd Za (dN (T.block ?_)))))); obtain ⟨D6, D7, y6⟩ := Yg H; refine Jb (fun (p4 : Nat) (a8 : Int) => Yw (fun s => Z3h p1 l3 a9 s) p4 a8 = some D6) (fun (p4 : Nat) (a8 : Int) => [(3, .slice h5 ((min (l3.length : Int) 200).toNat) h3), (6, pV b3), (11, pV p2), (13, pV g9), (14, sV d2 (0 + (min (l3.length : Int) 200).toNat) j7), (116, .slice h5 ((min (l3.length : Int) 200).toNat) h3), (117, iV ((l3.take (min (l3.length : Int) 200).toNat).length : Int)), (118, iV a8)]) (fun (p4 : Nat) (a8 : Int) => [(eC b3 #[.slice c7 c4 c8, .slice b7 b9 c9, .slice b8 d0 d1] 53), (eC p2 #[iV a9.N, iV a9.S, iV a9.T, sV i4 n22 c23, sV i5 n26 r9, sV i6 s6 s7, sV i7 s9 t0, sV i8 t2 c39, sV i9 t5 c43] 29), (eI i4 a9.First r8 3), (eI i5 a9.Head s1 3), (eI i6 a9.Rev s8 3), (eI i7 a9.Cap t1 2), (eI i8 a9.Arc t4 3), (eA i9 boolC a9.Back t6 4), (eC g9 #[sV g6 q3 q4, sV g7 q6 q7, sV g8 q9 r1] 53), (eI g6 g5.Res q5 2), (eI g7 g5.Ex q8 2), (eI g8 g5.H r2 3), (eA d2 Um (l3.take (min (l3.length : Int) 200).toNat) j0 40)]) (fun (p4 : Nat) (a8 : Int) => p4) Yh 0 D7 (aF rfl) (Zc Ze (Zc Ze (Zc Ze (Zc Ze (Zc Ze (Zc Ze (Zc Ze (Zc Ze (Zc Ze (Zc Ze (Zc Ze (Zc Ze (Zc Ze Zg))))))))))))) ?_; rintro p4 a8 H; obtain ⟨y7, D8, rfl, H, r3⟩ := Vb H; have H : Z3h p1 l3 a9 a8 = some D8 := H; unfold Z3h at H; refine sR Y1 rfl (Zt Zm (dS ?_)); rcases Zq H with ⟨o2, H⟩ | ⟨o2, H⟩
          ·
           refine Yp rfl o2 (T.skip (Ya (Zl (T.block ?_)))); obtain ⟨q0, H⟩ := Zy H; refine sR Y4 rfl (Wh (RS.take b0 h7) q0 Zb Vr Uj ?_); refine Rg (cs := [iV (((l3.take (min (l3.length : Int) 200).toNat).getD a8.toNat default).Who), .int .u8 (((l3.take (min (l3.length : Int) 200).toNat).getD a8.toNat default).What), iV (((l3.take (min (l3.length : Int) 200).toNat).getD a8.toNat default).U), iV (((l3.take (min (l3.length : Int) 200).toNat).getD a8.toNat default).Arc), iV (((l3.take (min (l3.length : Int) 200).toNat).getD a8.toNat default).D), iV (((l3.take (min (l3.length : Int) 200).toNat).getD a8.toNat default).H), iV (((l3.take (min (l3.length : Int) 200).toNat).getD a8.toNat default).Low)]) default (RS.take b0 h7) q0 Zb Ua ?_; refine Wv Yb Z1j ?_; intro D9; refine Wi Za Ze Uj Yb (dS ?_); obtain ⟨E0, q1, H⟩ := Yg H; rcases Zq H with ⟨o4, H⟩ | ⟨o4, H⟩
           ·
            obtain ⟨E1, v9, H⟩ := Yg H; obtain ⟨E2, w0, H⟩ := Yg H; refine Xl 13 [0, 1, 2, 3, 4, 5, 6, 7, 8, 9, 10, 11, 12] rfl Yx (by kernel_rfl) (by kernel_rfl) rfl (by kernel_rfl) ?_; refine Wx Za Ww Yq rfl (Wx Za Wc Zv rfl (Wx Za Ua Zk rfl ?_)); refine Jz Z64 Za (fun wc hwc => Z4q (c0 := a9) (p1 := p1) (e2 := ((l3.take (min (l3.length : Int) 200).toNat).getD a8.toNat default)) wc (Yz hwc Wk e6 e7 e9) (Yz hwc Wr f0 f1 f2) (Yz hwc Wg f3 f4 f5) (Yz hwc Ur f6 f7 f8) (Yz hwc Kc f9 g0 g1) (rsB hwc Vw g2 g3 g4) (a4.mono hwc) (a5.mono hwc) (a3.mono hwc) q1) (by rintro _ _ ⟨rfl, rfl⟩; rfl) ?_; refine Wb Zm (TQ.move Za (Xf (t := 127) (b' := true) rfl (decide_eq_true o4) (Wx Za Ww Yq rfl (Wx Za Wc Zv rfl (Wx Za Ua Zk rfl ?_))))); refine Jz Z96 Za (fun wc hwc => Zbp (c0 := a9) (p1 := p1) (e2 := ((l3.take (min (l3.length : Int) 200).toNat).getD a8.toNat default)) wc (Yz hwc Wk e6 e7 e9) (Yz hwc Wr f0 f1 f2) (Yz hwc Wg f3 f4 f5) (Yz hwc Ur f6 f7 f8) (Yz hwc Kc f9 g0 g1) (rsB hwc Vw g2 g3 g4) (a4.mono hwc) (a5.mono hwc) (a3.mono hwc) v9) (by rintro _ _ ⟨rfl, rfl⟩; rfl) ?_; refine Wx Za Ww Yq rfl (Wx Za Wc Zv rfl (Wx Za Ua Zk rfl (TQ.tail [13, 14, 15] Yd ?_))); refine Xa Zao Za (fun wc hwc => Z98 (c0 := a9) (p1 := p1) (e2 := ((l3.take (min (l3.length : Int) 200).toNat).getD a8.toNat default)) wc (Yz hwc Wk e6 e7 e9) (Yz hwc Wr f0 f1 f2) (Yz hwc Wg f3 f4 f5) (Yz hwc Ur f6 f7 f8) (Yz hwc Kc f9 g0 g1) (rsB hwc Vw g2 g3 g4) (a4.mono hwc) (a5.mono hwc) (a3.mono hwc) w0) ?_; rintro _ _ ⟨rfl, rfl⟩; refine TO.neb Zb Zcu (Ym Zb (dN (Zu (aT [3, 6, 11, 13, 14, 116, 117, 118, 128, 129, 130, 131, 132, 133, 134, 135, 136, 137] rfl) ?_))); rcases Zq H with ⟨o5, H⟩ | ⟨o5, H⟩
            · refine Xi ⟨rfl, o5⟩ (sR Y1 rfl (aN Za (Zu (aT [10] rfl) (T.ret (Xn (Zw ?_)))))); have H := Xp H r3 ▸ y6; refine Zw (Xn (Zw ?_)); obtain rfl := ret1 H; exact Zz Za (Res.tmp rfl) Zg ⟨rfl, rfl⟩
            · refine Wu rfl (Bool.eq_false_iff.2 o5) (T.skip (Xu (Ya ?_))); obtain ⟨w1, H⟩ := Zy H; refine rG Y2 rfl (Ys w1 Zb (Zd Za (Zo ?_))); have H := We H r3; exact Kk y7 (a8 + 1) H (Nat.lt_succ_self _) (aF rfl) (Zc Zs (Zc Zs (Zc Zs (Zc Zs (Zc Zs (Zc Zs (Zc Zs (Zc Zs (Zc Zs (Zc Zs (Zc Zs (Zc Zs (Zc Zs Zg)))))))))))))
           · refine Xl 13 [0, 1, 2, 3, 4, 5, 6, 7, 8, 9, 10, 11, 12] rfl Yx (by kernel_rfl) (by kernel_rfl) rfl (by kernel_rfl) ?_; refine Wx Za Ww Yq rfl (Wx Za Wc Zv rfl (Wx Za Ua Zk rfl ?_)); refine Jz Z64 Za (fun wc hwc => Z4q (c0 := a9) (p1 := p1) (e2 := ((l3.take (min (l3.length : Int) 200).toNat).getD a8.toNat default)) wc (Yz hwc Wk e6 e7 e9) (Yz hwc Wr f0 f1 f2) (Yz hwc Wg f3 f4 f5) (Yz hwc Ur f6 f7 f8) (Yz hwc Kc f9 g0 g1) (rsB hwc Vw g2 g3 g4) (a4.mono hwc) (a5.mono hwc) (a3.mono hwc) q1) (by rintro _ _ ⟨rfl, rfl⟩; rfl) ?_; refine Wb Zm (TQ.move Za (Xf (t := 127) (b' := false) rfl (decide_eq_false o4) (Zh Za (Zh Za (Zh Za (Zh Za (Zh Za (Zh Za (Zh Za (TQ.tail [13, 14, 15] Yd (Zf Za (Zf Za (Yr Zb (dN (Zu (aT [3, 6, 11, 13, 14, 116, 117, 118, 128, 129, 130, 131, 132, 133, 134, 135, 136, 137] rfl) (Wu rfl rfl ?_)))))))))))))))); refine T.skip (Xu (Ya ?_)); obtain ⟨w2, H⟩ := Zy H; refine rG Y2 rfl (Ys w2 Zb (Zd Za (Zo ?_))); have H := We H r3; exact Kk y7 (a8 + 1) H (Nat.lt_succ_self _) (aF rfl) (Zc Zs (Zc Zs (Zc Zs (Zc Zs (Zc Zs (Zc Zs (Zc Zs (Zc Zs (Zc Zs (Zc Zs (Zc Zs (Zc Zs (Zc Zs Zg)))))))))))))
          · refine Yn rfl o2 (T.exit (Xh ?_)); have H := Xp H r3 ▸ y6; exact Xh (Wt (Xk () H (aF rfl) (Zc Ze (Zc Wy (Zc Wy (Zc Wy (Zc Wy (Zc Wy Zg))))))))
         · exact Wu rfl (Bool.eq_false_iff.2 o1) (T.skip (Xk () H (aF rfl) (Zc Ze (Zc Wy (Zc Wy (Zc Wy (Zc Wy (Zc Wy Zg))))))))
        ·
         rintro o0 H; unfold Rn at H; refine Zl ?_; obtain ⟨E3, o6, H⟩ := Yg H; rcases Zq H with ⟨j9, H⟩ | ⟨j9, H⟩
         ·
          obtain ⟨E4, q2, H⟩ := Yg H; rcases Zq H with ⟨o7, H⟩ | ⟨o7, H⟩
          · obtain ⟨E5, w3, H⟩ := Yg H; refine rG Y12 rfl (Yt Za Wc Zk rfl (Yt Za Wc Zv rfl ?_)); refine Xa Z39 Za (fun wc hwc => Z2m (a0 := p1) (b1 := g5) wc (a4.mono hwc) (a5.mono hwc) (a3.mono hwc) (Yz hwc Yq m4 m5 m6) (Yz hwc Wk m7 m8 j1) (Yz hwc Wr j2 j3 j4) o6) ?_; rintro _ _ ⟨rfl, rfl⟩; refine Zd Za (Yc (t := 142) (b' := true) rfl j9 (Zd Za (Zd Za ?_))); refine Xa Zbo Za (fun wc hwc => Z9e (a0 := (l3.take (min (l3.length : Int) 200).toNat)) (b1 := (l3.take (min (l3.length : Int) 200).toNat)) wc ((RS.take b0 h7).mono hwc) (hwc.rs (f := Um) (s := 7) (xs := (l3.take (min (l3.length : Int) 200).toNat)) (j := j0) (fun _ => rfl) Wg (Vd ((RS.take b0 h7).len)) k1 k2) q2) ?_; rintro _ _ ⟨rfl, rfl⟩; refine Ym Zb (Zd Za (Yc (t := 147) (b' := true) rfl o7 ?_)); refine Xa Zfc Za (fun wc hwc => Zd7  wc  w3) ?_; rintro _ _ ⟨rfl, rfl⟩; refine Ym Zb (aN Za (Zu (aT [10] rfl) (T.ret ?_))); obtain rfl := ret1 H; exact Zz Za (Res.tmp rfl) Zg ⟨rfl, rfl⟩
          · refine rG Y12 rfl (Yt Za Wc Zk rfl (Yt Za Wc Zv rfl ?_)); refine Xa Z39 Za (fun wc hwc => Z2m (a0 := p1) (b1 := g5) wc (a4.mono hwc) (a5.mono hwc) (a3.mono hwc) (Yz hwc Yq m4 m5 m6) (Yz hwc Wk m7 m8 j1) (Yz hwc Wr j2 j3 j4) o6) ?_; rintro _ _ ⟨rfl, rfl⟩; refine Zd Za (Yc (t := 142) (b' := true) rfl j9 (Zd Za (Zd Za ?_))); refine Xa Zbo Za (fun wc hwc => Z9e (a0 := (l3.take (min (l3.length : Int) 200).toNat)) (b1 := (l3.take (min (l3.length : Int) 200).toNat)) wc ((RS.take b0 h7).mono hwc) (hwc.rs (f := Um) (s := 7) (xs := (l3.take (min (l3.length : Int) 200).toNat)) (j := j0) (fun _ => rfl) Wg (Vd ((RS.take b0 h7).len)) k1 k2) q2) ?_; rintro _ _ ⟨rfl, rfl⟩; refine Ym Zb (Zd Za (Yc (t := 147) (b' := false) rfl (Bool.eq_false_iff.2 o7) (Zf Za (Yr Zb (aN Za (Zu (aT [10] rfl) (T.ret ?_))))))); obtain rfl := ret1 H; exact Zz Za (Res.tmp rfl) Zg ⟨rfl, rfl⟩
         · refine rG Y12 rfl (Yt Za Wc Zk rfl (Yt Za Wc Zv rfl ?_)); refine Xa Z39 Za (fun wc hwc => Z2m (a0 := p1) (b1 := g5) wc (a4.mono hwc) (a5.mono hwc) (a3.mono hwc) (Yz hwc Yq m4 m5 m6) (Yz hwc Wk m7 m8 j1) (Yz hwc Wr j2 j3 j4) o6) ?_; rintro _ _ ⟨rfl, rfl⟩; refine Zd Za (Yc (t := 142) (b' := false) rfl (Bool.eq_false_iff.2 j9) (Zf Za (Zf Za (Zf Za (Yr Zb (Zd Za (Zf Za (Yr Zb (aN Za (Zu (aT [10] rfl) (T.ret ?_))))))))))); obtain rfl := ret1 H; exact Zz Za (Res.tmp rfl) Zg ⟨rfl, rfl⟩
end Go.Proofs.YtobnnpdfeakbbaaGreat.Ax
namespace Go.Acq
open Go
def Ui (a : Arc) (v : Nat) : Nat := if a.fr = a.to then 0 else if a.fr = v ∨ a.to = v then 1 else 0
def cnt (al : List Arc) (v : Nat) : Nat → Nat
  | 0 => 0
  | k + 1 => cnt al v k + Ui (al.getD k default) v
def Yl (al : List Arc) : Nat → Nat
  | 0 => 0
  | v + 1 => Yl al v + cnt al v al.length
def Xe (a : Arc) (s : Bool) : Int := if s then a.to else a.fr
def pos (al : List Arc) (i : Nat) (s : Bool) : Nat := Yl al (Xe (al.getD i default) s).toNat + cnt al (Xe (al.getD i default) s).toNat i
def Kz (n : Nat) (al : List Arc) : Prop := ∀ i, i < al.length → ∀ s, 0 ≤ Xe (al.getD i default) s ∧ Xe (al.getD i default) s < n
theorem Vp {α : Type} (xs : List α) (i j : Nat) (v d : α) : (xs.set i v).getD j d = if i = j ∧ i < xs.length then v else xs.getD j d := by
 rw [List.getD_eq_getElem?_getD, List.getD_eq_getElem?_getD, List.getElem?_set]
 split
 ·
  rename_i h; subst h
  split
  · rename_i h2; simp [h2]
  · rename_i h2; simp [h2]
 · rename_i h; simp [h]
theorem Jk {α : Type} {xs : List α} {i j : Nat} {v d : α} (h : i ≠ j) : (xs.set i v).getD j d = xs.getD j d := by
 rw [Vp, if_neg (fun e => h e.1)]
theorem Z7f {α : Type} {xs : List α} {i : Nat} {v d : α} (h : i < xs.length) : (xs.set i v).getD i d = v := by
 rw [Vp, if_pos ⟨rfl, h⟩]
theorem Z40 {α : Type} (n j : Nat) (v : α) : (List.replicate n v).getD j v = v := by
 rw [List.getD_eq_getElem?_getD, List.getElem?_replicate]; split <;> simp
theorem Z83 (a : Arc) (v : Nat) : Ui a v ≤ 1 := by unfold Ui; split; omega; split <;> omega
theorem Z8u {al : List Arc} {v i j : Nat} (h : i ≤ j) : cnt al v i ≤ cnt al v j := by
 induction h with
 | refl => exact Nat.le_refl _
 | step _ ih => exact Nat.le_trans ih (Nat.le_add_right _ _)
theorem cnt_le (al : List Arc) (v k : Nat) : cnt al v k ≤ k := by
 induction k with
 | zero => exact Nat.le_refl _
 | succ k ih => have := Z83 (al.getD k default) v; simp only [cnt]; omega
theorem Nu {al : List Arc} {u v : Nat} (h : u ≤ v) : Yl al u ≤ Yl al v := by
 induction h with
 | refl => exact Nat.le_refl _
 | step _ ih => exact Nat.le_trans ih (Nat.le_add_right _ _)
theorem Zcw (al : List Arc) (v : Nat) : Yl al v ≤ v * al.length := by
 induction v with
 | zero => exact Nat.zero_le _
 | succ v ih => have := cnt_le al v al.length; simp only [Yl, Nat.succ_mul]; omega
theorem hit_vtx {a : Arc} {s : Bool} (h : a.fr ≠ a.to) (h0 : 0 ≤ Xe a s) : Ui a (Xe a s).toNat = 1 := by
 unfold Ui; rw [if_neg h, if_pos]
 cases s
 · left; simp only [Xe] at h0 ⊢; simp only [Bool.false_eq_true, if_false] at h0 ⊢; omega
 · right; simp only [Xe] at h0 ⊢; simp only [if_true] at h0 ⊢; omega
theorem Lx {al : List Arc} {i j : Nat} {s : Bool} (hij : i < j) (h : (al.getD i default).fr ≠ (al.getD i default).to) (h0 : 0 ≤ Xe (al.getD i default) s) :
    cnt al (Xe (al.getD i default) s).toNat i < cnt al (Xe (al.getD i default) s).toNat j := by
  have h1 := Z8u (al := al) (v := (Xe (al.getD i default) s).toNat) (i := i + 1) (j := j) hij
  have h2 := hit_vtx h h0
  simp only [cnt] at h1
  omega
theorem Nl {al : List Arc} {n i : Nat} {s : Bool} (hi : i < al.length) (h : (al.getD i default).fr ≠ (al.getD i default).to) (he : Kz n al) : pos al i s < Yl al n := by
 have h1 := Lx (s := s) hi h (he i hi s).1
 have h2 := Nu (al := al) (u := (Xe (al.getD i default) s).toNat + 1) (v := n) (by have := he i hi s; omega)
 simp only [Yl] at h2
 unfold pos; omega
theorem Ky {al : List Arc} {n i j : Nat} {s t : Bool} (he : Kz n al) (hi : i < al.length) (hj : j < al.length) (h : (al.getD i default).fr ≠ (al.getD i default).to) (g : (al.getD j default).fr ≠ (al.getD j default).to)
    (e : pos al i s = pos al j t) : i = j ∧ s = t := by
  have hi1 := Lx (s := s) hi h (he i hi s).1
  have hj1 := Lx (s := t) hj g (he j hj t).1
  have hv : (Xe (al.getD i default) s).toNat = (Xe (al.getD j default) t).toNat := by
    rcases Nat.lt_trichotomy (Xe (al.getD i default) s).toNat (Xe (al.getD j default) t).toNat with h1 | h1 | h1
    · have := Nu (al := al) (u := (Xe (al.getD i default) s).toNat + 1) h1
      simp only [Yl] at this
      unfold pos at e; omega
    · exact h1
    · have := Nu (al := al) (u := (Xe (al.getD j default) t).toNat + 1) h1
      simp only [Yl] at this
      unfold pos at e; omega
  have hij : i = j := by
    rcases Nat.lt_trichotomy i j with h1 | h1 | h1
    · have h2 := Lx (s := s) h1 h (he i hi s).1
      unfold pos at e; rw [hv] at e h2; omega
    · exact h1
    · have h2 := Lx (s := t) h1 g (he j hj t).1
      unfold pos at e; rw [hv] at e; omega
  refine ⟨hij, ?_⟩
  subst hij
  have h1 := (he i hi s).1
  have h2 := (he i hi t).1
  cases s <;> cases t <;> first | rfl | (simp only [Xe, Bool.false_eq_true, if_false, if_true] at hv h1 h2; omega)
theorem Z9f {al : List Arc} {v r : Nat} : ∀ {k : Nat}, r < cnt al v k → ∃ i, i < k ∧ cnt al v i = r ∧ Ui (al.getD i default) v = 1
 | 0, h => by simp [cnt] at h
 | k + 1, h => by
  by_cases h1 : r < cnt al v k
  · obtain ⟨i, h2, h3⟩ := Z9f h1; exact ⟨i, by omega, h3⟩
  ·
   have := Z83 (al.getD k default) v
   simp only [cnt] at h
   exact ⟨k, by omega, by omega, by omega⟩
theorem Z9m {al : List Arc} {p : Nat} : ∀ {n : Nat}, p < Yl al n → ∃ v, v < n ∧ Yl al v ≤ p ∧ p < Yl al (v + 1)
 | 0, h => by simp [Yl] at h
 | n + 1, h => by
  by_cases h1 : p < Yl al n
  · obtain ⟨v, h2, h3⟩ := Z9m h1; exact ⟨v, by omega, h3⟩
  · exact ⟨n, by omega, by omega, h⟩
theorem Z4z {al : List Arc} {n p : Nat} (h : p < Yl al n) : ∃ i s, i < al.length ∧ (al.getD i default).fr ≠ (al.getD i default).to ∧ pos al i s = p ∧ 0 ≤ Xe (al.getD i default) s ∧ Xe (al.getD i default) s < n ∧
    Yl al (Xe (al.getD i default) s).toNat ≤ p ∧ p < Yl al ((Xe (al.getD i default) s).toNat + 1) := by
  obtain ⟨v, hv, h1, h2⟩ := Z9m h
  simp only [Yl] at h2
  obtain ⟨i, hi, h3, h4⟩ := Z9f (al := al) (v := v) (r := p - Yl al v) (k := al.length) (by omega)
  unfold Ui at h4
  split at h4
  · omega
  · rename_i hne
    split at h4
    · rename_i ho
      rcases ho with ho | ho
      · refine ⟨i, false, hi, hne, ?_, ?_, ?_, ?_, ?_⟩ <;> simp only [pos, Xe, Bool.false_eq_true, if_false, ho, Int.toNat_natCast, Yl] <;> omega
      · refine ⟨i, true, hi, hne, ?_, ?_, ?_, ?_, ?_⟩ <;> simp only [pos, Xe, if_true, ho, Int.toNat_natCast, Yl] <;> omega
    · omega
def CsrAt (al : List Arc) (hs rs cs aa : List Int) (bs : List Bool) (k : Nat) : Prop :=
  ∀ i, i < k → (al.getD i default).fr ≠ (al.getD i default).to → ∀ s,
    hs.getD (pos al i s) 0 = Xe (al.getD i default) (!s) ∧ rs.getD (pos al i s) 0 = pos al i (!s) ∧ cs.getD (pos al i s) 0 = (if s then 0 else (al.getD i default).cap) ∧
    aa.getD (pos al i s) 0 = i ∧ bs.getD (pos al i s) false = s
structure CsrOK (al : List Arc) (n : Nat) (fs hs rs cs aa : List Int) (bs : List Bool) : Prop where
  lf : fs.length = n + 1
  lh : hs.length = Yl al n
  lr : rs.length = Yl al n
  lc : cs.length = Yl al n
  la : aa.length = Yl al n
  lb : bs.length = Yl al n
  hf : ∀ v, v ≤ n → fs.getD v 0 = Yl al v
  hat : CsrAt al hs rs cs aa bs al.length
theorem CsrAt.skip {al : List Arc} {hs rs cs aa : List Int} {bs : List Bool} {k : Nat} (h : CsrAt al hs rs cs aa bs k) (e : (al.getD k default).fr = (al.getD k default).to) : CsrAt al hs rs cs aa bs (k + 1) := by
 intro i hi hne s
 rcases Nat.lt_succ_iff_lt_or_eq.1 hi with h1 | h1
 · exact h i h1 hne s
 · subst h1; exact absurd e hne
theorem set2 {α : Type} {xs : List α} {p q j : Nat} {u v d : α} (hp : p < xs.length) (hq : q < xs.length) (hpq : p ≠ q) :
    ((xs.set p u).set q v).getD j d = if j = p then u else if j = q then v else xs.getD j d := by
  rw [Vp, Vp]
  by_cases h1 : j = p
  · subst h1; rw [if_pos rfl, if_neg (fun e => hpq e.1.symm), if_pos ⟨rfl, hp⟩]
  · rw [if_neg h1]
    by_cases h2 : j = q
    · subst h2; rw [if_pos rfl, if_pos ⟨rfl, by simpa using hq⟩]
    · rw [if_neg h2, if_neg (fun e => h2 e.1.symm), if_neg (fun e => h1 e.1.symm)]
theorem CsrAt.put {al : List Arc} {n : Nat} {hs rs cs aa : List Int} {bs : List Bool} {k : Nat} (h : CsrAt al hs rs cs aa bs k) (he : Kz n al) (hk : k < al.length) (hne : (al.getD k default).fr ≠ (al.getD k default).to)
    (lh : hs.length = Yl al n) (lr : rs.length = Yl al n) (lc : cs.length = Yl al n) (la : aa.length = Yl al n) (lb : bs.length = Yl al n) :
    CsrAt al ((hs.set (pos al k false) (al.getD k default).to).set (pos al k true) (al.getD k default).fr) ((rs.set (pos al k false) (pos al k true)).set (pos al k true) (pos al k false))
      ((cs.set (pos al k false) (al.getD k default).cap).set (pos al k true) 0) ((aa.set (pos al k false) k).set (pos al k true) k) ((bs.set (pos al k false) false).set (pos al k true) true) (k + 1) := by
  have hp : pos al k false < Yl al n := Nl hk hne he
  have hq : pos al k true < Yl al n := Nl hk hne he
  have hpq : pos al k false ≠ pos al k true := fun e => by have := (Ky he hk hk hne hne e).2; cases this
  intro i hi hni s
  have hil : i < al.length := by omega
  rw [set2 (by omega) (by omega) hpq, set2 (by omega) (by omega) hpq, set2 (by omega) (by omega) hpq, set2 (by omega) (by omega) hpq, set2 (by omega) (by omega) hpq]
  by_cases hik : i = k
  · subst hik
    cases s
    · simp [Xe]
    · simp [Xe, hpq.symm]
  · have h1 : pos al i s ≠ pos al k false := fun e => hik (Ky he hil hk hni hne e).1
    have h2 : pos al i s ≠ pos al k true := fun e => hik (Ky he hil hk hni hne e).1
    simp only [if_neg h1, if_neg h2]
    exact h i (by omega) hni s
def Counted (al : List Arc) (m k : Nat) (fs : List Int) : Prop := fs.length = m + 1 ∧ fs.getD 0 0 = 0 ∧ ∀ v : Int, 0 ≤ v → v < m → fs.getD (v + 1).toNat 0 = cnt al v.toNat k
def Summed (al : List Arc) (m k : Nat) (fs : List Int) : Prop := fs.length = m + 1 ∧ (∀ u, u ≤ k → fs.getD u 0 = Yl al u) ∧ ∀ u, k ≤ u → u < m → fs.getD (u + 1) 0 = cnt al u al.length
theorem Z7y {al : List Arc} {v : Nat} (hv : v ≤ 4096) (hl : al.length ≤ 16384) : Yl al v ≤ 67108864 :=
 Nat.le_trans (Zcw al v) (Nat.mul_le_mul hv hl)
theorem Counted.start (al : List Arc) (m : Nat) {p : Nat} (h : p = m + 1) : Counted al m 0 (List.replicate p 0) :=
 ⟨by simp [h], Z40 _ _ _, fun v _ _ => by rw [Z40]; rfl⟩
theorem Counted.skip {al : List Arc} {m k : Nat} {fs : List Int} (h : Counted al m k fs) (e : (al.getD k default).fr = (al.getD k default).to) : Counted al m (k + 1) fs :=
 ⟨h.1, h.2.1, fun v h0 h1 => by rw [h.2.2 v h0 h1]; simp only [cnt, Ui, if_pos e, Nat.add_zero]⟩
theorem Counted.put {al : List Arc} {m k : Nat} {fs : List Int} (h : Counted al m k fs) (he : Kz m al) (hk : k < al.length) (hne : (al.getD k default).fr ≠ (al.getD k default).to) :
    Counted al m (k + 1) ((fs.set ((al.getD k default).fr + 1).toNat (fs.getD ((al.getD k default).fr + 1).toNat 0 + 1)).set ((al.getD k default).to + 1).toNat
      ((fs.set ((al.getD k default).fr + 1).toNat (fs.getD ((al.getD k default).fr + 1).toNat 0 + 1)).getD ((al.getD k default).to + 1).toNat 0 + 1)) := by
  have e0 := he k hk false
  have e1 := he k hk true
  simp only [Xe, Bool.false_eq_true, if_false, if_true] at e0 e1
  obtain ⟨hl, hz, hv⟩ := h
  refine ⟨by simpa using hl, ?_, ?_⟩
  · rw [Jk (by omega), Jk (by omega)]; exact hz
  · intro v h0 h1
    have hvv := hv v h0 h1
    rw [Jk (i := ((al.getD k default).fr + 1).toNat) (j := ((al.getD k default).to + 1).toNat) (by omega), set2 (by omega) (by omega) (by omega)]
    simp only [cnt, Ui, if_neg hne]
    by_cases a1 : v = (al.getD k default).fr
    · rw [if_pos (by omega), if_pos (by omega), ← a1, hvv]; omega
    · rw [if_neg (by omega)]
      by_cases a2 : v = (al.getD k default).to
      · rw [if_pos (by omega), if_pos (by omega), ← a2, hvv]; omega
      · rw [if_neg (by omega), if_neg (by omega), hvv]; omega
theorem Summed.put {al : List Arc} {m k : Nat} {fs : List Int} (h : Summed al m k fs) (hk : k < m) {i : Nat} (hi : i = k + 1) : Summed al m (k + 1) (fs.set i (fs.getD i 0 + fs.getD k 0)) := by
 subst hi
 obtain ⟨hl, h1, h2⟩ := h
 refine ⟨by simpa using hl, fun u hu => ?_, fun u h3 h4 => ?_⟩
 ·
  by_cases e : u = k + 1
  · subst e; rw [Z7f (by omega), h1 k (Nat.le_refl _), h2 k (Nat.le_refl _) hk]; simp [Yl]; omega
  · rw [Jk (by omega)]; exact h1 u (by omega)
 · rw [Jk (by omega)]; exact h2 u (by omega) h4
theorem No {N S T : Int} {al : List Arc} (h : Jd N S T al = 0) : (2 ≤ N ∧ N ≤ 4096) ∧ (al.length : Int) ≤ 16384 ∧ (Ku N S = true ∧ Ku N T = true ∧ S ≠ T) ∧ al.all (Lr N) = true ∧ al.all capB = true ∧ (Jh 4611686018427387904 al).isSome = true := by
 unfold Jd at h
 split at h
 · omega
 ·
  rename_i h1
  split at h
  · omega
  ·
   rename_i h2
   split at h
   · omega
   ·
    rename_i h3
    split at h
    · omega
    ·
     rename_i h4
     split at h
     · omega
     ·
      rename_i h5
      split at h
      · omega
      ·
       rename_i h6
       refine ⟨Classical.not_not.1 h1, Classical.not_not.1 h2, Classical.not_not.1 h3, by simpa using h4, by simpa using h5, ?_⟩
       cases e : Jh 4611686018427387904 al <;> simp_all
theorem Z82 {m : Nat} {al : List Arc} (h : al.all (Lr (m : Int)) = true) : Kz m al := by
 intro i hi s
 have h1 := List.all_eq_true.1 h _ (Rb hi default)
 simp only [Lr, Ku, Bool.and_eq_true, decide_eq_true_eq] at h1
 cases s
 · simp only [Xe, Bool.false_eq_true, if_false]; exact h1.1
 · simp only [Xe, if_true]; exact h1.2
def MakeAt (al : List Arc) (m k : Nat) (nx hs rs cs aa : List Int) (bs : List Bool) : Prop :=
  (nx.length = m + 1 ∧ hs.length = Yl al m ∧ rs.length = Yl al m ∧ cs.length = Yl al m ∧ aa.length = Yl al m ∧ bs.length = Yl al m) ∧
  CsrAt al hs rs cs aa bs k ∧ ∀ v : Int, 0 ≤ v → v < m → nx.getD v.toNat 0 = Yl al v.toNat + cnt al v.toNat k
theorem MakeAt.start {al : List Arc} {m : Nat} {fs : List Int} (hl : fs.length = m + 1) (hf : ∀ u, u ≤ m → fs.getD u 0 = Yl al u) :
    MakeAt al m 0 fs (List.replicate (Yl al m) 0) (List.replicate (Yl al m) 0) (List.replicate (Yl al m) 0) (List.replicate (Yl al m) 0) (List.replicate (Yl al m) false) := by
  refine ⟨⟨hl, by simp, by simp, by simp, by simp, by simp⟩, fun i hi => by omega, fun v h0 h1 => ?_⟩
  rw [hf _ (by omega)]; simp [cnt]
theorem MakeAt.skip {al : List Arc} {m k : Nat} {nx hs rs cs aa : List Int} {bs : List Bool} (h : MakeAt al m k nx hs rs cs aa bs) (e : (al.getD k default).fr = (al.getD k default).to) : MakeAt al m (k + 1) nx hs rs cs aa bs :=
 ⟨h.1, h.2.1.skip e, fun v h0 h1 => by rw [h.2.2 v h0 h1]; simp only [cnt, Ui, if_pos e, Nat.add_zero]⟩
theorem MakeAt.at {al : List Arc} {m k : Nat} {nx hs rs cs aa : List Int} {bs : List Bool} (h : MakeAt al m k nx hs rs cs aa bs) (he : Kz m al) (hk : k < al.length) (s : Bool) : nx.getD (Xe (al.getD k default) s).toNat 0 = (pos al k s : Nat) := by
 rw [h.2.2 _ (he k hk s).1 (he k hk s).2]; simp only [pos]; omega
theorem MakeAt.put {al : List Arc} {m k : Nat} {nx hs rs cs aa : List Int} {bs : List Bool} (h : MakeAt al m k nx hs rs cs aa bs) (he : Kz m al) (hk : k < al.length) (hne : (al.getD k default).fr ≠ (al.getD k default).to) :
    MakeAt al m (k + 1) ((nx.set (al.getD k default).fr.toNat ((pos al k false : Nat) + 1)).set (al.getD k default).to.toNat ((pos al k true : Nat) + 1))
      ((hs.set (pos al k false) (al.getD k default).to).set (pos al k true) (al.getD k default).fr) ((rs.set (pos al k false) (pos al k true)).set (pos al k true) (pos al k false))
      ((cs.set (pos al k false) (al.getD k default).cap).set (pos al k true) 0) ((aa.set (pos al k false) k).set (pos al k true) k) ((bs.set (pos al k false) false).set (pos al k true) true) := by
  have g0 := h.at he hk false
  have g1 := h.at he hk true
  obtain ⟨⟨l0, l1, l2, l3, l4, l5⟩, hA, hv⟩ := h
  have e0 := he k hk false
  have e1 := he k hk true
  simp only [Xe, Bool.false_eq_true, if_false, if_true] at e0 e1 g0 g1
  refine ⟨⟨by simpa using l0, by simpa using l1, by simpa using l2, by simpa using l3, by simpa using l4, by simpa using l5⟩, hA.put he hk hne l1 l2 l3 l4 l5, fun v h0 h1 => ?_⟩
  have hvv := hv v h0 h1
  rw [set2 (by omega) (by omega) (by omega)]
  simp only [cnt, Ui, if_neg hne]
  by_cases a1 : v = (al.getD k default).fr
  · rw [if_pos (by omega), if_pos (by omega), ← g0, ← a1, hvv]; omega
  · rw [if_neg (by omega)]
    by_cases a2 : v = (al.getD k default).to
    · rw [if_pos (by omega), if_pos (by omega), ← g1, ← a2, hvv]; omega
    · rw [if_neg (by omega), if_neg (by omega), hvv]; omega
theorem MakeAt.done {al : List Arc} {m : Nat} {fs nx hs rs cs aa : List Int} {bs : List Bool} (h : MakeAt al m al.length nx hs rs cs aa bs) (hl : fs.length = m + 1) (hf : ∀ u, u ≤ m → fs.getD u 0 = Yl al u) : CsrOK al m fs hs rs cs aa bs :=
 ⟨hl, h.1.2.1, h.1.2.2.1, h.1.2.2.2.1, h.1.2.2.2.2.1, h.1.2.2.2.2.2, hf, h.2.1⟩
end Go.Acq
namespace Go.Acq
open Go
theorem next_ne {S m : Int} (h0 : 0 ≤ S) (h1 : S < m) (h2 : 2 ≤ m) : 0 ≤ (S + 1).tmod m ∧ (S + 1).tmod m < m ∧ (S + 1).tmod m ≠ S := by
 rw [Int.tmod_eq_emod_of_nonneg (by omega)]
 refine ⟨Int.emod_nonneg _ (by omega), Int.emod_lt_of_pos _ (by omega), ?_⟩
 by_cases h : S + 1 < m
 · rw [Int.emod_eq_of_lt (by omega) h]; omega
 · rw [show S + 1 = m by omega, Int.emod_self]; omega
theorem Zbz {x n : Int} (h : 0 ≤ x) (hn : 0 < n) : 0 ≤ x.tmod n ∧ x.tmod n < n := by
 rw [Int.tmod_eq_emod_of_nonneg h]
 exact ⟨Int.emod_nonneg _ (by omega), Int.emod_lt_of_pos _ hn⟩
def SomeAt (m : Nat) (ol : List Arc) : Prop := ∀ a, a ∈ ol → Lr m a = true ∧ 0 ≤ a.cap ∧ a.cap < 1125899906842624
theorem SomeAt.put {m : Nat} {ol : List Arc} {a : Arc} (h : SomeAt m ol) (h1 : 0 ≤ a.fr ∧ a.fr < m) (h2 : 0 ≤ a.to ∧ a.to < m) (h3 : 0 ≤ a.cap ∧ a.cap < 1125899906842624) : SomeAt m (ol ++ [a]) := by
 intro b hb
 rcases List.mem_append.1 hb with hb | hb
 · exact h b hb
 ·
  simp only [List.mem_singleton] at hb
  subst hb
  exact ⟨by simp [Lr, Ku, h1, h2], h3⟩
theorem Zec {m : Nat} {ol : List Arc} {left : Int} (h : SomeAt m ol) (hl : (ol.length : Int) * 1125899906842624 ≤ left) : (Jh left ol).isSome = true := by
 induction ol generalizing left with
 | nil => simp [Jh]
 | cons a ol ih =>
  have ha := (h a (.head _)).2
  simp only [List.length_cons] at hl
  have h2 : (0 : Int) ≤ (ol.length : Int) * 1125899906842624 := by omega
  simp only [Jh]
  rw [if_neg (by omega)]
  exact ih (fun b hb => h b (.tail _ hb)) (by omega)
theorem Zeh {m : Nat} {S T : Int} {ol : List Arc} (hm : 2 ≤ m) (hm2 : m ≤ 4096) (hS : 0 ≤ S ∧ S < m) (hT : 0 ≤ T ∧ T < m) (hST : T ≠ S) (h : SomeAt m ol) (hl : ol.length ≤ 4096) : Jd m S T ol = 0 := by
 have h1 : ol.all (Lr m) = true := List.all_eq_true.2 fun a ha => (h a ha).1
 have h2 : ol.all capB = true := List.all_eq_true.2 fun a ha => by simp [capB, (h a ha).2.1]
 have h3 : (Jh 4611686018427387904 ol).isSome = true := Zec h (by omega)
 unfold Jd
 rw [if_neg (by omega), if_neg (by omega), if_neg (by simp [Ku, hS, hT, Ne.symm hST]), if_neg (by simp [h1]), if_neg (by simp [h2]), if_neg (by
  cases e : Jh 4611686018427387904 ol with
  | none => rw [e] at h3; cases h3
  | some x => simp)]
def WithinAt (al : List Arc) (n k : Nat) (fl : List Int) : Prop := fl.length = n ∧
  (∀ i, i < k → 0 ≤ fl.getD i 0 ∧ fl.getD i 0 ≤ (al.getD i default).cap ∧ ((al.getD i default).fr = (al.getD i default).to → fl.getD i 0 = 0)) ∧ ∀ i, k ≤ i → fl.getD i 0 = 0
theorem WithinAt.start (al : List Arc) (n : Nat) : WithinAt al n 0 (List.replicate n 0) := ⟨by simp, fun i h => by omega, fun i _ => Z40 _ _ _⟩
theorem WithinAt.skip {al : List Arc} {n k : Nat} {fl : List Int} (h : WithinAt al n k fl) (hc : 0 ≤ (al.getD k default).cap) : WithinAt al n (k + 1) fl := by
 refine ⟨h.1, fun i hi => ?_, fun i hi => h.2.2 i (by omega)⟩
 rcases Nat.lt_succ_iff_lt_or_eq.1 hi with h1 | h1
 · exact h.2.1 i h1
 · subst h1; have := h.2.2 i (Nat.le_refl _); rw [this]; exact ⟨Int.le_refl _, hc, fun _ => rfl⟩
theorem WithinAt.put {al : List Arc} {n k : Nat} {fl : List Int} {v : Int} (h : WithinAt al n k fl) (hk : k < n) (h0 : 0 ≤ v) (h1 : v ≤ (al.getD k default).cap) (hne : (al.getD k default).fr ≠ (al.getD k default).to) : WithinAt al n (k + 1) (fl.set k v) := by
 refine ⟨by simpa using h.1, fun i hi => ?_, fun i hi => by rw [Jk (by omega)]; exact h.2.2 i (by omega)⟩
 by_cases e : i = k
 · subst e; rw [Z7f (by rw [h.1]; exact hk)]; exact ⟨h0, h1, fun e => absurd e hne⟩
 · rw [Jk (by omega)]; exact h.2.1 i (by omega)
def resOK (aa cs : List Int) (bs : List Bool) (fl : List Int) (j : Nat) : Prop := aa.getD j 0 < fl.length ∧ (bs.getD j false = true ∨ (0 ≤ fl.getD (aa.getD j 0).toNat 0 ∧ fl.getD (aa.getD j 0).toNat 0 ≤ cs.getD j 0))
def resV (aa cs : List Int) (bs : List Bool) (fl : List Int) (j : Nat) : Int := if bs.getD j false = true then fl.getD (aa.getD j 0).toNat 0 else cs.getD j 0 - fl.getD (aa.getD j 0).toNat 0
def ResAt (aa cs : List Int) (bs : List Bool) (fl : List Int) (L k : Nat) (rl : List Int) : Prop := rl.length = L ∧ ∀ j, j < k → resOK aa cs bs fl j ∧ rl.getD j 0 = resV aa cs bs fl j
theorem ResAt.put {aa cs : List Int} {bs : List Bool} {fl : List Int} {L k : Nat} {rl : List Int} {v : Int} (h : ResAt aa cs bs fl L k rl) (hk : k < L) (h1 : resOK aa cs bs fl k) (h2 : v = resV aa cs bs fl k) : ResAt aa cs bs fl L (k + 1) (rl.set k v) := by
 refine ⟨by simpa using h.1, fun j hj => ?_⟩
 by_cases e : j = k
 · subst e; rw [Z7f (by rw [h.1]; exact hk)]; exact ⟨h1, h2⟩
 · rw [Jk (by omega)]; exact h.2 j (by omega)
end Go.Acq
namespace Go.Acq
open Go
theorem CsrOK.place {al : List Arc} {m : Nat} {fs hs rs cs aa : List Int} {bs : List Bool} (h : CsrOK al m fs hs rs cs aa bs) {j : Nat} (hj : j < Yl al m) :
    ∃ i s, i < al.length ∧ (al.getD i default).fr ≠ (al.getD i default).to ∧ pos al i s = j ∧ hs.getD j 0 = Xe (al.getD i default) (!s) ∧ rs.getD j 0 = pos al i (!s) ∧ cs.getD j 0 = (if s then 0 else (al.getD i default).cap) ∧ aa.getD j 0 = i ∧ bs.getD j false = s := by
  obtain ⟨i, s, hi, hne, hp, _⟩ := Z4z hj
  have := h.hat i hi hne s
  rw [hp] at this
  exact ⟨i, s, hi, hne, hp, this⟩
end Go.Acq
namespace Go.Acq
open Go
theorem Ug {α : Type} {m : Option α} {v : α} (h : Ok m (fun a => a = v)) : m = some v := by obtain ⟨a, h1, h2⟩ := h; rw [h1, h2]
theorem Vn {α : Type} {m : Option α} {v : α} {Q : α → Prop} (h : m = some v) (q : Q v) : Ok m Q := ⟨v, h, q⟩
abbrev lenok (n : Nat) : Prop := n ≤ 9223372036854775807
theorem Z3m {x n : Int} (h1 : n ≤ 4611686018427387904) : Nv x n = some (Jv x n) := by
 unfold Nv Jv
 by_cases h : n < 1
 · rw [if_pos h, if_pos h]
 ·
  have a1 := Int.tmod_lt_of_pos x (show 0 < n by omega)
  have a2 := Z9u x (show 0 < n by omega)
  rw [if_neg h, if_neg h, Ke (by omega), Ke (by constructor <;> omega), Ke (by omega)]
theorem s_Ints {a b : List Int} (h : lenok a.length) : Z46 a b = some (decide (a = b)) := by
 refine Ug ?_
 unfold Z46
 refine Ok.ite.2 ⟨fun hl => Ok.some.2 (decide_eq_false ?_).symm, fun hl => ?_⟩
 · rintro rfl; exact hl rfl
 ·
  refine Ok.bind.2 (Ok.loop (fun x => 0 ≤ x ∧ x ≤ a.length ∧ ∀ i, i < x.toNat → a.getD i 0 = b.getD i 0) (fun x => (a.length - x).toNat) ⟨by omega, by omega, fun i hi => by omega⟩ (by unfold Yh; omega) ?_)
  rintro x ⟨h0, h1, h2⟩
  unfold Z2e
  refine Ok.ite.2 ⟨fun hx => ?_, fun hx => ?_⟩
  ·
   refine Ok.gd.2 ⟨(by omega), Ok.gd.2 ⟨(by omega), Ok.ite.2 ⟨fun hne => ?_, fun hne => ?_⟩⟩⟩
   ·
    refine Ok.some.2 (Ok.some.2 (decide_eq_false ?_).symm)
    rintro rfl; exact hne rfl
   ·
    refine Ok.gd.2 ⟨(by omega), Ok.some.2 ⟨⟨by omega, by omega, fun i hi => ?_⟩, by omega⟩⟩
    rcases Nat.lt_or_ge i x.toNat with h3 | h3
    · exact h2 i h3
    · rw [show i = x.toNat by omega]; exact Classical.not_not.1 hne
  ·
   refine Ok.some.2 (Ok.some.2 (decide_eq_true ?_).symm)
   exact Z1k 0 (by omega) (fun i hi => h2 i (by omega))
theorem Zac {a b : List Int} (h : lenok a.length) : Z1u a b = some (decide (a = b)) := by
 refine Ug ?_
 unfold Z1u
 refine Ok.ite.2 ⟨fun hl => Ok.some.2 (decide_eq_false ?_).symm, fun hl => ?_⟩
 · rintro rfl; exact hl rfl
 ·
  refine Ok.bind.2 (Ok.loop (fun x => 0 ≤ x ∧ x ≤ a.length ∧ ∀ i, i < x.toNat → a.getD i 0 = b.getD i 0) (fun x => (a.length - x).toNat) ⟨by omega, by omega, fun i hi => by omega⟩ (by unfold Yh; omega) ?_)
  rintro x ⟨h0, h1, h2⟩
  unfold Z2i
  refine Ok.ite.2 ⟨fun hx => ?_, fun hx => ?_⟩
  ·
   refine Ok.gd.2 ⟨(by omega), Ok.gd.2 ⟨(by omega), Ok.ite.2 ⟨fun hne => ?_, fun hne => ?_⟩⟩⟩
   ·
    refine Ok.some.2 (Ok.some.2 (decide_eq_false ?_).symm)
    rintro rfl; exact hne rfl
   ·
    refine Ok.gd.2 ⟨(by omega), Ok.some.2 ⟨⟨by omega, by omega, fun i hi => ?_⟩, by omega⟩⟩
    rcases Nat.lt_or_ge i x.toNat with h3 | h3
    · exact h2 i h3
    · rw [show i = x.toNat by omega]; exact Classical.not_not.1 hne
  ·
   refine Ok.some.2 (Ok.some.2 (decide_eq_true ?_).symm)
   exact Z1k 0 (by omega) (fun i hi => h2 i (by omega))
end Go.Acq
namespace Go.Acq
open Go
structure NetIn (n : Net) : Prop where
  nN : i64ok n.N
  nS : i64ok n.S
  nT : i64ok n.T
  arcs : ∀ a, a ∈ n.Arcs → i64ok a.fr ∧ i64ok a.to ∧ i64ok a.cap
  len : n.Arcs.length ≤ 9223372036854775807
structure Made (n : Net) (v a : Int) : Prop where
  check : Jd n.N n.S n.T n.Arcs = 0
  rows : SomeAt n.N.toNat n.Arcs
  verts : n.N ≤ v
  arcs : (n.Arcs.length : Int) ≤ a
  ends : 2 ≤ n.N ∧ 0 ≤ n.S ∧ n.S < n.N ∧ 0 ≤ n.T ∧ n.T < n.N ∧ n.S ≠ n.T
theorem Made.nat {n : Net} {v a : Int} (h : Made n v a) : ∃ m : Nat, n.N = m ∧ SomeAt m n.Arcs := ⟨n.N.toNat, by have := h.ends.1; omega, h.rows⟩
theorem Made.caps {n : Net} {m : Nat} (h : SomeAt m n.Arcs) : ∀ i, i < n.Arcs.length → 0 ≤ (n.Arcs.getD i default).cap ∧ (n.Arcs.getD i default).cap < 1125899906842624 := fun _ hi => (h _ (Rb hi default)).2
theorem s_Some {n : Net} {v a : Int} (h : NetIn n) (hv0 : 2 ≤ v) (hv1 : v ≤ 4096) (ha0 : 0 ≤ a) (ha1 : a ≤ 4096) : Ok (Z2j n v a) (fun r => Made r v a) := by
 have hN := Z47 (x := n.N) (n := v - 1) (by omega)
 unfold Z2j
 refine Ok.gd.2 ⟨(by omega), Ok.bind.2 (Vn (Z3m (by omega)) (Ok.gd.2 ⟨(by omega), ?_⟩))⟩
 obtain ⟨m, hm⟩ : ∃ m : Nat, 2 + Jv n.N (v - 1) = m := ⟨(2 + Jv n.N (v - 1)).toNat, by omega⟩
 rw [hm]
 have hS := Z47 (x := n.S) (n := (m : Int)) (by omega)
 have hT := Z47 (x := n.T) (n := (m : Int)) (by omega)
 refine Ok.bind.2 (Vn (Z3m (by omega)) (Ok.bind.2 (Vn (Z3m (by omega)) ?_)))
 have key : ∀ t : Int, 0 ≤ t → t < m → t ≠ Jv n.S m → Ok (Z0i n a (Jv n.N (v - 1)) (Jv n.S m) t) (fun r => Made r v a) := by
  intro t t0 t1 t2
  unfold Z0i
  refine Ok.gd.2 ⟨(by omega), Ok.bind.2 ?_⟩
  obtain ⟨q, hq⟩ : ∃ q : Nat, min (n.Arcs.length : Int) a = q := ⟨(min (n.Arcs.length : Int) a).toNat, by omega⟩
  obtain ⟨al, hal⟩ : ∃ l, l = n.Arcs.take (q : Int).toNat := ⟨_, rfl⟩
  have hlen : al.length = q := by rw [hal, List.length_take]; omega
  have hcap : ∀ b, b ∈ al → i64ok b.cap := fun b hb => (h.arcs b (List.mem_of_mem_take (by rw [← hal]; exact hb))).2.2
  refine Vm (fun s => ∃ k : Nat, s.2 = k ∧ k ≤ q ∧ s.1.length = k ∧ SomeAt m s.1) (fun s => (q - s.2).toNat) ⟨0, rfl, by omega, rfl, fun b hb => by cases hb⟩ (by unfold Yh; simp only; omega) ?_
  rintro ⟨ol, x⟩ ⟨k, h1, h2, h3, h4⟩ P next exit
  simp only at h1 h2 h3 h4 next ⊢
  subst h1
  unfold Z45
  rw [hq, ← hal]
  simp only [Int.toNat_natCast]
  refine Ok.ite.2 ⟨fun hx => ?_, fun hx => ?_⟩
  ·
   have hkl : k < al.length := by omega
   have hc := hcap _ (Rb hkl default)
   have hj : ∀ c : Int, 0 ≤ c → Ok (Z1v n a (Jv n.N (v - 1)) ol k c) P := by
    intro c hc0
    unfold Z1v
    rw [hq, ← hal, hm]
    refine Ok.bind.2 (Vn (Z3m (by omega)) (Ok.bind.2 (Vn (Z3m (by omega)) (Ok.gd.2 ⟨?_, Ok.gd.2 ⟨(by omega), Ok.some.2 (next _ ⟨k + 1, by simp, by omega, by simp [h3], ?_⟩ (by simp only; omega))⟩⟩))))
    · rw [List.length_append, h3]; simp only [List.length_cons, List.length_nil]; constructor <;> omega
    · exact h4.put (Z47 (by omega)) (Z47 (by omega)) (Zbz hc0 (by omega))
   refine Ok.gd.2 ⟨(by omega), Ok.ite.2 ⟨fun hn => ?_, fun hn => ?_⟩⟩
   · exact Ok.gd.2 ⟨by constructor <;> omega, Ok.gd.2 ⟨by constructor <;> omega, hj (-((al.getD k default).cap + 1)) (by omega)⟩⟩
   · exact hj (al.getD k default).cap (by omega)
  ·
   refine Ok.some.2 (exit _ ?_)
   unfold Z51
   refine Ok.some.2 ?_
   rw [hm]
   exact ⟨Zeh (by omega) (by omega) hS ⟨t0, t1⟩ t2 h4 (show ol.length ≤ 4096 by omega), by simpa using h4, by simp only; omega, by show (ol.length : Int) ≤ a; omega, ⟨by simp only; omega, hS.1, hS.2, t0, t1, fun e => t2 e.symm⟩⟩
 refine Ok.ite.2 ⟨fun he => ?_, fun he => ?_⟩
 ·
  refine Ok.gd.2 ⟨(by omega), Ok.gd.2 ⟨by omega, ?_⟩⟩
  obtain ⟨n1, n2, n3⟩ := next_ne hS.1 hS.2 (by omega)
  exact key _ n1 n2 n3
 · exact key _ hT.1 hT.2 (fun e => he e.symm)
structure CsrIs (n : Net) (m : Nat) (c : Csr) : Prop where
  hN : c.N = m
  hS : c.S = n.S
  hT : c.T = n.T
  ok : CsrOK n.Arcs m c.First c.Head c.Rev c.Cap c.Arc c.Back
end Go.Acq
namespace Go.Acq
open Go
def FirstAt (l : List Int) (x : Int) (r : Nat) : Prop := r ≤ l.length ∧ (∀ k, k < r → l.getD k 0 < x) ∧ (r < l.length → x ≤ l.getD r 0)
theorem Zct {l : List Int} {x : Int} (hl : l.length ≤ 4611686018427387904) (hm : ∀ i j, i ≤ j → j < l.length → l.getD i 0 ≤ l.getD j 0) : Ok (Z2c l x) (fun r => ∃ n : Nat, r = n ∧ FirstAt l x n) := by
 unfold Z2c Z5t
 refine Ok.bind.2 (Ok.bind.2 (Vm (fun s => ∃ i j : Nat, s = ((i : Int), (j : Int)) ∧ i ≤ j ∧ j ≤ l.length ∧ (∀ k, k < i → l.getD k 0 < x) ∧ (j < l.length → x ≤ l.getD j 0)) (fun s => (s.2 - s.1).toNat) ⟨0, l.length, rfl, by omega, by omega, fun k h => by omega, fun h => by omega⟩ (by unfold Yh; omega) ?_))
 rintro s ⟨i, j, rfl, h1, h2, h3, h4⟩ P next exit
 unfold Z26 Z58
 have next : ∀ i' j' : Nat, i' ≤ j' → j' ≤ l.length → (∀ k, k < i' → l.getD k 0 < x) → (j' < l.length → x ≤ l.getD j' 0) → j' - i' < j - i → P (.inl ((i' : Int), (j' : Int))) := fun i' j' a b c d e => next _ ⟨i', j', rfl, a, b, c, d⟩ (by simp only; omega)
 simp only
 refine Ok.ite.2 ⟨fun hx => ?_, fun hx => Ok.some.2 (exit _ ?_)⟩
 ·
  have hd : Int.fdiv ((i : Int) + j) (2 ^ 1) = ((i + j) / 2 : Nat) := by rw [Int.fdiv_eq_ediv_of_nonneg _ (by omega)]; omega
  simp only [hd, Int.toNat_natCast]
  refine Ok.gd.2 ⟨(by omega), Ok.gd.2 ⟨(by omega), Ok.gd.2 ⟨(by omega), Ok.bind.2 (Ok.gd.2 ⟨(by omega), Ok.some.2 (Ok.ite.2 ⟨fun hb => ?_, fun hb => ?_⟩)⟩)⟩⟩⟩
  ·
   have hb : l.getD ((i + j) / 2) 0 < x := by
    have : ¬ x ≤ l.getD ((i + j) / 2) 0 := by simpa using hb
    omega
   refine Ok.gd.2 ⟨(by omega), Ok.some.2 ?_⟩
   have := next ((i + j) / 2 + 1) j (by omega) h2 (fun k hk => by have := hm k ((i + j) / 2) (by omega) (by omega); omega) h4 (by omega)
   rwa [show (((i + j) / 2 + 1 : Nat) : Int) = (((i + j) / 2 : Nat) : Int) + 1 by omega] at this
  ·
   have hb : x ≤ l.getD ((i + j) / 2) 0 := by
    have : ¬ ¬ x ≤ l.getD ((i + j) / 2) 0 := by simpa using hb
    omega
   exact Ok.some.2 (next i ((i + j) / 2) (by omega) (by omega) h3 (fun _ => hb) (by omega))
 ·
  unfold Z4f
  have : i = j := by omega
  subst this
  exact Ok.some.2 (Ok.some.2 ⟨i, rfl, h2, h3, h4⟩)
theorem s_Len (c : Csr) : Z41 c = some (c.Head.length : Int) := rfl
theorem s_Tail {n : Net} {m : Nat} {c : Csr} (hc : CsrIs n m c) (he : Kz m n.Arcs) (hm : m ≤ 4096) (hl : n.Arcs.length ≤ 16384) {i : Nat} {s : Bool} (hi : i < n.Arcs.length) (hne : (n.Arcs.getD i default).fr ≠ (n.Arcs.getD i default).to) :
    Z1a c (pos n.Arcs i s : Nat) = some (Xe (n.Arcs.getD i default) s, true) := by
  refine Ug ?_
  have hp := Nl (s := s) hi hne he
  have hbs := Z7y (al := n.Arcs) (v := m) (by omega) (by omega)
  have lf := hc.ok.lf
  have lh := hc.ok.lh
  unfold Z1a
  refine Ok.ite.2 ⟨fun h => by omega, fun _ => Ok.bind.2 (Vn (s_Len c) ?_)⟩
  unfold Z3g
  refine Ok.ite.2 ⟨fun h => by have := of_decide_eq_true h; omega, fun _ => Ok.gd.2 ⟨(by omega), ?_⟩⟩
  refine Ok.bind.2 (Ok.mono (Zct (by omega) fun a b hab hb => ?_) ?_)
  · rw [hc.ok.hf a (by omega), hc.ok.hf b (by omega)]
    have := Nu (al := n.Arcs) hab
    omega
  rintro r ⟨k, rfl, g1, g2, g3⟩
  have hv := he i hi s
  obtain ⟨v, hv'⟩ : ∃ v : Nat, Xe (n.Arcs.getD i default) s = v := ⟨(Xe (n.Arcs.getD i default) s).toNat, by omega⟩
  have hcl := Lx (s := s) hi hne hv.1
  have hpos : pos n.Arcs i s = Yl n.Arcs v + cnt n.Arcs v i := by unfold pos; rw [hv', Int.toNat_natCast]
  rw [hv'] at hv hcl ⊢
  rw [Int.toNat_natCast] at hcl
  have hb1 : Yl n.Arcs (v + 1) = Yl n.Arcs v + cnt n.Arcs v n.Arcs.length := rfl
  have e : k = v + 1 := by
    rcases Nat.lt_trichotomy k (v + 1) with h | h | h
    · have h3 := g3 (by omega)
      rw [hc.ok.hf k (by omega)] at h3
      have := Nu (al := n.Arcs) (show k ≤ v by omega)
      omega
    · exact h
    · have h3 := g2 (v + 1) h
      rw [hc.ok.hf (v + 1) (by omega)] at h3
      omega
  subst e
  refine Ok.gd.2 ⟨(by omega), Ok.some.2 ?_⟩
  simp
end Go.Acq
namespace Go.Acq
open Go
def ex (al : List Arc) (f : List Int) (v : Int) : Nat → Int
  | 0 => 0
  | k + 1 => ex al f v k - (if (al.getD k default).fr = v then f.getD k 0 else 0) + (if (al.getD k default).to = v then f.getD k 0 else 0)
def tot (f : List Int) : Nat → Int
  | 0 => 0
  | k + 1 => tot f k + f.getD k 0
def part (al : List Arc) (f : List Int) (j : Int) : Nat → Int
  | 0 => 0
  | k + 1 => part al f j k - (if (al.getD k default).fr < j then f.getD k 0 else 0) + (if (al.getD k default).to < j then f.getD k 0 else 0)
theorem Z7i {f : List Int} {n : Nat} (h : ∀ i, i < n → 0 ≤ f.getD i 0) : ∀ j k, j ≤ k → k ≤ n → tot f j ≤ tot f k
  | j, 0, hj, _ => by have : j = 0 := by omega
                      subst this; exact Int.le_refl _
  | j, k + 1, hj, hk => by
    rcases Nat.lt_or_ge j (k + 1) with h1 | h1
    · have := Z7i h j k (by omega) (by omega)
      have := h k hk
      simp only [tot]; omega
    · rw [show j = k + 1 by omega]; exact Int.le_refl _
theorem sumL_tot {f : List Int} : ∀ (al : List Arc) (left : Int) (k : Nat), (Jh left (al.drop k)).isSome = true → 0 ≤ left → k ≤ al.length → (∀ i, i < al.length → 0 ≤ f.getD i 0 ∧ f.getD i 0 ≤ (al.getD i default).cap) → tot f al.length - tot f k ≤ left := by
 intro al left k
 induction hn : al.length - k generalizing left k with
 | zero =>
  intro _ h0 hk _
  rw [show k = al.length by omega]; omega
 | succ n ih =>
  intro hs h0 hk hf
  have hkl : k < al.length := by omega
  rw [Zby hkl] at hs
  by_cases hc : (al.getD k default).cap < 0 ∨ left < (al.getD k default).cap
  · rw [if_pos hc] at hs; cases hs
  ·
   rw [if_neg hc] at hs
   have := ih (left - (al.getD k default).cap) (k + 1) (by omega) hs (by omega) (by omega) hf
   have hfk := hf k hkl
   simp only [tot] at this
   omega
def FwithinP (n : Net) (f : List Int) : Prop := Jd n.N n.S n.T n.Arcs = 0 ∧ f.length = n.Arcs.length ∧ ∀ i, i < n.Arcs.length → 0 ≤ f.getD i 0 ∧ f.getD i 0 ≤ (n.Arcs.getD i default).cap
theorem FwithinP.tot {n : Net} {f : List Int} (h : FwithinP n f) : ∀ k, k ≤ n.Arcs.length → 0 ≤ tot f k ∧ tot f k ≤ 4611686018427387904 := by
 intro k hk
 have hz := No h.1
 have h1 := sumL_tot (f := f) n.Arcs 4611686018427387904 0 (by simpa using hz.2.2.2.2.2) (by omega) (by omega) h.2.2
 have h2 := Z7i (fun i hi => (h.2.2 i hi).1) k n.Arcs.length hk (Nat.le_refl _)
 have h3 := Z7i (fun i hi => (h.2.2 i hi).1) 0 k (by omega) hk
 simp only [Acq.tot] at h1 h3
 omega
def AllP (n : Net) (f : List Int) (so : Int → Prop) (but : List Int) : Prop := FwithinP n f ∧ ∀ v : Nat, v < n.N.toNat → so (ex n.Arcs f v n.Arcs.length) ∨ (v : Int) ∈ but
end Go.Acq
namespace Go.Acq
open Go
theorem Ny {α : Type} {xs ys : List α} {d : α} {i : Nat} (h : i < xs.length) : (xs ++ ys).getD i d = xs.getD i d := by
 rw [List.getD_eq_getElem?_getD, List.getElem?_append_left h, List.getD_eq_getElem?_getD]
theorem Z8o {α : Type} {xs ys : List α} {d : α} {i : Nat} (h : xs.length ≤ i) : (xs ++ ys).getD i d = ys.getD (i - xs.length) d := by
 rw [List.getD_eq_getElem?_getD, List.getElem?_append_right h, List.getD_eq_getElem?_getD]
theorem pos_row {al : List Arc} {i v : Nat} {s : Bool} (hi : i < al.length) (hne : (al.getD i default).fr ≠ (al.getD i default).to) (h0 : 0 ≤ Xe (al.getD i default) s) (h1 : Yl al v ≤ pos al i s) (h2 : pos al i s < Yl al (v + 1)) : Xe (al.getD i default) s = v ∧ pos al i s = Yl al v + cnt al v i := by
 obtain ⟨u, hu⟩ : ∃ u : Nat, Xe (al.getD i default) s = u := ⟨(Xe (al.getD i default) s).toNat, by omega⟩
 have hcl := Lx (s := s) hi hne h0
 have hpos : pos al i s = Yl al u + cnt al u i := by unfold pos; rw [hu, Int.toNat_natCast]
 rw [hu, Int.toNat_natCast] at hcl
 have hb1 : Yl al (u + 1) = Yl al u + cnt al u al.length := rfl
 have : u = v := by
  rcases Nat.lt_trichotomy u v with h | h | h
  · have := Nu (al := al) (show u + 1 ≤ v by omega); omega
  · exact h
  · have := Nu (al := al) (show v + 1 ≤ u by omega); omega
 subst this
 exact ⟨hu, hpos⟩
end Go.Acq
namespace Go.Acq
open Go
def Uc (c : List Bool) (v : Int) : Bool := c.getD v.toNat false
def acK (al : List Arc) (f : List Int) (c : List Bool) : Nat → Int
  | 0 => 0
  | k + 1 => acK al f c k + (if Uc c (al.getD k default).fr = true ∧ Uc c (al.getD k default).to = false then f.getD k 0 else 0) - (if Uc c (al.getD k default).fr = false ∧ Uc c (al.getD k default).to = true then f.getD k 0 else 0)
def Nr (al : List Arc) : Nat → Int
  | 0 => 0
  | k + 1 => Nr al k + (al.getD k default).cap
theorem Z8m (al : List Arc) : ∀ k, k ≤ al.length → Nr al k = tot (al.map (·.cap)) k
 | 0, _ => rfl
 | k + 1, hk => by
  simp only [Nr, tot, Z8m al k (by omega)]
  rw [List.getD_eq_getElem?_getD, List.getD_eq_getElem?_getD, List.getElem?_map, List.getElem?_eq_getElem (show k < al.length by omega)]; rfl
theorem Zdh {al : List Arc} {i : Nat} (hi : i < al.length) : (al.map (·.cap)).getD i 0 = (al.getD i default).cap := by
 rw [List.getD_eq_getElem?_getD, List.getD_eq_getElem?_getD, List.getElem?_map, List.getElem?_eq_getElem hi]; rfl
theorem Zei {n : Net} (h : Jd n.N n.S n.T n.Arcs = 0) (hc : ∀ i, i < n.Arcs.length → 0 ≤ (n.Arcs.getD i default).cap) : FwithinP n (n.Arcs.map (·.cap)) :=
 ⟨h, by simp, fun i hi => by rw [Zdh hi]; exact ⟨hc i hi, Int.le_refl _⟩⟩
theorem Z6f {n : Net} (h : Jd n.N n.S n.T n.Arcs = 0) : ∀ i, i < n.Arcs.length → 0 ≤ (n.Arcs.getD i default).cap := fun i hi => by
 have := List.all_eq_true.1 (No h).2.2.2.2.1 _ (Rb hi default)
 simpa [capB] using this
theorem Z6l {n : Net} (h : Jd n.N n.S n.T n.Arcs = 0) : ∀ k, k ≤ n.Arcs.length → 0 ≤ Nr n.Arcs k ∧ Nr n.Arcs k ≤ 4611686018427387904 := fun k hk => by
 rw [Z8m _ k hk]
 have := (Zei h (Z6f h)).tot k (by simpa using hk)
 exact this
theorem cut_ends {n : Net} (h : Jd n.N n.S n.T n.Arcs = 0) : ∃ m : Nat, n.N = m ∧ Kz m n.Arcs := by
 have hz := No h
 obtain ⟨m, hm⟩ : ∃ m : Nat, n.N = m := ⟨n.N.toNat, by omega⟩
 exact ⟨m, hm, Z82 (by rw [← hm]; exact hz.2.2.2.1)⟩
end Go.Acq
namespace Go.Acq
open Go
inductive Reach (G : Nat → Nat → Prop) (s : Nat) : Nat → Prop
  | refl : Reach G s s
  | step {u v : Nat} : Reach G s u → G u v → Reach G s v
theorem Reach.trans {G : Nat → Nat → Prop} {a b c : Nat} (h : Reach G a b) (g : Reach G b c) : Reach G a c := by
 induction g with
 | refl => exact h
 | step _ h2 ih => exact .step ih h2
theorem Reach.mono {G K : Nat → Nat → Prop} {a b : Nat} (h : Reach G a b) (hk : ∀ u v, G u v → K u v) : Reach K a b := by
 induction h with
 | refl => exact .refl
 | step _ h2 ih => exact .step ih (hk _ _ h2)
def tc (l : List Bool) : Nat → Nat
  | 0 => 0
  | k + 1 => tc l k + if l.getD k false = true then 1 else 0
theorem tc_le (l : List Bool) : ∀ k, tc l k ≤ k
 | 0 => Nat.le_refl _
 | k + 1 => by have := tc_le l k; simp only [tc]; split <;> omega
theorem tc_set {l : List Bool} {i : Nat} (hi : i < l.length) (hf : l.getD i false = false) : ∀ k : Nat, tc (l.set i true) k = tc l k + (if i < k then 1 else 0)
 | 0 => by simp [tc]
 | k + 1 => by
  have ih := tc_set hi hf k
  simp only [tc, ih, Vp]
  by_cases c : i = k
  ·
   subst c
   rw [if_neg (show ¬ i < i by omega), if_pos (show i = i ∧ i < l.length from ⟨rfl, hi⟩), hf, if_pos rfl, if_pos (show i < i + 1 by omega)]; rfl
  ·
   rw [if_neg (show ¬(i = k ∧ i < l.length) from fun h => c h.1)]
   by_cases c2 : i < k
   · rw [if_pos c2, if_pos (show i < k + 1 by omega)]; omega
   · rw [if_neg c2, if_neg (show ¬ i < k + 1 by omega)]; omega
structure MetI (G : Nat → Nat → Prop) (s m : Nat) (xs : List Bool) (row : List Int) : Prop where
  len : xs.length = m
  nat : ∀ q, q < row.length → ∃ v : Nat, row.getD q 0 = v ∧ v < m ∧ xs.getD v false = true ∧ Reach G s v
  has : ∀ v, v < m → xs.getD v false = true → ∃ q, q < row.length ∧ row.getD q 0 = (v : Int)
  cnt : row.length = tc xs m
theorem MetI.le {G : Nat → Nat → Prop} {s m : Nat} {xs : List Bool} {row : List Int} (h : MetI G s m xs row) : row.length ≤ m := by rw [h.cnt]; exact tc_le _ _
theorem MetI.put {G : Nat → Nat → Prop} {s m v : Nat} {xs : List Bool} {row : List Int} (h : MetI G s m xs row) (hv : v < m) (hf : xs.getD v false = false) (hr : Reach G s v) : MetI G s m (xs.set v true) (row ++ [(v : Int)]) := by
 have hl := h.len
 refine ⟨by simp [hl], fun q hq => ?_, fun u hu hx => ?_, ?_⟩
 ·
  rw [List.length_append, List.length_singleton] at hq
  rcases Nat.lt_or_ge q row.length with h1 | h1
  ·
   obtain ⟨u, h2, h3, h4, h5⟩ := h.nat q h1
   refine ⟨u, by rw [Ny h1]; exact h2, h3, ?_, h5⟩
   rw [Vp]; split
   · rfl
   · exact h4
  ·
   refine ⟨v, ?_, hv, by rw [Vp, if_pos ⟨rfl, by omega⟩], hr⟩
   rw [Z8o h1, show q - row.length = 0 by omega]; rfl
 ·
  rw [Vp] at hx
  by_cases c : v = u
  ·
   refine ⟨row.length, by simp, ?_⟩
   rw [Z8o (Nat.le_refl _), Nat.sub_self, ← c]; rfl
  ·
   rw [if_neg (fun h => c h.1)] at hx
   obtain ⟨q, h1, h2⟩ := h.has u hu hx
   exact ⟨q, by rw [List.length_append]; omega, by rw [Ny h1]; exact h2⟩
 · rw [List.length_append, List.length_singleton, tc_set (by omega) hf, if_pos hv, h.cnt]
def OpenA (n : Net) (f : List Int) (u v : Nat) : Prop := ∃ i, i < n.Arcs.length ∧ (n.Arcs.getD i default).fr ≠ (n.Arcs.getD i default).to ∧
  (((n.Arcs.getD i default).fr = u ∧ (n.Arcs.getD i default).to = v ∧ f.getD i 0 < (n.Arcs.getD i default).cap) ∨ ((n.Arcs.getD i default).to = u ∧ (n.Arcs.getD i default).fr = v ∧ 0 < f.getD i 0))
end Go.Acq
namespace Go.Acq
open Go
def Gj (al : List Arc) (f : List Int) (c : List Bool) (j : Int) : Nat → Int
  | 0 => 0
  | k + 1 => Gj al f c j k - (if (al.getD k default).fr < j ∧ Uc c (al.getD k default).fr = false then f.getD k 0 else 0) + (if (al.getD k default).to < j ∧ Uc c (al.getD k default).to = false then f.getD k 0 else 0)
theorem Zbk {al : List Arc} {f : List Int} {c : List Bool} (j : Int) : ∀ k, Gj al f c (j + 1) k = Gj al f c j k + (if Uc c j = false then ex al f j k else 0)
 | 0 => by simp [Gj, ex]
 | k + 1 => by
  have ih := Zbk (al := al) (f := f) (c := c) j k
  simp only [Gj, ex, ih]
  have e1 : ∀ x : Int, (if x < j + 1 ∧ Uc c x = false then f.getD k 0 else 0) = (if x < j ∧ Uc c x = false then f.getD k 0 else 0) + (if x = j ∧ Uc c j = false then f.getD k 0 else 0) := fun x => by
   by_cases h1 : x < j
   ·
    by_cases h3 : Uc c x = false
    · rw [if_pos ⟨by omega, h3⟩, if_pos ⟨h1, h3⟩, if_neg (fun h => by omega)]; omega
    · rw [if_neg (fun h => h3 h.2), if_neg (fun h => h3 h.2), if_neg (fun h => by omega)]; omega
   ·
    by_cases h2 : x = j
    ·
     subst h2
     by_cases h3 : Uc c x = false
     · rw [if_pos ⟨by omega, h3⟩, if_neg (fun h => h1 h.1), if_pos ⟨rfl, h3⟩]; omega
     · rw [if_neg (fun h => h3 h.2), if_neg (fun h => h3 h.2), if_neg (fun h => h3 h.2)]; omega
    · rw [if_neg (fun h => by omega), if_neg (fun h => by omega), if_neg (fun h => h2 h.1)]; omega
  rw [e1, e1]
  by_cases h : Uc c j = false
  ·
   simp only [h, and_true, if_true]
   omega
  ·
   simp only [h, Bool.not_eq_false, and_false, if_false, ite_false, reduceCtorEq]
   omega
theorem Z9x {al : List Arc} {f : List Int} {c : List Bool} {m : Nat} (he : Kz m al) : ∀ k, k ≤ al.length → Gj al f c 0 k = 0
 | 0, _ => rfl
 | k + 1, hk => by
  have h0 := he k hk false
  have h1 := he k hk true
  simp only [Xe, Bool.false_eq_true, if_false, if_true] at h0 h1
  simp only [Gj, Z9x he k (by omega)]
  rw [if_neg (fun h => by omega), if_neg (fun h => by omega)]; rfl
theorem Zae {al : List Arc} {f : List Int} {c : List Bool} {m : Nat} (he : Kz m al) : ∀ k, k ≤ al.length → Gj al f c m k = acK al f c k
 | 0, _ => rfl
 | k + 1, hk => by
  have h0 := he k hk false
  have h1 := he k hk true
  simp only [Xe, Bool.false_eq_true, if_false, if_true] at h0 h1
  simp only [Gj, acK, Zae he k (by omega)]
  obtain ⟨A, hA⟩ : ∃ A, al.getD k default = A := ⟨_, rfl⟩
  obtain ⟨F, hF⟩ : ∃ F, f.getD k 0 = F := ⟨_, rfl⟩
  rw [hA] at h0 h1 ⊢
  rw [hF]
  cases a : Uc c A.fr <;> cases b : Uc c A.to <;> simp [h0.2, h1.2] <;> omega
end Go.Acq
namespace Go.Acq
open Go
def Xv (g : Nat → Int) : Nat → Int
  | 0 => 0
  | k + 1 => Xv g k + g k
theorem Z4x {g h : Nat → Int} : ∀ {k : Nat}, (∀ i, i < k → g i = h i) → Xv g k = Xv h k
 | 0, _ => rfl
 | k + 1, e => by simp only [Xv]; rw [Z4x fun i hi => e i (by omega), e k (by omega)]
theorem Z6v (g h : Nat → Int) : ∀ k, Xv (fun i => g i + h i) k = Xv g k + Xv h k
 | 0 => rfl
 | k + 1 => by simp only [Xv, Z6v g h k]; omega
theorem Z7n {g : Nat → Int} {k : Nat} (h : ∀ i, i < k → g i = 0) : Xv g k = 0 := by
 induction k with
 | zero => rfl
 | succ k ih => simp only [Xv]; rw [ih fun i hi => h i (by omega), h k (by omega)]; rfl
theorem Z66 {g : Nat → Int} {i : Nat} : ∀ {k : Nat}, i < k → (∀ j, j < k → j ≠ i → g j = 0) → Xv g k = g i
 | 0, h, _ => by omega
 | k + 1, h, e => by
  simp only [Xv]
  by_cases c : i = k
  · subst c; rw [Z7n fun j hj => e j (by omega) (by omega)]; omega
  · rw [Z66 (show i < k by omega) fun j hj hne => e j (by omega) hne, e k (by omega) (fun h => c h.symm)]; omega
theorem Zaj (F : Nat → Nat → Int) (K : Nat) : ∀ L, Xv (fun j => Xv (fun i => F i j) K) L = Xv (fun i => Xv (fun j => F i j) L) K
 | 0 => (Z7n fun _ _ => rfl).symm
 | L + 1 => by
  simp only [Xv]
  rw [Zaj F K L, ← Z6v]
theorem Zbe {g h : Nat → Int} : ∀ {k : Nat}, (∀ i, i < k → g i ≤ h i) → Xv g k ≤ Xv h k
 | 0, _ => Int.le_refl _
 | k + 1, e => by
  have := Zbe (k := k) fun i hi => e i (by omega)
  have := e k (by omega)
  simp only [Xv]; omega
theorem Z9w {g : Nat → Int} {k : Nat} : ∀ {l : Nat}, k ≤ l → (∀ i, i < l → 0 ≤ g i) → Xv g k ≤ Xv g l
 | 0, h, _ => by rw [show k = 0 by omega]; exact Int.le_refl _
 | l + 1, h, e => by
  by_cases c : k = l + 1
  · subst c; exact Int.le_refl _
  ·
   have := Z9w (show k ≤ l by omega) fun i hi => e i (by omega)
   have := e l (by omega)
   simp only [Xv]; omega
theorem Zb2 (f : List Int) : ∀ k, tot f k = Xv (fun i => f.getD i 0) k
 | 0 => rfl
 | k + 1 => by simp only [tot, Xv, Zb2 f k]
theorem posSum {al : List Arc} {m : Nat} (he : Kz m al) (g : Nat → Int) : Xv g (Yl al m) = Xv (fun i => if (al.getD i default).fr = (al.getD i default).to then 0 else g (pos al i false) + g (pos al i true)) al.length := by
 let F : Nat → Nat → Int := fun i j => if (al.getD i default).fr = (al.getD i default).to then 0 else (if pos al i false = j then g j else 0) + (if pos al i true = j then g j else 0)
 have e1 : Xv g (Yl al m) = Xv (fun j => Xv (fun i => F i j) al.length) (Yl al m) := by
  refine Z4x fun j hj => ?_
  obtain ⟨i, s, hi, hne, hp, _⟩ := Z4z (al := al) hj
  rw [Z66 (i := i) hi]
  ·
   simp only [F]
   rw [if_neg hne]
   cases s
   ·
    have h2 : pos al i true ≠ j := fun e => by have := (Ky he hi hi hne hne (hp.trans e.symm)).2; cases this
    rw [if_pos hp, if_neg h2]; omega
   ·
    have h2 : pos al i false ≠ j := fun e => by have := (Ky he hi hi hne hne (hp.trans e.symm)).2; cases this
    rw [if_neg h2, if_pos hp]; omega
  ·
   intro i' hi' hii
   simp only [F]
   by_cases c : (al.getD i' default).fr = (al.getD i' default).to
   · rw [if_pos c]
   · rw [if_neg c, if_neg fun e => hii (Ky he hi' hi c hne (e.trans hp.symm)).1, if_neg fun e => hii (Ky he hi' hi c hne (e.trans hp.symm)).1]; rfl
 rw [e1, Zaj]
 refine Z4x fun i hi => ?_
 by_cases c : (al.getD i default).fr = (al.getD i default).to
 ·
  rw [if_pos c]
  exact Z7n fun j _ => by simp only [F]; rw [if_pos c]
 ·
  rw [if_neg c]
  have e2 : Xv (fun j => F i j) (Yl al m) = Xv (fun j => (if pos al i false = j then g j else 0) + (if pos al i true = j then g j else 0)) (Yl al m) := Z4x fun j _ => by simp only [F]; rw [if_neg c]
  rw [e2, Z6v, Z66 (i := pos al i false) (Nl hi c he) fun j _ hj => if_neg fun e => hj e.symm, Z66 (i := pos al i true) (Nl hi c he) fun j _ hj => if_neg fun e => hj e.symm, if_pos rfl, if_pos rfl]
def hd (c : Csr) (j : Nat) : Nat := (c.Head.getD j 0).toNat
def rv (c : Csr) (j : Nat) : Nat := (c.Rev.getD j 0).toNat
def fs (c : Csr) (v : Nat) : Nat := (c.First.getD v 0).toNat
def tl (c : Csr) (j : Nat) : Nat := hd c (rv c j)
def bk (c : Csr) (j : Nat) : Bool := c.Back.getD j false
def cp (c : Csr) (j : Nat) : Int := max (c.Cap.getD j 0) (c.Cap.getD (rv c j) 0)
structure Row (n : Net) (m L : Nat) (c : Csr) : Prop where
  is : CsrIs n m c
  chk : Jd n.N n.S n.T n.Arcs = 0
  hm : n.N = m
  hL : Yl n.Arcs m = L
section row
variable {n : Net} {m L : Nat} {c : Csr}
theorem Row.he (r : Row n m L c) : Kz m n.Arcs := Z82 (by rw [← r.hm]; exact (No r.chk).2.2.2.1)
theorem Row.bd (r : Row n m L c) : 2 ≤ m ∧ m ≤ 4096 ∧ n.Arcs.length ≤ 16384 ∧ L ≤ 67108864 := by
 have hz := No r.chk
 have := r.hm
 have hb := Z7y (al := n.Arcs) (v := m) (by omega) (by omega)
 have := r.hL
 omega
theorem Row.ends (r : Row n m L c) : (∃ S : Nat, n.S = S ∧ c.S = S ∧ S < m) ∧ (∃ T : Nat, n.T = T ∧ c.T = T ∧ T < m) ∧ n.S ≠ n.T ∧ c.N = m := by
 have hz := No r.chk
 simp only [Ku, decide_eq_true_eq] at hz
 have h1 := r.hm
 have h2 := r.is.hS
 have h3 := r.is.hT
 exact ⟨⟨n.S.toNat, by omega, by omega, by omega⟩, ⟨n.T.toNat, by omega, by omega, by omega⟩, hz.2.2.1.2.2, r.is.hN⟩
theorem Row.caps (r : Row n m L c) : ∀ i, i < n.Arcs.length → 0 ≤ (n.Arcs.getD i default).cap ∧ (n.Arcs.getD i default).cap ≤ 4611686018427387904 := fun i hi => by
 have h0 := Z6f r.chk i hi
 have h1 := Z6l r.chk (i + 1) hi
 have h2 := Z6l r.chk i (by omega)
 simp only [Nr] at h1
 omega
theorem Row.lens (r : Row n m L c) : c.First.length = m + 1 ∧ c.Head.length = L ∧ c.Rev.length = L ∧ c.Cap.length = L ∧ c.Arc.length = L ∧ c.Back.length = L := by
 have h := r.is.ok
 rw [← r.hL]
 exact ⟨h.lf, h.lh, h.lr, h.lc, h.la, h.lb⟩
theorem Row.at (r : Row n m L c) {j : Nat} (hj : j < L) : ∃ i s, i < n.Arcs.length ∧ (n.Arcs.getD i default).fr ≠ (n.Arcs.getD i default).to ∧ pos n.Arcs i s = j ∧ c.Head.getD j 0 = (hd c j : Nat) ∧ (hd c j : Int) = Xe (n.Arcs.getD i default) (!s) ∧ (tl c j : Int) = Xe (n.Arcs.getD i default) s ∧
    c.Rev.getD j 0 = (rv c j : Nat) ∧ rv c j = pos n.Arcs i (!s) ∧ c.Cap.getD j 0 = (if s then 0 else (n.Arcs.getD i default).cap) ∧ c.Arc.getD j 0 = i ∧ bk c j = s := by
  obtain ⟨i, s, hi, hne, hp, q1, q2, q3, q4, q5⟩ := r.is.ok.place (by rw [r.hL]; exact hj)
  have hv := r.he i hi (!s)
  have hv2 := r.he i hi s
  have hr : rv c j = pos n.Arcs i (!s) := by unfold rv; rw [q2, Int.toNat_natCast]
  refine ⟨i, s, hi, hne, hp, by unfold hd; omega, by unfold hd; omega, ?_, by unfold rv; omega, hr, q3, q4, q5⟩
  unfold tl hd
  rw [hr, (r.is.ok.hat i hi hne (!s)).1, Bool.not_not]; omega
theorem Row.head (r : Row n m L c) {j : Nat} (hj : j < L) : c.Head.getD j 0 = (hd c j : Nat) ∧ hd c j < m := by
 obtain ⟨i, s, hi, hne, hp, q1, q2, q3, q4, q5, q6, q7, q8⟩ := r.at hj
 have hv := r.he i hi (!s)
 exact ⟨q1, by omega⟩
theorem Row.rev (r : Row n m L c) {j : Nat} (hj : j < L) : c.Rev.getD j 0 = (rv c j : Nat) ∧ rv c j < L ∧ rv c (rv c j) = j ∧ rv c j ≠ j := by
 obtain ⟨i, s, hi, hne, hp, q1, q2, q3, q4, q5, q6, q7, q8⟩ := r.at hj
 have hq : pos n.Arcs i (!s) < L := by rw [← r.hL]; exact Nl hi hne r.he
 refine ⟨q4, by rw [q5]; exact hq, ?_, fun e => ?_⟩
 ·
  have := (r.is.ok.hat i hi hne (!s)).2.1
  rw [q5]; unfold rv; rw [this, Int.toNat_natCast, Bool.not_not, hp]
 ·
  have := (Ky r.he hi hi hne hne (q5.symm.trans (e.trans hp.symm))).2
  cases s <;> cases this
theorem Row.tlh (r : Row n m L c) {j : Nat} (hj : j < L) : tl c j < m ∧ tl c (rv c j) = hd c j ∧ hd c (rv c j) = tl c j ∧ tl c j ≠ hd c j := by
 obtain ⟨i, s, hi, hne, hp, q1, q2, q3, q4, q5, q6, q7, q8⟩ := r.at hj
 have hv := r.he i hi s
 refine ⟨by omega, ?_, rfl, fun e => ?_⟩
 · unfold tl; rw [(r.rev hj).2.2.1]
 ·
  apply hne
  have : Xe (n.Arcs.getD i default) s = Xe (n.Arcs.getD i default) (!s) := by omega
  cases s <;> simpa [Xe, eq_comm] using this
theorem Row.back (r : Row n m L c) {j : Nat} (hj : j < L) : bk c (rv c j) = !bk c j := by
 obtain ⟨i, s, hi, hne, hp, q1, q2, q3, q4, q5, q6, q7, q8⟩ := r.at hj
 unfold bk at q8 ⊢
 rw [q5, (r.is.ok.hat i hi hne (!s)).2.2.2.2, q8]
theorem Row.first (r : Row n m L c) : (∀ v, v ≤ m → c.First.getD v 0 = (fs c v : Nat) ∧ fs c v = Yl n.Arcs v) ∧ fs c 0 = 0 ∧ fs c m = L ∧ ∀ v, v < m → fs c v ≤ fs c (v + 1) ∧ fs c (v + 1) ≤ L := by
 have h : ∀ v, v ≤ m → c.First.getD v 0 = (fs c v : Nat) ∧ fs c v = Yl n.Arcs v := fun v hv => by
  have := r.is.ok.hf v hv
  unfold fs; rw [this, Int.toNat_natCast]; exact ⟨rfl, rfl⟩
 refine ⟨h, by rw [(h 0 (by omega)).2]; rfl, by rw [(h m (Nat.le_refl _)).2]; exact r.hL, fun v hv => ?_⟩
 rw [(h v (by omega)).2, (h (v + 1) (by omega)).2, ← r.hL]
 exact ⟨Nu (by omega), Nu (by omega)⟩
theorem Row.range (r : Row n m L c) {j u : Nat} (hj : j < L) (hu : u < m) : (fs c u ≤ j ∧ j < fs c (u + 1)) ↔ tl c j = u := by
 obtain ⟨i, s, hi, hne, hp, q1, q2, q3, q4, q5, q6, q7, q8⟩ := r.at hj
 have hv := r.he i hi s
 have f1 := (r.first.1 u (by omega)).2
 have f2 := (r.first.1 (u + 1) (by omega)).2
 constructor
 ·
  rintro ⟨h1, h2⟩
  have := (pos_row (v := u) hi hne hv.1 (by omega) (by omega)).1
  omega
 ·
  intro h
  have hcl := Lx (s := s) hi hne hv.1
  have hpos : pos n.Arcs i s = Yl n.Arcs (Xe (n.Arcs.getD i default) s).toNat + cnt n.Arcs (Xe (n.Arcs.getD i default) s).toNat i := rfl
  have e : (Xe (n.Arcs.getD i default) s).toNat = u := by omega
  rw [e] at hcl hpos
  have hb1 : Yl n.Arcs (u + 1) = Yl n.Arcs u + cnt n.Arcs u n.Arcs.length := rfl
  omega
theorem Row.cap (r : Row n m L c) {j : Nat} (hj : j < L) : 0 ≤ c.Cap.getD j 0 ∧ c.Cap.getD j 0 + c.Cap.getD (rv c j) 0 = cp c j ∧ cp c (rv c j) = cp c j ∧ 0 ≤ cp c j ∧ cp c j ≤ 4611686018427387904 ∧ (bk c j = true → c.Cap.getD j 0 = 0) := by
 obtain ⟨i, s, hi, hne, hp, q1, q2, q3, q4, q5, q6, q7, q8⟩ := r.at hj
 have hc := r.caps i hi
 have h2 : c.Cap.getD (rv c j) 0 = if (!s) then 0 else (n.Arcs.getD i default).cap := by rw [q5]; exact (r.is.ok.hat i hi hne (!s)).2.2.1
 have h3 := (r.rev hj).2.2.1
 unfold cp
 rw [h3, q6, h2, q8]
 cases s
 · simp only [Bool.not_false, if_true, Bool.false_eq_true, if_false, false_implies, and_true]; omega
 · simp only [Bool.not_true, if_true, Bool.false_eq_true, if_false, true_implies, and_true]; omega
theorem Row.cpPos (r : Row n m L c) {i : Nat} (hi : i < n.Arcs.length) (hne : (n.Arcs.getD i default).fr ≠ (n.Arcs.getD i default).to) (s : Bool) : cp c (pos n.Arcs i s) = (n.Arcs.getD i default).cap ∧ rv c (pos n.Arcs i s) = pos n.Arcs i (!s) ∧ pos n.Arcs i s < L := by
 have z := r.is.ok.hat i hi hne s
 have z2 := r.is.ok.hat i hi hne (!s)
 have hc := r.caps i hi
 have hr : rv c (pos n.Arcs i s) = pos n.Arcs i (!s) := by unfold rv; rw [z.2.1, Int.toNat_natCast]
 refine ⟨?_, hr, by rw [← r.hL]; exact Nl hi hne r.he⟩
 unfold cp
 rw [hr, z.2.2.1, z2.2.2.1]
 cases s <;> simp only [Bool.not_true, Bool.not_false, if_true, Bool.false_eq_true, if_false] <;> omega
theorem Row.tailM (r : Row n m L c) {j : Nat} (hj : j < L) : Z1a c (j : Nat) = some (((tl c j : Nat) : Int), true) := by
 obtain ⟨i, s, hi, hne, hp, q1, q2, q3, q4, q5, q6, q7, q8⟩ := r.at hj
 have b := r.bd
 have := s_Tail r.is r.he (by omega) (by omega) (s := s) hi hne
 rw [hp] at this
 rw [this, q3]
theorem s_arcs {S X : Type} {y : S → Int → Option (S ⊕ X)} {s0 : S} {u : Nat} (r : Row n m L c) (hu : u < m) (I : Nat → S → Prop) (J : X → Prop) (h0 : I (fs c u) s0)
    (hstep : ∀ j s, fs c u ≤ j → j < fs c (u + 1) → I j s → Ok (y s (j : Nat)) (fun t => match t with | .inl s' => I (j + 1) s' | .inr x => J x)) :
    Ok (Z5v y c (u : Nat) (.inl s0)) (fun t => match t with | .inl s => I (fs c (u + 1)) s | .inr x => J x) := by
  have lf := r.lens.1
  have b := r.bd
  have f1 := (r.first.1 u (by omega)).1
  have f2 := (r.first.1 (u + 1) (by omega)).1
  have f3 := r.first.2.2.2 u hu
  have e1 : ((u : Int) + 1).toNat = u + 1 := by omega
  unfold Z5v
  simp only [Int.toNat_natCast, f1]
  refine Ok.gd.2 ⟨(by omega), Ok.bind.2 (Vm (fun s => ∃ (k : Nat) (st : S), s = ((k : Int), Sum.inl st) ∧ fs c u ≤ k ∧ k ≤ fs c (u + 1) ∧ I k st) (fun s => (fs c (u + 1) - s.1).toNat) ⟨fs c u, s0, rfl, Nat.le_refl _, f3.1, h0⟩ (by unfold Yh; simp only; omega) ?_)⟩
  rintro s ⟨k, st, rfl, hk0, hk, hI⟩ P next exit
  unfold Zb5
  simp only [Int.toNat_natCast, e1, f2]
  refine Ok.gd.2 ⟨(by omega), Ok.gd.2 ⟨(by omega), Ok.ite.2 ⟨fun hx => ?_, fun hx => Ok.some.2 (exit _ (Ok.some.2 ?_))⟩⟩⟩
  · refine Ok.bind.2 ?_
    show Ok (y st _) _
    refine Ok.mono (hstep k st hk0 (by omega) hI) ?_
    rintro (s' | x) hr
    · exact Ok.ite.2 ⟨fun h => by simp at h, fun _ => Ok.gd.2 ⟨(by omega), Ok.some.2 (next _ ⟨k + 1, s', by simp, by omega, by omega, hr⟩ (by simp only; omega))⟩⟩
    · exact Ok.ite.2 ⟨fun _ => Ok.some.2 (exit _ (Ok.some.2 hr)), fun h => by simp at h⟩
  · obtain rfl : k = fs c (u + 1) := by omega
    exact hI
def Ks (al : List Arc) (R : List Int) : List Int := (List.range al.length).map fun i => if (al.getD i default).fr = (al.getD i default).to then 0 else R.getD (pos al i true) 0
theorem flN_len (al : List Arc) (R : List Int) : (Ks al R).length = al.length := by simp [Ks]
theorem Z2x {al : List Arc} {R : List Int} {i : Nat} (h : i < al.length) : (Ks al R).getD i 0 = if (al.getD i default).fr = (al.getD i default).to then 0 else R.getD (pos al i true) 0 := by
 unfold Ks
 rw [List.getD_eq_getElem?_getD, List.getElem?_map, List.getElem?_range h]; rfl
structure ResOK (n : Net) (m L : Nat) (c : Csr) (R X : List Int) : Prop where
  lr : R.length = L
  lx : X.length = m
  res : ∀ j, j < L → 0 ≤ R.getD j 0 ∧ R.getD j 0 + R.getD (rv c j) 0 = cp c j
  ex : ∀ v : Nat, v < m → X.getD v 0 = ex n.Arcs (Ks n.Arcs R) v n.Arcs.length
theorem Zcy {R : List Int} (r : Row n m L c) (h : ∀ j, j < L → 0 ≤ R.getD j 0 ∧ R.getD j 0 + R.getD (rv c j) 0 = cp c j) : FwithinP n (Ks n.Arcs R) := by
 refine ⟨r.chk, flN_len _ _, fun i hi => ?_⟩
 rw [Z2x hi]
 have hc := r.caps i hi
 by_cases e : (n.Arcs.getD i default).fr = (n.Arcs.getD i default).to
 · rw [if_pos e]; omega
 ·
  rw [if_neg e]
  obtain ⟨a1, a2, a3⟩ := r.cpPos hi e true
  have h1 := h _ a3
  have h2 := h _ (r.rev a3).2.1
  omega
theorem ResOK.within {R X : List Int} (h : ResOK n m L c R X) (r : Row n m L c) : FwithinP n (Ks n.Arcs R) := Zcy r h.res
def mvR (c : Csr) (R : List Int) (j : Nat) (d : Int) : List Int := (R.set j (R.getD j 0 - d)).set (rv c j) (R.getD (rv c j) 0 + d)
def mvX (c : Csr) (X : List Int) (j : Nat) (d : Int) : List Int := (X.set (tl c j) (X.getD (tl c j) 0 - d)).set (hd c j) (X.getD (hd c j) 0 + d)
theorem Z4y {R : List Int} {j k : Nat} {d : Int} (r : Row n m L c) (hl : R.length = L) (hj : j < L) : (mvR c R j d).getD k 0 = if k = rv c j then R.getD (rv c j) 0 + d else if k = j then R.getD j 0 - d else R.getD k 0 := by
 have := r.rev hj
 unfold mvR
 rw [Vp, Vp, List.length_set]
 by_cases c1 : k = rv c j
 · rw [if_pos ⟨c1.symm, by omega⟩, if_pos c1]
 ·
  rw [if_neg fun h => c1 h.1.symm, if_neg c1]
  by_cases c2 : k = j
  · rw [if_pos ⟨c2.symm, by omega⟩, if_pos c2]
  · rw [if_neg fun h => c2 h.1.symm, if_neg c2]
theorem Z9i {X : List Int} {j k : Nat} {d : Int} (r : Row n m L c) (hl : X.length = m) (hj : j < L) : (mvX c X j d).getD k 0 = X.getD k 0 - (if tl c j = k then d else 0) + (if hd c j = k then d else 0) := by
 have h1 := r.tlh hj
 have h2 := r.head hj
 unfold mvX
 rw [Vp, Vp, List.length_set]
 by_cases c1 : hd c j = k
 ·
  subst c1
  rw [if_pos ⟨rfl, by omega⟩, if_neg h1.2.2.2, if_pos rfl]; omega
 ·
  rw [if_neg fun h => c1 h.1]
  by_cases c2 : tl c j = k
  ·
   subst c2
   rw [if_pos ⟨rfl, by omega⟩, if_pos rfl, if_neg c1]; omega
  · rw [if_neg fun h => c2 h.1, if_neg c2, if_neg c1]; omega
theorem ex_bump {al : List Arc} {f g : List Int} {i : Nat} {δ : Int} {K : Nat} (v : Int) (hi : i < K) (h : ∀ k, k < K → g.getD k 0 = f.getD k 0 + if k = i then δ else 0) :
    ex al g v K = ex al f v K + ((if (al.getD i default).to = v then δ else 0) - (if (al.getD i default).fr = v then δ else 0)) := by
  have key : ∀ k, k ≤ K → ex al g v k = ex al f v k + if i < k then ((if (al.getD i default).to = v then δ else 0) - (if (al.getD i default).fr = v then δ else 0)) else 0 := by
    intro k
    induction k with
    | zero => intro _; rw [if_neg (by omega)]; rfl
    | succ k ih =>
      intro hk
      simp only [ex]
      rw [ih (by omega), h k (by omega)]
      by_cases e : k = i
      · subst e
        rw [if_neg (show ¬ k < k by omega), if_pos rfl, if_pos (show k < k + 1 by omega)]
        split <;> split <;> omega
      · rw [if_neg e]
        by_cases e2 : i < k
        · rw [if_pos e2, if_pos (show i < k + 1 by omega)]; simp only [Int.add_zero]; omega
        · rw [if_neg e2, if_neg (show ¬ i < k + 1 by omega)]; simp only [Int.add_zero]
  rw [key K (Nat.le_refl _), if_pos hi]
theorem ResOK.move {R X : List Int} {j : Nat} {d : Int} (h : ResOK n m L c R X) (r : Row n m L c) (hj : j < L) (d0 : 0 ≤ d) (d1 : d ≤ R.getD j 0) : ResOK n m L c (mvR c R j d) (mvX c X j d) := by
 have hr := r.rev hj
 have hlr := h.lr
 have hlx := h.lx
 refine ⟨by simp [mvR, hlr], by simp [mvX, hlx], fun k hk => ?_, fun v hv => ?_⟩
 ·
  have hk2 := r.rev hk
  have a := h.res k hk
  have a2 := h.res _ hr.2.1
  have a3 := h.res j hj
  have a4 := r.cap hj
  rw [Z4y r hlr hj, Z4y r hlr hj]
  by_cases c1 : k = rv c j
  ·
   subst c1
   rw [if_pos rfl, hr.2.2.1, if_neg fun e => hr.2.2.2 e.symm, if_pos rfl, a4.2.2.1]; omega
  ·
   by_cases c2 : k = j
   ·
    subst c2
    rw [if_neg c1, if_pos rfl, if_pos rfl]; omega
   ·
    have c3 : rv c k ≠ rv c j := fun e => c2 (by rw [← hk2.2.2.1, e, hr.2.2.1])
    have c4 : rv c k ≠ j := fun e => c1 (by rw [← e, hk2.2.2.1])
    rw [if_neg c1, if_neg c2, if_neg c3, if_neg c4]; exact a
 ·
  obtain ⟨i, s, hi, hne, hp, q1, q2, q3, q4, q5, q6, q7, q8⟩ := r.at hj
  rw [Z9i r hlx hj, h.ex v hv, ex_bump (f := Ks n.Arcs R) (g := Ks n.Arcs (mvR c R j d)) (i := i) (δ := if s then -d else d) (v : Int) hi fun k hk => ?_]
  ·
   have t1 : (tl c j = v) ↔ Xe (n.Arcs.getD i default) s = (v : Int) := by rw [← q3]; omega
   have t2 : (hd c j = v) ↔ Xe (n.Arcs.getD i default) (!s) = (v : Int) := by rw [← q2]; omega
   simp only [t1, t2]
   cases s <;> simp only [Xe, Bool.not_false, Bool.not_true, if_true, if_false, Bool.false_eq_true] <;> split <;> split <;> omega
  ·
   rw [Z2x hk, Z2x hk]
   by_cases e : (n.Arcs.getD k default).fr = (n.Arcs.getD k default).to
   ·
    have : k ≠ i := fun e2 => by subst e2; exact hne e
    rw [if_pos e, if_pos e, if_neg this]; rfl
   ·
    rw [if_neg e, if_neg e, Z4y r hlr hj]
    by_cases e2 : k = i
    ·
     subst e2
     cases s
     ·
      have b1 : pos n.Arcs k true = rv c j := by rw [q5]; rfl
      rw [if_pos b1, if_pos rfl, b1]; rfl
     ·
      have b1 : pos n.Arcs k true ≠ rv c j := fun e3 => by rw [q5] at e3; have := (Ky r.he hk hk e e e3).2; cases this
      rw [if_neg b1, if_pos hp, if_pos rfl, hp]; rfl
    ·
     have b1 : pos n.Arcs k true ≠ rv c j := fun e3 => by rw [q5] at e3; exact e2 (Ky r.he hk hi e hne e3).1
     have b2 : pos n.Arcs k true ≠ j := fun e3 => by rw [← hp] at e3; exact e2 (Ky r.he hk hi e hne e3).1
     rw [if_neg b1, if_neg b2, if_neg e2, Int.add_zero]
theorem Z6r {xs : List Int} (h : xs.length ≤ 1000000000) : Ry xs = some xs := by
 refine Ug ?_
 unfold Ry
 exact Ok.gd.2 ⟨by constructor <;> omega, Ok.some.2 rfl⟩
theorem s_CloneI {xs : List Int} (h : xs.length ≤ 1000000000) : Z3s xs = some xs := by
 refine Ug ?_
 unfold Z3s
 exact Ok.gd.2 ⟨by constructor <;> omega, Ok.some.2 rfl⟩
end row
end Go.Acq
namespace Go.Acq
open Go
section row
variable {n : Net} {m L : Nat} {c : Csr}
theorem Zbr {g h : Nat → Int} : ∀ {k : Nat}, (∀ i, i < k → -h i ≤ g i ∧ g i ≤ h i) → -Xv h k ≤ Xv g k ∧ Xv g k ≤ Xv h k
 | 0, _ => by simp [Xv]
 | k + 1, e => by
  have := Zbr (k := k) fun i hi => e i (by omega)
  have := e k (by omega)
  simp only [Xv]; omega
def HeightsP (n : Net) (m : Nat) (h : List Int) : Prop := h.length = m ∧ (∀ s : Nat, n.S = s → h.getD s 0 = m) ∧ (∀ t : Nat, n.T = t → h.getD t 0 = 0) ∧ ∀ v, v < m → 0 ≤ h.getD v 0 ∧ h.getD v 0 < 2 * m
structure PreOK (n : Net) (m L : Nat) (c : Csr) (p : Pre) : Prop where
  ok : ResOK n m L c p.Res p.Ex
  nn : ∀ v, v < m → (v : Int) ≠ n.S → 0 ≤ p.Ex.getD v 0
  hs : HeightsP n m p.H
  val : ∀ j, j < L → 0 < p.Res.getD j 0 → p.H.getD (tl c j) 0 ≤ p.H.getD (hd c j) 0 + 1
structure PreLen (p : Pre) : Prop where
  r : lenok p.Res.length
  x : lenok p.Ex.length
  h : lenok p.H.length
theorem PreOK.len {p : Pre} (h : PreOK n m L c p) (r : Row n m L c) : PreLen p := by
 have := r.bd
 have h1 := h.ok.lr
 have h2 := h.ok.lx
 have h3 := h.hs.1
 exact ⟨by omega, by omega, by omega⟩
end row
end Go.Acq
namespace Go.Acq
open Go
def Ux (n : Net) (X : List Int) (u : Nat) : Prop := (u : Int) ≠ n.S ∧ (u : Int) ≠ n.T ∧ 0 < X.getD u 0
instance (n : Net) (X : List Int) (u : Nat) : Decidable (Ux n X u) := by unfold Ux; infer_instance
def Un (c : Csr) (p : Pre) (u j : Nat) : Prop := 0 < p.Res.getD j 0 ∧ p.H.getD u 0 = p.H.getD (hd c j) 0 + 1
instance (c : Csr) (p : Pre) (u j : Nat) : Decidable (Un c p u j) := by unfold Un; infer_instance
def Lv (n : Net) (c : Csr) (p : Pre) (u : Nat) : Prop := Ux n p.Ex u ∧ ∀ j, fs c u ≤ j → j < fs c (u + 1) → ¬Un c p u j
instance (n : Net) (c : Csr) (p : Pre) (u : Nat) : Decidable (Lv n c p u) :=
  if h : Ux n p.Ex u ∧ ∀ j, j < fs c (u + 1) → fs c u ≤ j → ¬Un c p u j then .isTrue ⟨h.1, fun j a b => h.2 j b a⟩ else .isFalse fun g => h ⟨g.1, fun j a b => g.2 j b a⟩
def Kh (p : Nat → Bool) : Nat → List Int
  | 0 => []
  | k + 1 => Kh p k ++ (if p k = true then [(k : Int)] else [])
theorem Z8d (p : Nat → Bool) : ∀ k, (Kh p k).length ≤ k
 | 0 => Nat.le_refl _
 | k + 1 => by
  have := Z8d p k
  simp only [Kh, List.length_append]
  split <;> simp <;> omega
section row
variable {n : Net} {m L : Nat} {c : Csr}
theorem Z90 {p : Pre} {u : Nat} (r : Row n m L c) (lx : p.Ex.length = m) (hu : u < m) : Z5x c p (u : Nat) = some (decide (Ux n p.Ex u)) := by
 have h2 := r.is.hS
 have h3 := r.is.hT
 unfold Z5x Ux
 rw [h2, h3]
 by_cases a : (u : Int) ≠ n.S
 ·
  by_cases b : (u : Int) ≠ n.T
  · rw [if_pos a, if_pos b, Ke (by constructor <;> omega), Int.toNat_natCast]; simp [a, b]
  · rw [if_pos a, if_neg b]; simp [b]
 · rw [if_neg a]; simp [a]
def HtB (m : Nat) (h : List Int) : Prop := h.length = m ∧ ∀ v, v < m → -1000000 ≤ h.getD v 0 ∧ h.getD v 0 ≤ 1000000
theorem HeightsP.hb {h : List Int} (r : Row n m L c) (hh : HeightsP n m h) : HtB m h := ⟨hh.1, fun v hv => by have := hh.2.2.2 v hv; have := r.bd; omega⟩
theorem Zaf {p : Pre} {u j : Nat} (r : Row n m L c) (lr : p.Res.length = L) (hb : HtB m p.H) (hu : u < m) (hj : j < L) : Z4j c p (u : Nat) (j : Nat) = some (decide (Un c p u j)) := by
 have g1 := r.head hj
 have g2 := hb.2 _ g1.2
 have := hb.1
 have := r.lens.2.1
 unfold Z4j Un
 simp only [Int.toNat_natCast, g1.1]
 rw [Ke (by constructor <;> omega)]
 by_cases h : 0 < p.Res.getD j 0
 ·
  rw [if_pos h, Ke (by constructor <;> omega), Ke (by constructor <;> omega), Ke (by constructor <;> omega), Ke (by constructor <;> omega)]
  exact congrArg some (decide_eq_decide.2 ⟨fun e => ⟨h, e⟩, fun e => e.2⟩)
 ·
  rw [if_neg h]
  exact congrArg some (decide_eq_false fun e => h e.1).symm
theorem s_stuck {p : Pre} {u : Nat} (r : Row n m L c) (lr : p.Res.length = L) (lx : p.Ex.length = m) (hb : HtB m p.H) (hu : u < m) : Ok (Z74 c p (u : Nat)) (fun b => b = decide (Lv n c p u)) := by
 have hfl := r.first.2.2.2 u hu
 unfold Z74 Z4u
 refine Ok.bind.2 (Ok.some.2 (Ok.bind.2 (Ok.mono (s_arcs r hu (fun j _ => ∀ i, fs c u ≤ i → i < j → ¬Un c p u i) (fun _ => ∃ j, fs c u ≤ j ∧ j < fs c (u + 1) ∧ Un c p u j) (fun i h1 h2 => by omega) fun j s h1 h2 h3 => ?_) ?_)))
 ·
  unfold Z8r
  refine Ok.bind.2 (Vn (Zaf r lr hb hu (by omega)) (Ok.ite.2 ⟨fun h => Ok.some.2 ⟨j, h1, h2, of_decide_eq_true h⟩, fun h => Ok.some.2 fun i h4 h5 => ?_⟩))
  rcases Nat.lt_or_ge i j with h6 | h6
  · exact h3 i h4 h6
  · rw [show i = j by omega]; exact fun h7 => h (decide_eq_true h7)
 ·
  rintro (s | x) h
  ·
   refine Ok.bind.2 (Vn (Z90 r lx hu) (Ok.some.2 ?_))
   rw [Bool.eq_iff_iff, decide_eq_true_iff, decide_eq_true_iff]
   exact ⟨fun h1 => ⟨h1, h⟩, fun h1 => h1.1⟩
  ·
   obtain ⟨j, h1, h2, h3⟩ := h
   exact Ok.some.2 (decide_eq_false fun h4 => h4.2 j h1 h2 h3).symm
theorem s_all {p : Nat → Bool} {step : List Int → Int → Option ((List Int × Int) ⊕ List Int)} (hm : m ≤ 4096)
    (hs : ∀ (o : List Int) (k : Nat), k ≤ m → o.length ≤ k → step o k = if k < m then (if p k = true then some (.inl (o ++ [(k : Int)], (k : Int) + 1)) else some (.inl (o, (k : Int) + 1))) else some (.inr o)) : Ok (Yw (fun s => step s.1 s.2) Yh ([], 0)) (fun o => o = Kh p m) := by
  refine Vm (fun s => ∃ k : Nat, s.2 = k ∧ k ≤ m ∧ s.1 = Kh p k) (fun s => (m - s.2).toNat) ⟨0, rfl, by omega, rfl⟩ (by unfold Yh; simp only; omega) ?_
  rintro ⟨o, x⟩ ⟨k, h1, hk, ho⟩ P next exit
  simp only at h1 ho next ⊢
  subst h1; subst ho
  rw [hs _ k hk (Z8d p k)]
  refine Ok.ite.2 ⟨fun hx => Ok.ite.2 ⟨fun h => Ok.some.2 (next _ ⟨k + 1, by simp, by omega, by simp only [Kh]; rw [if_pos h]⟩ (by simp only; omega)), fun h => Ok.some.2 (next _ ⟨k + 1, by simp, by omega, by simp only [Kh]; rw [if_neg h, List.append_nil]⟩ (by simp only; omega))⟩, fun hx => Ok.some.2 (exit _ (by rw [show k = m by omega]))⟩
theorem s_May {p : Pre} (r : Row n m L c) (lr : p.Res.length = L) (lx : p.Ex.length = m) (hb : HtB m p.H) : Z7c c p = some (Kh (fun j => decide (Ux n p.Ex (tl c j) ∧ Un c p (tl c j) j)) L, Kh (fun u => decide (Lv n c p u)) m) := by
 have b := r.bd
 have hN := r.is.hN
 refine Ug ?_
 unfold Z7c
 refine Ok.bind.2 (Vm (fun s => ∃ k : Nat, s.2 = k ∧ k ≤ m ∧ s.1 = Kh (fun j => decide (Ux n p.Ex (tl c j) ∧ Un c p (tl c j) j)) (fs c k)) (fun s => (m - s.2).toNat) ⟨0, rfl, by omega, by rw [r.first.2.1]; rfl⟩ (by unfold Yh; simp only; omega) ?_)
 rintro ⟨o, x⟩ ⟨k, h1, hk, ho⟩ P next exit
 simp only at h1 ho next ⊢
 subst h1
 unfold Za8
 rw [hN]
 refine Ok.ite.2 ⟨fun hx => ?_, fun hx => Ok.some.2 (exit _ ?_)⟩
 ·
  have hkm : k < m := by omega
  have hfl := r.first.2.2.2 k hkm
  unfold Z4u
  refine Ok.bind.2 (Ok.some.2 (Ok.bind.2 (Ok.mono (s_arcs r hkm (fun j s => s = Kh (fun j => decide (Ux n p.Ex (tl c j) ∧ Un c p (tl c j) j)) j) (fun _ => False) ho fun j s g1 g2 g3 => ?_) ?_)))
  ·
   have hjL : j < L := by omega
   have ht := (r.range hjL hkm).1 ⟨g1, g2⟩
   subst g3
   have hle := Z8d (fun j => decide (Ux n p.Ex (tl c j) ∧ Un c p (tl c j) j)) j
   have j3 : ∀ (b : Bool) (P : List Int ⊕ Empty → Prop), (P (.inl (Kh (fun j => decide (Ux n p.Ex (tl c j) ∧ Un c p (tl c j) j)) (j + 1)))) → (b = true ↔ (Ux n p.Ex k ∧ Un c p k j)) → Ok (Z4t (Kh (fun j => decide (Ux n p.Ex (tl c j) ∧ Un c p (tl c j) j)) j) (j : Nat) b) P := by
    intro b P hP hb
    unfold Z4t
    have e : decide (Ux n p.Ex (tl c j) ∧ Un c p (tl c j) j) = b := by rw [ht, Bool.eq_iff_iff, decide_eq_true_iff]; exact hb.symm
    refine Ok.ite.2 ⟨fun h => Ok.gd.2 ⟨?_, Ok.some.2 ?_⟩, fun h => Ok.some.2 ?_⟩
    · rw [List.length_append, List.length_singleton]; constructor <;> omega
    · simp only [Kh] at hP; rw [if_pos (e.trans h)] at hP; exact hP
    · simp only [Kh] at hP; rw [if_neg (by rw [e]; exact h), List.append_nil] at hP; exact hP
   unfold Z8y
   refine Ok.bind.2 (Vn (Z90 r lx hkm) (Ok.ite.2 ⟨fun h => Ok.bind.2 (Vn (Zaf r lr hb hkm hjL) (j3 _ _ rfl ?_)), fun h => j3 false _ rfl ⟨fun h2 => (by cases h2), fun h2 => absurd (decide_eq_true h2.1) h⟩⟩))
   rw [decide_eq_true_iff]
   exact ⟨fun h2 => ⟨of_decide_eq_true h, h2⟩, fun h2 => h2.2⟩
  ·
   rintro (s | x) h
   · exact Ok.gd.2 ⟨(by omega), Ok.some.2 (next _ ⟨k + 1, by simp, by omega, h⟩ (by simp only; omega))⟩
   · exact h.elim
 ·
  obtain rfl : k = m := by omega
  unfold Zbf Za4
  refine Ok.bind.2 (Ok.bind.2 (Ok.mono (s_all (m := k) (p := fun u => decide (Lv n c p u)) (step := fun o x => Z7t c c p o x) (by omega) fun o q hq hol => ?_) fun o2 ho2 => ?_))
  ·
   unfold Z7t Zav
   rw [hN]
   by_cases h : q < k
   ·
    obtain ⟨b, hb1, hb2⟩ := s_stuck r lr lx hb h
    rw [if_pos (by omega), if_pos h, hb1]
    simp only [Option.bind_some]
    rw [hb2]
    by_cases h2 : decide (Lv n c p q) = true
    · rw [if_pos h2, if_pos h2, Ke (by rw [List.length_append, List.length_singleton]; constructor <;> omega), Ke (by constructor <;> omega)]
    · rw [if_neg h2, if_neg h2, Ke (by constructor <;> omega)]
   · rw [if_neg (by omega), if_neg h]
  ·
   unfold Zbn
   refine Ok.some.2 (Ok.some.2 ?_)
   rw [ho, r.first.2.2.1, ho2]
def pushD (c : Csr) (p : Pre) (j : Nat) : Int := min (p.Ex.getD (tl c j) 0) (p.Res.getD j 0)
def pushP (c : Csr) (p : Pre) (j : Nat) : Pre := ⟨mvR c p.Res j (pushD c p j), mvX c p.Ex j (pushD c p j), p.H⟩
theorem PreOK.push {p : Pre} {j : Nat} (h : PreOK n m L c p) (r : Row n m L c) (hj : j < L) (hA : Ux n p.Ex (tl c j)) (hB : Un c p (tl c j) j) : PreOK n m L c (pushP c p j) := by
 have h1 := hA.2.2
 have h2 := hB.1
 have hD : pushD c p j = min (p.Ex.getD (tl c j) 0) (p.Res.getD j 0) := rfl
 have hlr := h.ok.lr
 have hlx := h.ok.lx
 have ht := r.tlh hj
 have hr := r.rev hj
 refine ⟨h.ok.move r hj (by omega) (by omega), fun v hv hvS => ?_, h.hs, fun k hk h0 => ?_⟩
 ·
  have := h.nn v hv hvS
  simp only [pushP]
  rw [Z9i r hlx hj]
  by_cases c1 : tl c j = v
  ·
   subst c1
   rw [if_pos rfl, if_neg fun e => ht.2.2.2 e.symm]; omega
  · rw [if_neg c1]; split <;> omega
 ·
  simp only [pushP] at h0 ⊢
  rw [Z4y r hlr hj] at h0
  by_cases c1 : k = rv c j
  ·
   subst c1
   rw [ht.2.1, ht.2.2.1]
   have := hB.2
   omega
  ·
   rw [if_neg c1] at h0
   by_cases c2 : k = j
   · subst c2; exact h.val k hk h2
   · rw [if_neg c2] at h0; exact h.val k hk h0
def Ng (c : Csr) (p : Pre) (m : Nat) (a : Nat) : Nat → Int
  | 0 => 2 * m
  | k + 1 => if 0 < p.Res.getD (a + k) 0 then min (Ng c p m a k) (p.H.getD (hd c (a + k)) 0) else Ng c p m a k
def Jy (c : Csr) (p : Pre) (m u : Nat) : Int := Ng c p m (fs c u) (fs c (u + 1) - fs c u)
def Z0p (c : Csr) (p : Pre) (m u : Nat) : Pre := ⟨p.Res, p.Ex, p.H.set u (Jy c p m u + 1)⟩
theorem Za0 {p : Pre} {a : Nat} : ∀ {k i : Nat}, i < k → 0 < p.Res.getD (a + i) 0 → Ng c p m a k ≤ p.H.getD (hd c (a + i)) 0
 | 0, _, h, _ => by omega
 | k + 1, i, h, h0 => by
  simp only [Ng]
  rcases Nat.lt_or_ge i k with h1 | h1
  ·
   have := Za0 h1 h0
   split <;> omega
  ·
   have : i = k := by omega
   subst this
   rw [if_pos h0]; omega
theorem Za6 (p : Pre) (a : Nat) : ∀ k : Nat, Ng c p m a k ≤ 2 * m ∧ (Ng c p m a k = 2 * m ∨ ∃ i, i < k ∧ 0 < p.Res.getD (a + i) 0 ∧ p.H.getD (hd c (a + i)) 0 = Ng c p m a k)
 | 0 => ⟨Int.le_refl _, .inl rfl⟩
 | k + 1 => by
  obtain ⟨h1, h2⟩ := Za6 p a k
  simp only [Ng]
  by_cases h : 0 < p.Res.getD (a + k) 0
  ·
   rw [if_pos h]
   refine ⟨by omega, ?_⟩
   by_cases h3 : p.H.getD (hd c (a + k)) 0 ≤ Ng c p m a k
   · exact .inr ⟨k, by omega, h, by omega⟩
   ·
    rcases h2 with h2 | ⟨i, g1, g2, g3⟩
    · exact .inl (by omega)
    · exact .inr ⟨i, by omega, g2, by omega⟩
  ·
   rw [if_neg h]
   refine ⟨h1, ?_⟩
   rcases h2 with h2 | ⟨i, g1, g2, g3⟩
   · exact .inl h2
   · exact .inr ⟨i, by omega, g2, g3⟩
theorem lowV_le {p : Pre} {u j : Nat} (r : Row n m L c) (hu : u < m) (hj : j < L) (ht : tl c j = u) (h0 : 0 < p.Res.getD j 0) : Jy c p m u ≤ p.H.getD (hd c j) 0 := by
 have h1 := (r.range hj hu).2 ht
 have e : fs c u + (j - fs c u) = j := by omega
 have := Za0 (c := c) (m := m) (p := p) (a := fs c u) (k := fs c (u + 1) - fs c u) (i := j - fs c u) (by omega) (by rw [e]; exact h0)
 rw [e] at this; exact this
theorem lowV_at (p : Pre) {u : Nat} (r : Row n m L c) (hu : u < m) : Jy c p m u ≤ 2 * m ∧ (Jy c p m u = 2 * m ∨ ∃ j, j < L ∧ tl c j = u ∧ 0 < p.Res.getD j 0 ∧ p.H.getD (hd c j) 0 = Jy c p m u) := by
 have hfl := r.first.2.2.2 u hu
 obtain ⟨h1, h2⟩ := Za6 (c := c) (m := m) p (fs c u) (fs c (u + 1) - fs c u)
 refine ⟨h1, ?_⟩
 rcases h2 with h2 | ⟨i, g1, g2, g3⟩
 · exact .inl h2
 · exact .inr ⟨fs c u + i, by omega, (r.range (by omega) hu).1 ⟨by omega, by omega⟩, g2, g3⟩
def OpenJ (c : Csr) (L : Nat) (R : List Int) (u v : Nat) : Prop := ∃ j, j < L ∧ tl c j = u ∧ hd c j = v ∧ 0 < R.getD j 0
theorem OpenJ.lt {R : List Int} (r : Row n m L c) {u v : Nat} (h : OpenJ c L R u v) : u < m ∧ v < m := by
 obtain ⟨j, h1, h2, h3, _⟩ := h
 exact ⟨by rw [← h2]; exact (r.tlh h1).1, by rw [← h3]; exact (r.head h1).2⟩
theorem Zah {H : Nat → Int} {G : Nat → Nat → Prop} (hG : ∀ u v, G u v → H u ≤ H v + 1) {u v : Nat} (hr : Reach G u v) : ∀ k : Int, H v ≤ k → k ≤ H u → ∃ w, Reach G u w ∧ H w = k := by
 induction hr with
 | refl => intro k h1 h2; exact ⟨u, .refl, by omega⟩
 | step h1 h2 ih =>
  rename_i x y
  intro k h3 h4
  by_cases c : H x ≤ k
  · exact ih k c h4
  ·
   have := hG _ _ h2
   exact ⟨y, .step h1 h2, by omega⟩
theorem pigeon : ∀ (m : Nat) (f : Nat → Nat), (∀ k, k ≤ m → f k < m) → ∃ i j, i < j ∧ j ≤ m ∧ f i = f j
 | 0, f, h => absurd (h 0 (Nat.le_refl _)) (by omega)
 | m + 1, f, h => by
  by_cases e : ∃ i, i ≤ m ∧ f i = f (m + 1)
  ·
   obtain ⟨i, h1, h2⟩ := e
   exact ⟨i, m + 1, by omega, by omega, h2⟩
  ·
   have ne : ∀ i, i ≤ m → f i ≠ f (m + 1) := fun i hi h2 => e ⟨i, hi, h2⟩
   obtain ⟨i, j, h1, h2, h3⟩ := pigeon m (fun k => if f (m + 1) < f k then f k - 1 else f k) fun k hk => by
    have a := h k (by omega)
    have a2 := h (m + 1) (by omega)
    have a3 := ne k hk
    split <;> omega
   have a1 := ne i (by omega)
   have a2 := ne j (by omega)
   refine ⟨i, j, h1, by omega, ?_⟩
   split at h3 <;> split at h3 <;> omega
theorem Z93 {H : Nat → Int} {a : Int} (h : ∀ k : Nat, k ≤ m → ∃ w, w < m ∧ H w = a + k) : False := by
 have : ∀ k : Nat, ∃ w, k ≤ m → w < m ∧ H w = a + k := fun k => by
  by_cases c : k ≤ m
  · obtain ⟨w, hw⟩ := h k c; exact ⟨w, fun _ => hw⟩
  · exact ⟨0, fun h => absurd h c⟩
 obtain ⟨f, hf⟩ := Classical.axiomOfChoice this
 obtain ⟨i, j, h1, h2, h3⟩ := pigeon m f fun k hk => (hf k hk).1
 have a1 := (hf i (by omega)).2
 have a2 := (hf j h2).2
 rw [h3] at a1
 omega
theorem Zaw {R : List Int} (r : Row n m L c) {u v : Nat} (hu : u < m) (h : Reach (OpenJ c L R) u v) : v < m := by
 induction h with
 | refl => exact hu
 | step _ h2 _ => exact (h2.lt r).2
theorem Zdg {R X : List Int} {S u : Nat} (r : Row n m L c) (h : ResOK n m L c R X) (hS : n.S = S) (nn : ∀ v, v < m → v ≠ S → 0 ≤ X.getD v 0) (hu : u < m) (hx : 0 < X.getD u 0) : Reach (OpenJ c L R) u S := by
 refine Classical.byContradiction fun hno => ?_
 let q : Nat → Bool := fun v => @decide (¬Reach (OpenJ c L R) u v) (Classical.propDecidable _)
 have hq : ∀ v, q v = true ↔ ¬Reach (OpenJ c L R) u v := fun v => @decide_eq_true_iff _ (Classical.propDecidable _)
 obtain ⟨cl, hcl⟩ : ∃ cl : List Bool, cl = (List.range m).map q := ⟨_, rfl⟩
 have inc : ∀ v : Nat, v < m → (Uc cl v = true ↔ ¬Reach (OpenJ c L R) u v) := fun v hv => by
  unfold Uc
  rw [hcl, Int.toNat_natCast, List.getD_eq_getElem?_getD, List.getElem?_map, List.getElem?_range hv]
  exact hq v
 have inf : ∀ v : Nat, v < m → (Uc cl v = false ↔ Reach (OpenJ c L R) u v) := fun v hv => by
  rw [Bool.eq_false_iff, ne_eq, inc v hv]; exact Classical.not_not
 have he := r.he
 have hw := h.within r
 have hac : ∀ k, k ≤ n.Arcs.length → acK n.Arcs (Ks n.Arcs R) cl k ≤ 0 := by
  intro k
  induction k with
  | zero => intro _; simp [acK]
  | succ k ih =>
   intro hk
   have h0 := he k hk false
   have h1 := he k hk true
   simp only [Xe, Bool.false_eq_true, if_false, if_true] at h0 h1
   have hf := (hw.2.2 k hk).1
   have ih := ih (by omega)
   simp only [acK]
   by_cases c1 : Uc cl (n.Arcs.getD k default).fr = true ∧ Uc cl (n.Arcs.getD k default).to = false
   ·
    have hz : (Ks n.Arcs R).getD k 0 = 0 := by
     rw [Z2x hk]
     by_cases e : (n.Arcs.getD k default).fr = (n.Arcs.getD k default).to
     · rw [if_pos e]
     ·
      rw [if_neg e]
      obtain ⟨-, a2, a3⟩ := r.cpPos hk e true
      have z := r.is.ok.hat k hk e true
      have z2 := r.is.ok.hat k hk e false
      have nnR := (h.res _ a3).1
      refine Int.le_antisymm (Int.not_lt.1 fun hpos => ?_) nnR
      obtain ⟨p, hp⟩ : ∃ p : Nat, (n.Arcs.getD k default).fr = p := ⟨(n.Arcs.getD k default).fr.toNat, by omega⟩
      obtain ⟨t, ht⟩ : ∃ t : Nat, (n.Arcs.getD k default).to = t := ⟨(n.Arcs.getD k default).to.toNat, by omega⟩
      rw [hp, ht] at c1
      have r1 := (inf t (by omega)).1 c1.2
      refine (inc p (by omega)).1 c1.1 (.step r1 ⟨_, a3, ?_, ?_, hpos⟩)
      · unfold tl hd; rw [a2]; simp only [Bool.not_true]; rw [z2.1]; simp only [Xe, Bool.not_false, if_true, ht]; omega
      · unfold hd; rw [z.1]; simp only [Xe, Bool.not_true, Bool.false_eq_true, if_false, hp]; omega
    rw [if_pos c1, hz]; split <;> omega
   · rw [if_neg c1]; split <;> omega
 have hpc : ∀ j, j ≤ m → 0 ≤ Gj n.Arcs (Ks n.Arcs R) cl j n.Arcs.length ∧ (u < j → 0 < Gj n.Arcs (Ks n.Arcs R) cl j n.Arcs.length) := by
  intro j
  induction j with
  | zero => intro _; rw [show ((0 : Nat) : Int) = 0 from rfl, Z9x he _ (Nat.le_refl _)]; exact ⟨Int.le_refl _, fun h => by omega⟩
  | succ j ih =>
   intro hj
   obtain ⟨i1, i2⟩ := ih (by omega)
   rw [Int.natCast_succ, Zbk]
   by_cases c1 : Uc cl j = false
   ·
    rw [if_pos c1, ← h.ex j (by omega)]
    have hjS : j ≠ S := fun e => hno (by rw [← e]; exact (inf j (by omega)).1 c1)
    have := nn j (by omega) hjS
    refine ⟨by omega, fun hlt => ?_⟩
    by_cases e : u = j
    · subst e; omega
    · have := i2 (by omega); omega
   ·
    rw [if_neg c1]
    refine ⟨by omega, fun hlt => ?_⟩
    by_cases e : u = j
    · subst e; exact absurd ((inf u hu).2 .refl) c1
    · have := i2 (by omega); omega
 have := (hpc m (Nat.le_refl _)).2 hu
 rw [Zae he _ (Nat.le_refl _)] at this
 have := hac _ (Nat.le_refl _)
 omega
theorem Zcb {R : List Int} {H : Nat → Int} {S u : Nat} (r : Row n m L c) (hu : u < m) (hval : ∀ j, j < L → 0 < R.getD j 0 → H (tl c j) ≤ H (hd c j) + 1) (hHS : H S = m) (hr : Reach (OpenJ c L R) u S) : H u < 2 * m := by
 refine Int.not_le.1 fun hge => ?_
 refine Z93 (m := m) (H := H) (a := m) fun k hk => ?_
 obtain ⟨w, h1, h2⟩ := Zah (H := H) (G := OpenJ c L R) (fun a b ⟨j, g1, g2, g3, g4⟩ => by rw [← g2, ← g3]; exact hval j g1 g4) hr (m + k) (by omega) (by omega)
 exact ⟨w, Zaw r hu h1, h2⟩
theorem PreOK.lift {p : Pre} {u : Nat} (h : PreOK n m L c p) (r : Row n m L c) (hu : u < m) (hS : Lv n c p u) : PreOK n m L c (Z0p c p m u) ∧ p.H.getD u 0 ≤ Jy c p m u := by
 obtain ⟨⟨S, hnS, -, hSm⟩, ⟨T, hnT, -, hTm⟩, -, -⟩ := r.ends
 have lh := h.hs.1
 obtain ⟨⟨hA1, hA2, hA3⟩, hB⟩ := hS
 have huS : u ≠ S := by omega
 have huT : u ≠ T := by omega
 have hlow : p.H.getD u 0 ≤ Jy c p m u := by
  have h2 := h.hs.2.2.2 u hu
  rcases (lowV_at p r hu).2 with h1 | ⟨j, h1, h3, h4, h5⟩
  · omega
  ·
   have h6 := h.val j h1 h4
   rw [h3] at h6
   have h7 := (r.range h1 hu).2 h3
   have h8 := hB j h7.1 h7.2
   have : p.H.getD u 0 ≠ p.H.getD (hd c j) 0 + 1 := fun e => h8 ⟨h4, e⟩
   omega
 have hHu : ∀ v, (p.H.set u (Jy c p m u + 1)).getD v 0 = if v = u then Jy c p m u + 1 else p.H.getD v 0 := fun v => by
  rw [Vp]
  by_cases e : v = u
  · rw [if_pos ⟨e.symm, by omega⟩, if_pos e]
  · rw [if_neg fun h => e h.1.symm, if_neg e]
 have hval : ∀ j, j < L → 0 < p.Res.getD j 0 → (p.H.set u (Jy c p m u + 1)).getD (tl c j) 0 ≤ (p.H.set u (Jy c p m u + 1)).getD (hd c j) 0 + 1 := fun j hj h0 => by
  have ht := r.tlh hj
  rw [hHu, hHu]
  by_cases c1 : tl c j = u
  ·
   have := lowV_le r hu hj c1 h0
   rw [if_pos c1, if_neg fun e => ht.2.2.2 (c1.trans e.symm)]; omega
  ·
   rw [if_neg c1]
   have := h.val j hj h0
   by_cases c2 : hd c j = u
   · rw [if_pos c2]; rw [c2] at this; omega
   · rw [if_neg c2]; exact this
 have hreach := Zdg r h.ok hnS (fun v hv hvS => h.nn v hv (by omega)) hu hA3
 have hbound := Zcb (H := fun v => (p.H.set u (Jy c p m u + 1)).getD v 0) r hu hval (by simp only [hHu]; rw [if_neg fun e => huS e.symm]; exact h.hs.2.1 S hnS) hreach
 simp only [hHu, if_true] at hbound
 refine ⟨⟨h.ok, h.nn, ⟨by simp [Z0p, lh], fun s hs => ?_, fun t ht => ?_, fun v hv => ?_⟩, hval⟩, hlow⟩
 · simp only [Z0p]; rw [hHu, if_neg (by omega)]; exact h.hs.2.1 s hs
 · simp only [Z0p]; rw [hHu, if_neg (by omega)]; exact h.hs.2.2.1 t ht
 ·
  have h1 := h.hs.2.2.2 v hv
  have h2 := h.hs.2.2.2 u hu
  simp only [Z0p]; rw [hHu]
  by_cases e : v = u
  · rw [if_pos e]; omega
  · rw [if_neg e]; exact h1
end row
end Go.Acq
namespace Go.Acq
open Go
theorem Zbg {α : Type} {z v : α} {k i : Int} : ∀ mp : List (Int × α), Gp z i (Wq k v mp) = if i = k then v else Gp z i mp
 | [] => by simp only [Wq, Gp]
 | x :: mp => by
  simp only [Wq]
  by_cases h : k = x.1
  ·
   rw [if_pos h]; simp only [Gp]
   by_cases e : i = k
   · rw [if_pos e, if_pos e]
   · rw [if_neg e, if_neg e, if_neg (by omega)]
  ·
   rw [if_neg h]; simp only [Gp]
   by_cases e : i = x.1
   · rw [if_pos e, if_pos e, if_neg (by omega)]
   · rw [if_neg e, if_neg e, Zbg mp]
theorem Z7q {α : Type} {v : α} {k : Int} : ∀ {mp : List (Int × α)} {x : Int × α}, x ∈ Wq k v mp → x.1 = k ∨ ∃ y, y ∈ mp ∧ y.1 = x.1
 | [], x, h => by simp only [Wq, List.mem_singleton] at h; left; rw [h]
 | y :: mp, x, h => by
  simp only [Wq] at h
  by_cases e : k = y.1
  ·
   rw [if_pos e] at h
   rcases List.mem_cons.1 h with h | h
   · left; rw [h]
   · exact .inr ⟨x, List.mem_cons_of_mem _ h, rfl⟩
  ·
   rw [if_neg e] at h
   rcases List.mem_cons.1 h with h | h
   · exact .inr ⟨y, List.mem_cons_self, by rw [h]⟩
   ·
    rcases Z7q h with h | ⟨z, h1, h2⟩
    · exact .inl h
    · exact .inr ⟨z, List.mem_cons_of_mem _ h1, h2⟩
def Apart {α : Type} : List (Int × α) → Prop
  | [] => True
  | x :: mp => (∀ y, y ∈ mp → y.1 ≠ x.1) ∧ Apart mp
theorem Apart.put {α : Type} {v : α} {k : Int} : ∀ {mp : List (Int × α)}, Apart mp → Apart (Wq k v mp)
 | [], _ => ⟨fun y h => (by cases h), trivial⟩
 | x :: mp, h => by
  simp only [Wq]
  by_cases e : k = x.1
  · rw [if_pos e]; exact ⟨fun y hy => by rw [e]; exact h.1 y hy, h.2⟩
  ·
   rw [if_neg e]
   refine ⟨fun y hy => ?_, Apart.put h.2⟩
   rcases Z7q hy with h1 | ⟨z, h1, h2⟩
   · rw [h1]; exact e
   · rw [← h2]; exact h.1 z h1
theorem Apart.at {α : Type} {z : α} (d : Int × α) : ∀ {mp : List (Int × α)} {j : Nat}, Apart mp → j < mp.length → Gp z (mp.getD j d).1 mp = (mp.getD j d).2
 | [], j, _, h => by simp at h
 | x :: mp, 0, _, _ => by simp [Gp]
 | x :: mp, j + 1, h, hj => by
  have hj' : j < mp.length := by simpa using hj
  have hm := h.1 _ (Rb hj' d)
  show Gp z (mp.getD j d).1 (x :: mp) = (mp.getD j d).2
  simp only [Gp]
  rw [if_neg hm]; exact Apart.at d h.2 hj'
theorem Apart.inj {α : Type} (d : Int × α) : ∀ {mp : List (Int × α)} {i j : Nat}, Apart mp → i < mp.length → j < mp.length → (mp.getD i d).1 = (mp.getD j d).1 → i = j
 | [], i, _, _, h, _, _ => by simp at h
 | x :: mp, 0, 0, _, _, _, _ => rfl
 | x :: mp, 0, j + 1, h, _, hj, e => absurd e.symm (h.1 _ (Rb (by simpa using hj) d))
 | x :: mp, i + 1, 0, h, hi, _, e => absurd e (h.1 _ (Rb (by simpa using hi) d))
 | x :: mp, i + 1, j + 1, h, hi, hj, e => congrArg (· + 1) (Apart.inj d h.2 (by simpa using hi) (by simpa using hj) e)
def Uv (n : Net) (h : Hop) : Int := if h.Back = true then (n.Arcs.getD h.Arc.toNat default).to else (n.Arcs.getD h.Arc.toNat default).fr
def Gl (n : Net) (h : Hop) : Int := if h.Back = true then (n.Arcs.getD h.Arc.toNat default).fr else (n.Arcs.getD h.Arc.toNat default).to
def hok (n : Net) (h : Hop) : Prop := 0 ≤ h.Arc ∧ h.Arc < n.Arcs.length
def WayK (n : Net) (l : List Hop) (k : Nat) : Prop := (∀ i, i < k → hok n (l.getD i default)) ∧ ∀ i, i + 1 < k → Uv n (l.getD (i + 1) default) = Gl n (l.getD i default)
def Gb (l : List Hop) (i : Int) : Nat → Int
  | 0 => 0
  | k + 1 => Gb l i k + (if (l.getD k default).Arc = i then (if (l.getD k default).Back = true then -1 else 1) else 0)
structure MapIs (n : Net) (mp : List (Int × Int)) (l : List Hop) (k : Nat) : Prop where
  val : ∀ i, Gp 0 i mp = Gb l i k
  key : ∀ x, x ∈ mp → 0 ≤ x.1 ∧ x.1 < n.Arcs.length
  apart : Apart mp
theorem MapIs.put {n : Net} {mp : List (Int × Int)} {l : List Hop} {k : Nat} (h : MapIs n mp l k) (hk : hok n (l.getD k default)) {v : Int} (hv : v = Gb l (l.getD k default).Arc k + (if (l.getD k default).Back = true then -1 else 1)) : MapIs n (Wq (l.getD k default).Arc v mp) l (k + 1) := by
 refine ⟨fun i => ?_, fun x hx => ?_, h.apart.put⟩
 ·
  rw [Zbg]
  simp only [Gb]
  by_cases e : i = (l.getD k default).Arc
  · rw [if_pos e, if_pos e.symm, hv, e]
  · rw [if_neg e, if_neg (fun h => e h.symm), h.val, Int.add_zero]
 ·
  rcases Z7q hx with h1 | ⟨y, h1, h2⟩
  · rw [h1]; exact hk
  · rw [← h2]; exact h.key y h1
end Go.Acq
namespace Go.Acq
open Go
def fits (n : Net) (f : List Int) (i : Nat) (c d : Int) : Prop := 0 ≤ f.getD i 0 + d * c ∧ f.getD i 0 + d * c ≤ (n.Arcs.getD i default).cap
end Go.Acq
namespace Go.Acq
open Go
section row
variable {n : Net} {m L : Nat} {c : Csr}
def StepP (n : Net) (m L : Nat) (c : Csr) (was p : Pre) : Prop :=
  (∃ j, j < L ∧ Ux n was.Ex (tl c j) ∧ Un c was (tl c j) j ∧ p = pushP c was j) ∨ (∃ u, u < m ∧ Lv n c was u ∧ p = Z0p c was m u)
theorem PreOK.hb {p : Pre} (h : PreOK n m L c p) (r : Row n m L c) : HtB m p.H := h.hs.hb r
theorem PreOK.step {was p : Pre} (h : PreOK n m L c was) (r : Row n m L c) (hs : StepP n m L c was p) : PreOK n m L c p := by
 rcases hs with ⟨j, h1, h2, h3, rfl⟩ | ⟨u, h1, h2, rfl⟩
 · exact h.push r h1 h2 h3
 · exact (h.lift r h1 h2).1
def arcsOf (n : Net) (L : Nat) (c : Csr) (p : Pre) : List Int := Kh (fun j => decide (Ux n p.Ex (tl c j) ∧ Un c p (tl c j) j)) L
def vertsOf (n : Net) (m : Nat) (c : Csr) (p : Pre) : List Int := Kh (fun u => decide (Lv n c p u)) m
theorem PreOK.may {p : Pre} (h : PreOK n m L c p) (r : Row n m L c) : Z7c c p = some (arcsOf n L c p, vertsOf n m c p) := s_May r h.ok.lr h.ok.lx (h.hb r)
theorem row_of {m : Nat} (hc : CsrIs n m c) (hm : n.N = m) (hk : Jd n.N n.S n.T n.Arcs = 0) : Row n m (Yl n.Arcs m) c := ⟨hc, hk, hm, rfl⟩
end row
end Go.Acq
namespace Go.Acq
open Go
section row
variable {n : Net} {m L : Nat} {c : Csr}
theorem open_j {R : List Int} (r : Row n m L c) (hR : ∀ j, j < L → 0 ≤ R.getD j 0 ∧ R.getD j 0 + R.getD (rv c j) 0 = cp c j) {u v : Nat} (h : OpenA n (Ks n.Arcs R) u v) : OpenJ c L R u v := by
 obtain ⟨i, hi, hne, h⟩ := h
 rw [Z2x hi, if_neg hne] at h
 have ha : ∀ s, hd c (pos n.Arcs i s) = (Xe (n.Arcs.getD i default) (!s)).toNat := fun s => by unfold hd; rw [(r.is.ok.hat i hi hne s).1]
 have ht : ∀ s, tl c (pos n.Arcs i s) = (Xe (n.Arcs.getD i default) s).toNat := fun s => by unfold tl; rw [(r.cpPos hi hne s).2.1, ha, Bool.not_not]
 have e0 := r.he i hi false
 have e1 := r.he i hi true
 obtain ⟨c1, c2, c3⟩ := r.cpPos hi hne false
 obtain ⟨d1, d2, d3⟩ := r.cpPos hi hne true
 have hf := hR _ c3
 simp only [Bool.not_false, Bool.not_true] at c2 d2
 rw [c2, c1] at hf
 rcases h with ⟨a1, a2, a3⟩ | ⟨a1, a2, a3⟩
 ·
  refine ⟨pos n.Arcs i false, c3, ?_, ?_, by omega⟩
  · rw [ht]; simp only [Xe, Bool.false_eq_true, if_false]; omega
  · rw [ha]; simp only [Xe, Bool.not_false, if_true]; omega
 ·
  refine ⟨pos n.Arcs i true, d3, ?_, ?_, by omega⟩
  · rw [ht]; simp only [Xe, if_true]; omega
  · rw [ha]; simp only [Xe, Bool.not_true, Bool.false_eq_true, if_false]; omega
theorem PreOK.far {p : Pre} {S T : Nat} (h : PreOK n m L c p) (r : Row n m L c) (hS : n.S = S) (hT : n.T = T) : ¬Reach (OpenA n (Ks n.Arcs p.Res)) S T := fun hr => by
 obtain ⟨⟨S', hS', -, hSm⟩, ⟨T', hT', -, hTm⟩, -, -⟩ := r.ends
 have hr2 : Reach (OpenJ c L p.Res) S T := hr.mono fun u v ho => open_j r h.ok.res ho
 have hp := Zah (H := fun v => p.H.getD v 0) (G := OpenJ c L p.Res) (fun u v ⟨j, hj, h1, h2, h3⟩ => by have := h.val j hj h3; rw [h1, h2] at this; exact this) hr2
 have h1 := h.hs.2.1 S hS
 have h2 := h.hs.2.2.1 T hT
 simp only [h1, h2] at hp
 refine Z93 (m := m) (H := fun v => p.H.getD v 0) (a := 0) fun k hk => ?_
 obtain ⟨w, hw, he⟩ := hp k (by omega) (by omega)
 exact ⟨w, Zaw r (by omega) hw, by omega⟩
theorem PreOK.flow {p : Pre} (h : PreOK n m L c p) (r : Row n m L c) (ha : ∀ u, u < m → ¬Ux n p.Ex u) : AllP n (Ks n.Arcs p.Res) (fun x => x = 0) [n.S, n.T] := by
 refine ⟨h.ok.within r, fun v hv => ?_⟩
 have hm := r.hm
 by_cases hc : (v : Int) ∈ [n.S, n.T]
 · exact .inr hc
 ·
  left
  simp only [List.mem_cons, List.not_mem_nil, or_false, not_or] at hc
  have hvm : v < m := by omega
  have h1 := h.nn v hvm hc.1
  have h2 := h.ok.ex v hvm
  have h3 : ¬0 < p.Ex.getD v 0 := fun h0 => ha v hvm ⟨hc.1, hc.2, h0⟩
  omega
end row
end Go.Acq
namespace Go.Acq
open Go
end Go.Acq
namespace Go.Acq
open Go
theorem Z48 {α : Type} {xs : List α} {y d : α} {i : Nat} (h : i < xs.length) : (xs ++ [y]).getD i d = xs.getD i d := by
 rw [List.getD_eq_getElem?_getD, List.getElem?_append_left h, List.getD_eq_getElem?_getD]
theorem Gu {α : Type} {xs : List α} {y d : α} {i : Nat} (h : i = xs.length) : (xs ++ [y]).getD i d = y := by
 subst h
 rw [List.getD_eq_getElem?_getD, List.getElem?_append_right (Nat.le_refl _)]; simp
structure PathP (n : Net) (v : Int) (l : List Hop) (w : Int) : Prop where
  way : WayK n l l.length
  start : 0 < l.length → Uv n (l.getD 0 default) = v
  fin : w = if l.length = 0 then v else Gl n (l.getD (l.length - 1) default)
theorem PathP.nil (n : Net) (v : Int) : PathP n v [] v := ⟨⟨fun i h => by simp at h, fun i h => by simp at h⟩, fun h => by simp at h, rfl⟩
theorem PathP.app {n : Net} {v w : Int} {l : List Hop} (h : PathP n v l w) {p : Hop} (hp : hok n p) (hw : Uv n p = w) : PathP n v (l ++ [p]) (Gl n p) := by
 refine ⟨⟨fun i hi => ?_, fun i hi => ?_⟩, fun _ => ?_, ?_⟩
 ·
  rw [List.length_append, List.length_singleton] at hi
  rcases Nat.lt_or_ge i l.length with h1 | h1
  · rw [Z48 h1]; exact h.way.1 i h1
  · rw [Gu (by omega)]; exact hp
 ·
  rw [List.length_append, List.length_singleton] at hi
  rcases Nat.lt_or_ge (i + 1) l.length with h1 | h1
  · rw [Z48 h1, Z48 (by omega)]; exact h.way.2 i h1
  · rw [Gu (by omega), Z48 (by omega), hw, h.fin, if_neg (by omega), show l.length - 1 = i by omega]
 ·
  rcases Nat.lt_or_ge 0 l.length with h1 | h1
  · rw [Z48 h1]; exact h.start h1
  · rw [Gu (by omega), hw, h.fin, if_pos (by omega)]
 · rw [List.length_append, List.length_singleton, if_neg (by omega), Nat.add_sub_cancel, Gu rfl]
def one (a b : Int) : Int := if a = b then 1 else 0
def Z0y (h : Hop) : Hop := ⟨h.Arc, !h.Back⟩
theorem hfr_flip (n : Net) (h : Hop) : Uv n (Z0y h) = Gl n h := by
 unfold Uv Gl Z0y
 cases hB : h.Back <;> simp
theorem hto_flip (n : Net) (h : Hop) : Gl n (Z0y h) = Uv n h := by
 unfold Uv Gl Z0y
 cases hB : h.Back <;> simp
def BackIs (l b : List Hop) : Prop := b.length = l.length ∧ ∀ q, q < l.length → b.getD q default = Z0y (l.getD (l.length - 1 - q) default)
theorem BackIs.way {n : Net} {l b : List Hop} (h : BackIs l b) (hw : WayK n l l.length) : WayK n b b.length := by
 rw [h.1]
 refine ⟨fun i hi => ?_, fun i hi => ?_⟩
 · rw [h.2 i hi]; exact hw.1 _ (by omega)
 ·
  rw [h.2 i (by omega), h.2 (i + 1) hi, hfr_flip, hto_flip]
  have := hw.2 (l.length - 1 - (i + 1)) (by omega)
  rw [show l.length - 1 - (i + 1) + 1 = l.length - 1 - i by omega] at this
  exact this.symm
theorem BackIs.cnt {l b : List Hop} (h : BackIs l b) (i : Int) : Gb b i b.length = -Gb l i l.length := by
 have key : ∀ q, q ≤ l.length → Gb b i q = Gb l i (l.length - q) - Gb l i l.length := by
  intro q
  induction q with
  | zero => intro _; simp only [Gb, Nat.sub_zero]; omega
  | succ q ih =>
   intro hq
   have e : l.length - q = (l.length - 1 - q) + 1 := by omega
   have ih := ih (by omega)
   rw [e] at ih
   simp only [Gb] at ih ⊢
   rw [ih, h.2 q (by omega), show l.length - (q + 1) = l.length - 1 - q by omega]
   simp only [Z0y]
   by_cases c : (l.getD (l.length - 1 - q) default).Arc = i
   ·
    by_cases hB : (l.getD (l.length - 1 - q) default).Back = true
    · simp only [c, hB, if_true, Bool.not_true, Bool.false_eq_true, if_false]; omega
    · simp only [c, if_true, Bool.eq_false_iff.2 hB, Bool.not_false, Bool.false_eq_true, if_false]; omega
   · simp only [c, if_false]; omega
 rw [h.1, key _ (Nat.le_refl _), Nat.sub_self]
 simp only [Gb]; omega
end Go.Acq
namespace Go.Acq
open Go
theorem Z5e {n : Net} {v : Int} : Ly n v = some (Ku n.N v) := by
 unfold Ly Ku
 refine Ug ?_
 refine Ok.ite.2 ⟨fun h => Ok.some.2 ?_, fun h => Ok.some.2 ?_⟩
 · rw [Bool.eq_iff_iff, decide_eq_true_iff, decide_eq_true_iff]; omega
 · exact (decide_eq_false (by omega)).symm
theorem s_rSum {n : Net} (h : Jd n.N n.S n.T n.Arcs = 0) : Ok (Z2o n) (fun t => t.2 = true) := by
 have hz := No h
 have ht := Z6l h
 have hc := Z6f h
 unfold Z2o
 refine Ok.bind.2 (Vm (fun s => ∃ k : Nat, s.2 = k ∧ k ≤ n.Arcs.length ∧ s.1 = Nr n.Arcs k) (fun s => (n.Arcs.length - s.2).toNat) ⟨0, rfl, by omega, rfl⟩ (by unfold Yh; simp only; omega) ?_)
 rintro ⟨s, x⟩ ⟨k, h1, h2, h3⟩ P next exit
 simp only at h1 h3 next ⊢
 subst h1; subst h3
 unfold Z3r
 simp only [Int.toNat_natCast]
 refine Ok.ite.2 ⟨fun hx => ?_, fun hx => Ok.some.2 (exit _ (by unfold Z4g; exact Ok.some.2 rfl))⟩
 have c1 := hc k (by omega)
 have t1 := ht k (by omega)
 have t2 := ht (k + 1) (by omega)
 simp only [Nr] at t2
 refine Ok.gd.2 ⟨(by omega), Ok.ite.2 ⟨fun h => by omega, fun _ => Ok.gd.2 ⟨(by omega), ?_⟩⟩⟩
 unfold Z23
 rw [if_neg (by simp only [decide_eq_true_eq]; omega)]
 simp only [Int.toNat_natCast]
 exact Ok.gd.2 ⟨(by omega), Ok.gd.2 ⟨(by omega), Ok.some.2 (next _ ⟨k + 1, by simp, by omega, by simp only [Nr]⟩ (by simp only; omega))⟩⟩
theorem s_rCheck {n : Net} (h : Jd n.N n.S n.T n.Arcs = 0) : Z2w n = some 0 := by
 have hz := No h
 have hc := Z6f h
 obtain ⟨m, hm, he⟩ := cut_ends h
 refine Ug ?_
 unfold Z2w
 rw [if_neg (by omega), if_neg (by omega), if_neg (by omega), Z5e, Z5e, hz.2.2.1.1, hz.2.2.1.2.1]
 simp only [Option.bind_some]
 rw [if_neg (by simp), if_neg (by simp), if_neg hz.2.2.1.2.2]
 refine Ok.bind.2 (Vm (fun s => ∃ k : Nat, s.2 = k ∧ k ≤ n.Arcs.length ∧ s.1 = false) (fun s => (n.Arcs.length - s.2).toNat) ⟨0, rfl, by omega, rfl⟩ (by unfold Yh; simp only; omega) ?_)
 rintro ⟨s, x⟩ ⟨k, h1, h2, h3⟩ P next exit
 simp only at h1 h3 next ⊢
 subst h1; subst h3
 unfold Z36
 simp only [Int.toNat_natCast]
 refine Ok.ite.2 ⟨fun hx => ?_, fun hx => Ok.some.2 (exit _ ?_)⟩
 ·
  have e0 := he k (by omega) false
  have e1 := he k (by omega) true
  simp only [Xe, Bool.false_eq_true, if_false, if_true] at e0 e1
  have c1 := hc k (by omega)
  have v0 : Ku n.N (n.Arcs.getD k default).fr = true := decide_eq_true (by omega)
  have v1 : Ku n.N (n.Arcs.getD k default).to = true := decide_eq_true (by omega)
  refine Ok.gd.2 ⟨(by omega), Ok.bind.2 ?_⟩
  rw [Z5e, v0]
  refine Ok.some.2 ?_
  rw [if_neg (by simp), Z5e, v1]
  refine Ok.bind.2 (Ok.some.2 ?_)
  rw [if_neg (by simp), if_neg (by simp)]
  exact Ok.gd.2 ⟨(by omega), Ok.some.2 (next _ ⟨k + 1, by simp, by omega, decide_eq_false (by omega)⟩ (by simp only; omega))⟩
 ·
  simp only
  unfold Z4h
  rw [if_neg (by simp)]
  refine Ok.bind.2 (Ok.mono (s_rSum h) ?_)
  rintro ⟨a, b⟩ hb
  simp only at hb
  subst hb
  simp only
  rw [if_neg (by simp)]
  exact Ok.some.2 rfl
structure RM (al : List Arc) (d : Nat) (hs cs aa : List Int) (bs : List Bool) : Prop where
  lh : hs.length = d
  lc : cs.length = d
  la : aa.length = d
  lb : bs.length = d
  at' : ∀ i s, i < al.length → (al.getD i default).fr ≠ (al.getD i default).to → pos al i s < d → hs.getD (pos al i s) 0 = Xe (al.getD i default) (!s) ∧ cs.getD (pos al i s) 0 = (if s then 0 else (al.getD i default).cap) ∧ aa.getD (pos al i s) 0 = i ∧ bs.getD (pos al i s) false = s
theorem RM.put {al : List Arc} {m d k : Nat} {hs cs aa : List Int} {bs : List Bool} {s : Bool} (h : RM al d hs cs aa bs) (he : Kz m al) (hk : k < al.length) (hne : (al.getD k default).fr ≠ (al.getD k default).to) (hp : pos al k s = d) :
    RM al (d + 1) (hs ++ [Xe (al.getD k default) (!s)]) (cs ++ [if s then 0 else (al.getD k default).cap]) (aa ++ [(k : Int)]) (bs ++ [s]) := by
  obtain ⟨lh, lc, la, lb, ha⟩ := h
  refine ⟨by simp [lh], by simp [lc], by simp [la], by simp [lb], fun i t hi hni hlt => ?_⟩
  by_cases e : pos al i t < d
  · rw [Ny (by omega), Ny (by omega), Ny (by omega), Ny (by omega)]
    exact ha i t hi hni e
  · have e2 : pos al i t = d := by omega
    obtain ⟨rfl, rfl⟩ := Ky he hi hk hni hne (e2.trans hp.symm)
    rw [e2, Gu lh.symm, Gu lc.symm, Gu la.symm, Gu lb.symm]
    exact ⟨rfl, rfl, rfl, rfl⟩
theorem s_rMake {n : Net} {m : Nat} (hm : n.N = m) (hk : Jd n.N n.S n.T n.Arcs = 0) : Ok (Z3u n) (fun t => CsrIs n m t.1 ∧ t.2 = 0) := by
 have hz := No hk
 have he : Kz m n.Arcs := Z82 (by rw [← hm]; exact hz.2.2.2.1)
 have hmb : m ≤ 4096 := by omega
 have hlb : n.Arcs.length ≤ 16384 := by omega
 have hbs : ∀ v, v ≤ m → Yl n.Arcs v ≤ 67108864 := fun v hv => Z7y (by omega) hlb
 unfold Z3u
 rw [s_rCheck hk]
 simp only [Option.bind_some]
 rw [if_neg (by simp)]
 refine Ok.bind.2 (Vm (fun s => ∃ v : Nat, s.2.2.2.2.2 = v ∧ v ≤ m ∧ s.1.length = v ∧ (∀ u, u < v → s.1.getD u 0 = Yl n.Arcs u) ∧ RM n.Arcs (Yl n.Arcs v) s.2.1 s.2.2.1 s.2.2.2.1 s.2.2.2.2.1) (fun s => (m - s.2.2.2.2.2).toNat)
  ⟨0, rfl, by omega, rfl, fun u hu => by omega, ⟨rfl, rfl, rfl, rfl, fun i s _ _ h => by simp [Yl] at h⟩⟩ (by unfold Yh; simp only; omega) ?_)
 rintro ⟨F, H, C, A, B, x⟩ ⟨v, h1, h2, h3, h4, h5⟩ P next exit
 simp only at h1 h3 h4 h5 next ⊢
 subst h1
 unfold Z44
 rw [hm]
 have lh := h5.lh
 refine Ok.ite.2 ⟨fun hx => ?_, fun hx => Ok.some.2 (exit _ ?_)⟩
 ·
  have hv : v < m := by omega
  have hb1 := hbs (v + 1) (by omega)
  simp only [Yl] at hb1
  refine Ok.gd.2 ⟨by simp only [List.length_append, List.length_singleton]; constructor <;> omega, Ok.bind.2 ?_⟩
  refine Vm (fun s => ∃ k : Nat, s.2.2.2.2 = k ∧ k ≤ n.Arcs.length ∧ RM n.Arcs (Yl n.Arcs v + cnt n.Arcs v k) s.1 s.2.1 s.2.2.1 s.2.2.2.1) (fun s => (n.Arcs.length - s.2.2.2.2).toNat) ⟨0, rfl, by omega, by simpa [cnt] using h5⟩ (by unfold Yh; simp only; omega) ?_
  rintro ⟨H', C', A', B', y⟩ ⟨k, g1, g2, g3⟩ P' next' exit'
  simp only at g1 g3 next' ⊢
  subst g1
  unfold Z31
  simp only [Int.toNat_natCast]
  have gl := g3.lh
  have gc := g3.lc
  have ga := g3.la
  have gb := g3.lb
  refine Ok.ite.2 ⟨fun hy => Ok.gd.2 ⟨(by omega), ?_⟩, fun hy => Ok.some.2 (exit' _ ?_)⟩
  ·
   have hkl : k < n.Arcs.length := by omega
   have hcm := Z8u (al := n.Arcs) (v := v) (i := k + 1) (j := n.Arcs.length) (by omega)
   have hhit := Z83 (n.Arcs.getD k default) v
   have hcs : cnt n.Arcs v (k + 1) = cnt n.Arcs v k + Ui (n.Arcs.getD k default) v := rfl
   refine Ok.ite.2 ⟨fun e => Ok.gd.2 ⟨(by omega), Ok.some.2 (next' _ ⟨k + 1, by simp, by omega, ?_⟩ (by simp only; omega))⟩, fun hne => Ok.ite.2 ⟨fun e => ?_, fun e => ?_⟩⟩
   · rw [hcs, show Ui (n.Arcs.getD k default) v = 0 by unfold Ui; rw [if_pos e]]; exact g3
   ·
    have hh : Ui (n.Arcs.getD k default) v = 1 := by unfold Ui; rw [if_neg hne, if_pos (.inl e)]
    have hp : pos n.Arcs k false = Yl n.Arcs v + cnt n.Arcs v k := by unfold pos Xe; simp only [Bool.false_eq_true, if_false, e, Int.toNat_natCast]
    have hput := g3.put he hkl hne hp
    refine Ok.gd.2 ⟨by simp only [List.length_append, List.length_singleton]; constructor <;> omega, Ok.gd.2 ⟨by simp only [List.length_append, List.length_singleton]; constructor <;> omega, Ok.gd.2 ⟨by simp only [List.length_append, List.length_singleton]; constructor <;> omega, Ok.gd.2 ⟨by simp only [List.length_append, List.length_singleton]; constructor <;> omega, ?_⟩⟩⟩⟩
    unfold Z16
    simp only [Int.toNat_natCast]
    rw [if_neg (fun e2 => hne (by omega))]
    refine Ok.gd.2 ⟨(by omega), Ok.some.2 (next' _ ⟨k + 1, by simp, by omega, ?_⟩ (by simp only; omega))⟩
    rw [hcs, hh]
    simpa [Xe, Nat.add_assoc] using hput
   ·
    unfold Z16
    simp only [Int.toNat_natCast]
    refine Ok.ite.2 ⟨fun e2 => ?_, fun e2 => Ok.gd.2 ⟨(by omega), Ok.some.2 (next' _ ⟨k + 1, by simp, by omega, ?_⟩ (by simp only; omega))⟩⟩
    ·
     have hh : Ui (n.Arcs.getD k default) v = 1 := by unfold Ui; rw [if_neg hne, if_pos (.inr e2)]
     have hp : pos n.Arcs k true = Yl n.Arcs v + cnt n.Arcs v k := by unfold pos Xe; simp only [if_true, e2, Int.toNat_natCast]
     have hput := g3.put he hkl hne hp
     refine Ok.gd.2 ⟨by simp only [List.length_append, List.length_singleton]; constructor <;> omega, Ok.gd.2 ⟨by simp only [List.length_append, List.length_singleton]; constructor <;> omega, Ok.gd.2 ⟨by simp only [List.length_append, List.length_singleton]; constructor <;> omega, Ok.gd.2 ⟨by simp only [List.length_append, List.length_singleton]; constructor <;> omega, Ok.gd.2 ⟨(by omega), Ok.some.2 (next' _ ⟨k + 1, by simp, by omega, ?_⟩ (by simp only; omega))⟩⟩⟩⟩⟩
     rw [hcs, hh]
     simpa [Xe, Nat.add_assoc] using hput
    · rw [hcs, show Ui (n.Arcs.getD k default) v = 0 by unfold Ui; rw [if_neg hne, if_neg (fun h => h.elim e e2)]]; exact g3
  ·
   obtain rfl : k = n.Arcs.length := by omega
   simp only
   unfold Z6a
   refine Ok.gd.2 ⟨(by omega), Ok.some.2 (next _ ⟨v + 1, by simp, by omega, by simp [h3], fun u hu => ?_, g3⟩ (by simp only; omega))⟩
   simp only
   by_cases e : u < v
   · rw [Ny (by omega)]; exact h4 u e
   ·
    obtain rfl : u = v := by omega
    rw [Gu h3.symm, lh]
 ·
  obtain rfl : v = m := by omega
  simp only
  unfold Z61
  have hb1 := hbs v (Nat.le_refl _)
  have la := h5.la
  refine Ok.gd.2 ⟨by simp only [List.length_append, List.length_singleton]; constructor <;> omega, Ok.bind.2 ?_⟩
  refine Vm (fun s => ∃ k : Nat, s.2 = k ∧ k ≤ Yl n.Arcs v ∧ s.1.length = k ∧ ∀ i s', i < n.Arcs.length → (n.Arcs.getD i default).fr ≠ (n.Arcs.getD i default).to → pos n.Arcs i s' < k → s.1.getD (pos n.Arcs i s') 0 = pos n.Arcs i (!s')) (fun s => (Yl n.Arcs v - s.2).toNat) ⟨0, rfl, by omega, rfl, fun i s _ _ h => by omega⟩ (by unfold Yh; simp only; omega) ?_
  rintro ⟨R, y⟩ ⟨k, g1, g2, g3, g4⟩ P' next' exit'
  simp only at g1 g3 g4 next' ⊢
  subst g1
  unfold Z3z
  refine Ok.ite.2 ⟨fun hy => Ok.bind.2 ?_, fun hy => Ok.some.2 (exit' _ ?_)⟩
  ·
   have hkL : k < Yl n.Arcs v := by omega
   obtain ⟨a, s, ha, hna, hpa, -⟩ := Z4z hkL
   have hq : pos n.Arcs a (!s) < Yl n.Arcs v := Nl ha hna he
   have hqk : pos n.Arcs a (!s) ≠ k := fun e => by have := (Ky he ha ha hna hna (e.trans hpa.symm)).2; cases s <;> cases this
   have hak : A.getD k 0 = (a : Int) := by rw [← hpa]; exact (h5.at' a s ha hna (by omega)).2.2.1
   refine Vm (fun z => ∃ j : Nat, z.2 = j ∧ j ≤ Yl n.Arcs v ∧ z.1 = R ++ (if pos n.Arcs a (!s) < j then [((pos n.Arcs a (!s) : Nat) : Int)] else [])) (fun z => (Yl n.Arcs v - z.2).toNat) ⟨0, rfl, by omega, by simp⟩ (by unfold Yh; simp only; omega) ?_
   rintro ⟨R', z⟩ ⟨j, f1, f2, f3⟩ P2 next2 exit2
   simp only at f1 f3 next2 ⊢
   subst f1; subst f3
   unfold Z3y
   simp only [Int.toNat_natCast]
   refine Ok.ite.2 ⟨fun hj => Ok.gd.2 ⟨(by omega), Ok.gd.2 ⟨(by omega), ?_⟩⟩, fun hj => Ok.some.2 (exit2 _ ?_)⟩
   ·
    have hjL : j < Yl n.Arcs v := by omega
    obtain ⟨b, t, hb, hnb, hpb, -⟩ := Z4z hjL
    have haj : A.getD j 0 = (b : Int) := by rw [← hpb]; exact (h5.at' b t hb hnb (by omega)).2.2.1
    simp only [hak, haj]
    have hlen : (R ++ (if pos n.Arcs a (!s) < j then [((pos n.Arcs a (!s) : Nat) : Int)] else [])).length ≤ 67108865 := by rw [List.length_append]; split <;> simp <;> omega
    have key : ((a : Int) = (b : Int) ∧ (k : Int) ≠ (j : Int)) ↔ pos n.Arcs a (!s) = j := by
     constructor
     ·
      rintro ⟨e1, e2⟩
      obtain rfl : a = b := by omega
      rw [← hpb]
      cases s <;> cases t <;> first | rfl | (exfalso; rw [hpa] at hpb; omega)
     ·
      intro e
      obtain ⟨e1, e2⟩ := Ky he ha hb hna hnb (e.trans hpb.symm)
      exact ⟨by omega, by omega⟩
    have j8 : ∀ q : Bool, (q = true ↔ pos n.Arcs a (!s) = j) → Ok (Z0j (R ++ (if pos n.Arcs a (!s) < j then [((pos n.Arcs a (!s) : Nat) : Int)] else [])) j q) P2 := fun q hq => by
     unfold Z0j
     refine Ok.ite.2 ⟨fun h => Ok.gd.2 ⟨by rw [List.length_append, List.length_singleton]; constructor <;> omega, Ok.gd.2 ⟨(by omega), Ok.some.2 (next2 _ ⟨j + 1, by simp, by omega, ?_⟩ (by simp only; omega))⟩⟩, fun h => Ok.gd.2 ⟨(by omega), Ok.some.2 (next2 _ ⟨j + 1, by simp, by omega, ?_⟩ (by simp only; omega))⟩⟩
     ·
      have e := hq.1 h
      simp only
      rw [if_neg (by omega), if_pos (by omega), List.append_nil, e]
     ·
      have e : pos n.Arcs a (!s) ≠ j := fun e => h (hq.2 e)
      simp only
      by_cases e2 : pos n.Arcs a (!s) < j
      · rw [if_pos e2, if_pos (by omega)]
      · rw [if_neg e2, if_neg (by omega)]
    refine Ok.ite.2 ⟨fun e => j8 _ ?_, fun e => j8 _ ⟨fun h => (by cases h), fun h => absurd (key.2 h).1 e⟩⟩
    rw [decide_eq_true_iff, ← key]
    exact ⟨fun h => ⟨e, h⟩, fun h => h.2⟩
   ·
    obtain rfl : j = Yl n.Arcs v := by omega
    unfold Z5g
    rw [if_pos hq]
    refine Ok.gd.2 ⟨(by omega), Ok.some.2 (next' _ ⟨k + 1, by simp, by omega, by simp [g3], fun i s' hi hni hlt => ?_⟩ (by simp only; omega))⟩
    simp only
    by_cases e : pos n.Arcs i s' < k
    · rw [Ny (by omega)]; exact g4 i s' hi hni e
    ·
     have e2 : pos n.Arcs i s' = k := by omega
     obtain ⟨rfl, rfl⟩ := Ky he hi ha hni hna (e2.trans hpa.symm)
     rw [e2, Gu g3.symm]
  ·
   obtain rfl : k = Yl n.Arcs v := by omega
   unfold Z53
   refine Ok.some.2 ⟨⟨hm, rfl, rfl, ⟨by simp [h3], lh, g3, h5.lc, la, h5.lb, fun u hu => ?_, fun i hi hni s => ?_⟩⟩, rfl⟩
   ·
    simp only
    by_cases e : u < v
    · rw [Ny (by omega)]; exact h4 u e
    ·
     obtain rfl : u = v := by omega
     rw [Gu h3.symm, lh]
   ·
    have hlt := Nl (s := s) hi hni he
    obtain ⟨z1, z2, z3, z4⟩ := h5.at' i s hi hni hlt
    exact ⟨z1, g4 i s hi hni hlt, z2, z3, z4⟩
end Go.Acq
namespace Go.Acq
open Go
section row
variable {n : Net} {m L : Nat} {c : Csr}
theorem s_rTail {j : Nat} (r : Row n m L c) (hj : j < L) : Z0c c (j : Nat) = some ((tl c j : Nat) : Int) := by
 have b := r.bd
 have hN := r.is.hN
 have lf := r.lens.1
 have ht := (r.tlh hj).1
 refine Ug ?_
 unfold Z0c
 refine Ok.bind.2 (Vm (fun v => ∃ k : Nat, v = k ∧ k ≤ tl c j) (fun v => (m - v).toNat) ⟨0, rfl, by omega⟩ (by unfold Yh; omega) ?_)
 rintro v ⟨k, rfl, hk⟩ P next exit
 have f1 := (r.first.1 k (by omega)).1
 have f2 := (r.first.1 (k + 1) (by omega)).1
 have e1 : ((k : Int) + 1).toNat = k + 1 := by omega
 have hr := r.range (u := k) hj (by omega)
 unfold Z3w
 rw [hN]
 simp only [Int.toNat_natCast, e1, f1, f2]
 refine Ok.ite.2 ⟨fun hx => Ok.gd.2 ⟨(by omega), ?_⟩, fun hx => by omega⟩
 have j2 : ∀ b : Bool, (b = true ↔ tl c j = k) → Ok (Z1b k b) P := fun b hb => by
  unfold Z1b
  refine Ok.ite.2 ⟨fun h => Ok.some.2 (exit _ (Ok.some.2 (by rw [hb.1 h]))), fun h => Ok.gd.2 ⟨(by omega), Ok.some.2 (next _ ⟨k + 1, by simp, ?_⟩ (by omega))⟩⟩
  have : tl c j ≠ k := fun e => h (hb.2 e)
  omega
 refine Ok.ite.2 ⟨fun h => Ok.gd.2 ⟨(by omega), Ok.gd.2 ⟨(by omega), j2 _ ?_⟩⟩, fun h => j2 _ ⟨fun h2 => (by cases h2), fun h2 => absurd (hr.2 h2).1 (by omega)⟩⟩
 rw [decide_eq_true_iff, ← hr]
 omega
end row
end Go.Acq
namespace Go.Acq
open Go
section row
variable {n : Net} {m L : Nat} {c : Csr}
def Kg (c : Csr) (R : List Int) (v : Nat) (j : Nat) : Int := if bk c j = true then (if tl c j = v then R.getD j 0 else 0) - (if hd c j = v then R.getD j 0 else 0) else 0
theorem capBk (r : Row n m L c) : Xv (fun j => if bk c j = true then cp c j else 0) L ≤ 4611686018427387904 := by
 have hw : FwithinP n (n.Arcs.map (·.cap)) := ⟨r.chk, by simp, fun i hi => by
  have := (r.caps i hi).1
  have e : (n.Arcs.map (·.cap)).getD i 0 = (n.Arcs.getD i default).cap := by simp [List.getD_eq_getElem?_getD, List.getElem?_map, List.getElem?_eq_getElem hi]
  rw [e]; omega⟩
 have ht := hw.tot n.Arcs.length (Nat.le_refl _)
 rw [Zb2] at ht
 rw [← r.hL, posSum r.he]
 refine Int.le_trans (Zbe fun i hi => ?_) ht.2
 have h1 := hw.2.2 i hi
 have e : (n.Arcs.map (·.cap)).getD i 0 = (n.Arcs.getD i default).cap := by simp [List.getD_eq_getElem?_getD, List.getElem?_map, List.getElem?_eq_getElem hi]
 by_cases h : (n.Arcs.getD i default).fr = (n.Arcs.getD i default).to
 · rw [if_pos h]; omega
 ·
  rw [if_neg h]
  have k1 : bk c (pos n.Arcs i false) = false := (r.is.ok.hat i hi h false).2.2.2.2
  have k2 : bk c (pos n.Arcs i true) = true := (r.is.ok.hat i hi h true).2.2.2.2
  rw [k1, k2, if_neg (by simp), if_pos rfl, (r.cpPos hi h true).1, e]; omega
theorem Z63 {R : List Int} (r : Row n m L c) (v : Nat) {k : Nat} (hk : k ≤ L) (h : ∀ j, j < k → 0 ≤ R.getD j 0 ∧ R.getD j 0 ≤ cp c j) : -4611686018427387904 ≤ Xv (Kg c R v) k ∧ Xv (Kg c R v) k ≤ 4611686018427387904 := by
 have h5 := Zbr (k := k) (g := Kg c R v) (h := fun j => if bk c j = true then cp c j else 0) fun j hj => by
  have := h j hj
  simp only [Kg]
  split
  · split <;> split <;> omega
  · omega
 have h6 := Z9w (g := fun j => if bk c j = true then cp c j else 0) hk fun j hj => by
  have := (r.cap hj).2.2.2.1
  split <;> omega
 have := capBk r
 omega
end row
end Go.Acq
namespace Go.Acq
open Go
theorem addW_q {x y : Int} : ∃ q : Int, Ja .i64 x y = x + y + q * 18446744073709551616 ∧ i64ok (Ja .i64 x y) := by
 unfold Ja
 rw [IntKind.wrap_i64]
 exact ⟨-((x + y + 9223372036854775808) / 18446744073709551616), by omega, by constructor <;> omega⟩
structure RxOK (n : Net) (m L : Nat) (c : Csr) (p : Pre) : Prop where
  lr : p.Res.length = L
  lx : p.Ex.length = m
  lh : p.H.length = m
  res : ∀ j, j < L → 0 ≤ p.Res.getD j 0 ∧ p.Res.getD j 0 + p.Res.getD (rv c j) 0 = cp c j
  ex : ∀ v, v < m → p.Ex.getD v 0 = Xv (Kg c p.Res v) L
  nn : ∀ v : Nat, v < m → (v : Int) ≠ n.S → 0 ≤ p.Ex.getD v 0
  hb : ∀ v, v < m → 0 ≤ p.H.getD v 0 ∧ p.H.getD v 0 ≤ 2 * m
  hs : ∀ s : Nat, (s : Int) = n.S → p.H.getD s 0 = m
  ht : ∀ t : Nat, (t : Int) = n.T → p.H.getD t 0 = 0
section row
variable {n : Net} {m L : Nat} {c : Csr}
theorem s_h1 {p : Pre} {h : Int} (r : Row n m L c) : Z2b h ⟨c, p⟩ = some (decide (h < 0 ∨ 2 * (m : Int) < h)) := by
 have b := r.bd
 obtain ⟨-, -, -, hN⟩ := r.ends
 unfold Z2b
 simp only [hN]
 by_cases h0 : h < 0
 · rw [if_pos h0]; simp [h0]
 · rw [if_neg h0, Ke (by constructor <;> omega)]; simp [h0]
theorem s_idx {p : Pre} (r : Row n m L c) (lh : p.H.length = m) : Ok (Z4a p.H ⟨c, p⟩) (fun i => 0 ≤ i ↔ ∃ v, v < m ∧ (p.H.getD v 0 < 0 ∨ 2 * (m : Int) < p.H.getD v 0)) := by
 have b := r.bd
 unfold Z4a
 refine Ok.bind.2 (Vm (fun x => ∃ k : Nat, x = k ∧ k ≤ m ∧ ∀ v, v < k → ¬(p.H.getD v 0 < 0 ∨ 2 * (m : Int) < p.H.getD v 0)) (fun x => (m - x).toNat) ⟨0, rfl, by omega, fun v hv => by omega⟩ (by unfold Yh; omega) ?_)
 rintro x ⟨k, rfl, hk, hI⟩ P next exit
 unfold Z37
 simp only [lh, Int.toNat_natCast, s_h1 r, Option.bind_some]
 refine Ok.ite.2 ⟨fun hx => Ok.gd.2 ⟨(by constructor <;> omega), Ok.ite.2 ⟨fun h => Ok.some.2 (exit _ (Ok.some.2 ⟨fun _ => ⟨k, by omega, of_decide_eq_true h⟩, fun _ => by simp⟩)), fun h => Ok.gd.2 ⟨(by constructor <;> omega), Ok.some.2 (next _ ⟨k + 1, by simp, by omega, fun v hv => ?_⟩ (by omega))⟩⟩⟩, fun hx => Ok.some.2 (exit _ ?_)⟩
 ·
  have h := of_decide_eq_false (Bool.eq_false_iff.2 h)
  rcases Nat.lt_or_ge v k with h4 | h4
  · exact hI v h4
  · rw [show v = k by omega]; exact h
 ·
  unfold Z6d
  refine Ok.some.2 ⟨fun h => by omega, ?_⟩
  rintro ⟨v, hv, h⟩
  exact absurd h (hI v (by omega))
def HtX (n : Net) (m : Nat) (p : Pre) : Prop := (∀ v, v < m → 0 ≤ p.H.getD v 0 ∧ p.H.getD v 0 ≤ 2 * m) ∧ (∀ s : Nat, (s : Int) = n.S → p.H.getD s 0 = m) ∧ ∀ t : Nat, (t : Int) = n.T → p.H.getD t 0 = 0
theorem Zem {p : Pre} (r : Row n m L c) (lh : p.H.length = m) : Ok (Z3q ⟨c, p⟩) (fun b => b = true ↔ HtX n m p) := by
 have b := r.bd
 obtain ⟨⟨S, hS, hcS, hSm⟩, ⟨T, hT, hcT, hTm⟩, hne, hN⟩ := r.ends
 unfold Z3q Z4e
 refine Ok.bind.2 (Ok.bind.2 (Ok.mono (s_idx (p := p) r lh) fun i hi => Ok.some.2 ?_))
 simp only [hcS, hcT, hN, lh, Int.toNat_natCast]
 have bad : (0 ≤ i) → ¬HtX n m p := fun h h2 => by
  obtain ⟨v, hv, h3⟩ := hi.1 h
  have := h2.1 v hv
  omega
 refine Ok.ite.2 ⟨fun h => ?_, fun h => Ok.some.2 ⟨fun h => (by cases h), fun h2 => absurd h2 (bad (by simpa using h))⟩⟩
 have h0 : ¬ 0 ≤ i := by simpa using h
 have hb : ∀ v, v < m → 0 ≤ p.H.getD v 0 ∧ p.H.getD v 0 ≤ 2 * m := fun v hv => by
  rcases Int.lt_or_le (p.H.getD v 0) 0 with h1 | h1
  · exact absurd (hi.2 ⟨v, hv, .inl h1⟩) h0
  ·
   rcases Int.lt_or_le (2 * (m : Int)) (p.H.getD v 0) with h2 | h2
   · exact absurd (hi.2 ⟨v, hv, .inr h2⟩) h0
   · exact ⟨h1, h2⟩
 refine Ok.gd.2 ⟨(by constructor <;> omega), Ok.ite.2 ⟨fun h1 => Ok.gd.2 ⟨(by constructor <;> omega), Ok.some.2 ?_⟩, fun h1 => Ok.some.2 ⟨fun h => (by cases h), fun h2 => absurd (h2.2.1 S hS.symm) h1⟩⟩⟩
 refine ⟨fun h2 => ⟨hb, fun s hs => ?_, fun t ht => ?_⟩, fun h2 => decide_eq_true (h2.2.2 T hT.symm)⟩
 · rw [show s = S by omega]; exact h1
 · rw [show t = T by omega]; exact of_decide_eq_true h2
def PrX (L : Nat) (c : Csr) (R : List Int) : Prop := ∀ j, j < L → 0 ≤ R.getD j 0 ∧ R.getD j 0 + R.getD (rv c j) 0 = cp c j
theorem PrX.le {R : List Int} (r : Row n m L c) (h : PrX L c R) {j : Nat} (hj : j < L) : 0 ≤ R.getD j 0 ∧ R.getD j 0 ≤ cp c j := by
 have h1 := h j hj
 have h2 := h _ (r.rev hj).2.1
 omega
theorem s_pairs {p : Pre} (r : Row n m L c) (hcap : ∀ j, j < L → cp c j ≤ 1125899906842624) (lr : p.Res.length = L) : Ok (Z1z ⟨c, p⟩) (fun b => b = true ↔ PrX L c p.Res) := by
 have b := r.bd
 obtain ⟨-, llh, llr, llc, -, llb⟩ := r.lens
 unfold Z1z
 refine Ok.bind.2 (Vm (fun x => ∃ k : Nat, x = k ∧ k ≤ L ∧ ∀ j, j < k → 0 ≤ p.Res.getD j 0 ∧ p.Res.getD j 0 + p.Res.getD (rv c j) 0 = cp c j) (fun x => (L - x).toNat) ⟨0, rfl, by omega, fun v hv => by omega⟩ (by unfold Yh; omega) ?_)
 rintro x ⟨k, rfl, hk, hI⟩ P next exit
 unfold Z34
 simp only [lr, llr, llc, Int.toNat_natCast]
 refine Ok.ite.2 ⟨fun hx => ?_, fun hx => Ok.some.2 (exit _ (Ok.some.2 ⟨fun _ j hj => hI j (by omega), fun _ => rfl⟩))⟩
 have hkL : k < L := by omega
 have g2 := r.rev hkL
 have gc := r.cap hkL
 have ce : c.Cap.getD k 0 + c.Cap.getD (rv c k) 0 = cp c k := gc.2.1
 have hc := hcap k hkL
 have i1 : inb (k : Int) L := (by constructor <;> omega)
 have i2 : inb ((rv c k : Nat) : Int) L := by constructor <;> omega
 have bad : (PrX L c p.Res → False) → P (.inr (.inl false)) := fun h => exit _ (Ok.some.2 ⟨fun h => (by cases h), fun h2 => (h h2).elim⟩)
 simp only [g2.1, Int.toNat_natCast, ce]
 refine Ok.gd.2 ⟨i1, Ok.gd.2 ⟨i1, Ok.gd.2 ⟨i1, Ok.gd.2 ⟨i2, Ok.gd.2 ⟨by constructor <;> omega, Ok.ite.2 ⟨fun h => Ok.some.2 (bad fun h2 => ?_), fun h => Ok.ite.2 ⟨fun h1 => Ok.some.2 (bad fun h2 => ?_), fun h1 => Ok.gd.2 ⟨i2, Ok.gd.2 ⟨by constructor <;> omega, Ok.ite.2 ⟨fun h2 => Ok.some.2 (bad fun h3 => ?_), fun h2 => Ok.gd.2 ⟨(by constructor <;> omega), Ok.some.2 (next _ ⟨k + 1, by simp, by omega, fun j hj => ?_⟩ (by omega))⟩⟩⟩⟩⟩⟩⟩⟩⟩⟩⟩
 · have := (h2.le r hkL).1; omega
 · have := (h2.le r hkL).2; omega
 · have := (h3 k hkL).2; omega
 ·
  rcases Nat.lt_or_ge j k with h4 | h4
  · exact hI j h4
  · rw [show j = k by omega]; exact ⟨by omega, by omega⟩
def ExX (n : Net) (m L : Nat) (c : Csr) (p : Pre) : Prop := ∀ v : Nat, v < m → p.Ex.getD v 0 = Xv (Kg c p.Res v) L ∧ ((v : Int) ≠ n.S → 0 ≤ p.Ex.getD v 0)
theorem s_excess {p : Pre} (r : Row n m L c) (hcap : ∀ j, j < L → cp c j ≤ 1125899906842624) (lr : p.Res.length = L) (lx : p.Ex.length = m) (hp : PrX L c p.Res) (h64 : ∀ v, v < m → i64ok (p.Ex.getD v 0)) : Ok (Z3p ⟨c, p⟩) (fun b => b = true ↔ ExX n m L c p) := by
 have b := r.bd
 obtain ⟨⟨S, hS, hcS, hSm⟩, ⟨T, hT, hcT, hTm⟩, hne, hN⟩ := r.ends
 obtain ⟨-, llh, llr, llc, -, llb⟩ := r.lens
 unfold Z3p
 refine Ok.bind.2 (Vn (Z6r (by simp only; omega)) (Ok.bind.2 ?_))
 refine Vm (fun s => ∃ k : Nat, s.2 = k ∧ k ≤ L ∧ s.1.length = m ∧ ∀ v, v < m → i64ok (s.1.getD v 0) ∧ ∃ q : Int, s.1.getD v 0 = p.Ex.getD v 0 - Xv (Kg c p.Res v) k + q * 18446744073709551616) (fun s => (L - s.2).toNat) ⟨0, rfl, by omega, lx, fun v hv => ⟨h64 v hv, 0, by simp [Xv]⟩⟩ (by unfold Yh; simp only; omega) ?_
 rintro ⟨xs, x⟩ ⟨k, h4, hk, hxl, hx⟩ P next exit
 simp only at h4 hxl hx next ⊢
 subst h4
 unfold Z2h
 simp only [lr, llb, llh, Int.toNat_natCast]
 refine Ok.ite.2 ⟨fun hxx => ?_, fun hxx => Ok.some.2 (exit _ ?_)⟩
 ·
  have hkL : k < L := by omega
  have g1 := r.head hkL
  have g3 := r.tlh hkL
  have i1 : inb (k : Int) L := (by constructor <;> omega)
  have i3 : inb ((tl c k : Nat) : Int) m := by constructor <;> omega
  have i4 : inb ((hd c k : Nat) : Int) m := by constructor <;> omega
  refine Ok.gd.2 ⟨i1, Ok.gd.2 ⟨i1, Ok.ite.2 ⟨fun hb => ?_, fun hb => ?_⟩⟩⟩
  ·
   have hbf : bk c k = false := by unfold bk; simpa using hb
   refine Ok.gd.2 ⟨(by constructor <;> omega), Ok.some.2 (next _ ⟨k + 1, by simp, by omega, hxl, fun v hv => ?_⟩ (by simp only; omega))⟩
   obtain ⟨h1, q, h2⟩ := hx v hv
   exact ⟨h1, q, by simp only [Xv, Kg, hbf, Bool.false_eq_true, if_false]; omega⟩
  ·
   have hbt : bk c k = true := by unfold bk; simpa using hb
   rw [r.tailM hkL]
   simp only [Option.bind_some, Int.toNat_natCast, g1.1, hxl, List.length_set]
   obtain ⟨q1, a1, o1⟩ := addW_q (x := xs.getD (tl c k) 0) (y := -p.Res.getD k 0)
   obtain ⟨y1, hy1⟩ : ∃ y, Ja .i64 (xs.getD (tl c k) 0) (-p.Res.getD k 0) = y := ⟨_, rfl⟩
   rw [hy1] at a1 o1 ⊢
   have e1 : (xs.set (tl c k) y1).getD (hd c k) 0 = xs.getD (hd c k) 0 := Jk g3.2.2.2
   rw [e1]
   obtain ⟨q2, a2, o2⟩ := addW_q (x := xs.getD (hd c k) 0) (y := p.Res.getD k 0)
   obtain ⟨y2, hy2⟩ : ∃ y, Ja .i64 (xs.getD (hd c k) 0) (p.Res.getD k 0) = y := ⟨_, rfl⟩
   rw [hy2] at a2 o2 ⊢
   refine Ok.gd.2 ⟨i3, Ok.gd.2 ⟨i3, Ok.gd.2 ⟨i1, Ok.gd.2 ⟨i4, Ok.gd.2 ⟨i4, Ok.gd.2 ⟨(by constructor <;> omega), Ok.some.2 (next _ ⟨k + 1, by simp, by omega, by simp [hxl], fun v hv => ?_⟩ (by simp only; omega))⟩⟩⟩⟩⟩⟩
   obtain ⟨h1, q, h2⟩ := hx v hv
   simp only [Xv, Kg, hbt, if_true]
   rw [Vp, Vp, List.length_set, hxl]
   by_cases c1 : hd c k = v
   ·
    subst c1
    rw [if_pos ⟨rfl, hv⟩, if_neg g3.2.2.2, if_pos rfl]
    exact ⟨o2, q + q2, by omega⟩
   ·
    rw [if_neg fun h => c1 h.1, if_neg c1]
    by_cases c2 : tl c k = v
    ·
     subst c2
     rw [if_pos ⟨rfl, hv⟩, if_pos rfl]
     exact ⟨o1, q + q1, by omega⟩
    ·
     rw [if_neg fun h => c2 h.1, if_neg c2]
     exact ⟨h1, q, by omega⟩
 ·
  obtain rfl : k = L := by omega
  have key : ∀ v, v < m → (xs.getD v 0 = 0 ↔ p.Ex.getD v 0 = Xv (Kg c p.Res v) k) := fun v hv => by
   obtain ⟨⟨h1, h1'⟩, q, h2⟩ := hx v hv
   obtain ⟨h5, h5'⟩ := h64 v hv
   have hb := Z63 (R := p.Res) r v (Nat.le_refl k) fun j hj => hp.le r hj
   constructor <;> intro h <;> omega
  unfold Z5k
  refine Ok.bind.2 (Vm (fun x => ∃ i : Nat, x = i ∧ i ≤ m ∧ ∀ v : Nat, v < i → xs.getD v 0 = 0 ∧ ((v : Int) ≠ n.S → 0 ≤ p.Ex.getD v 0)) (fun x => (m - x).toNat) ⟨0, rfl, by omega, fun v hv => by omega⟩ (by unfold Yh; omega) ?_)
  rintro x ⟨i, rfl, hi, hI⟩ P next exit
  unfold Z3x
  simp only [hxl, lx, hcS, Int.toNat_natCast]
  refine Ok.ite.2 ⟨fun hxx => ?_, fun hxx => Ok.some.2 (exit _ (Ok.some.2 ⟨fun _ v hv => ?_, fun _ => rfl⟩))⟩
  ·
   have him : i < m := by omega
   have bad : (ExX n m k c p → False) → P (.inr (.inl false)) := fun h => exit _ (Ok.some.2 ⟨fun h => (by cases h), fun h2 => (h h2).elim⟩)
   have nx : xs.getD i 0 = 0 → ((i : Int) ≠ n.S → 0 ≤ p.Ex.getD i 0) → Ok (gd (i64ok ((i : Int) + 1)) <| some (.inl ((i : Int) + 1))) P := fun h1 h2 => Ok.gd.2 ⟨(by constructor <;> omega), Ok.some.2 (next _ ⟨i + 1, by simp, by omega, fun v hv => by
    rcases Nat.lt_or_ge v i with h4 | h4
    · exact hI v h4
    · rw [show v = i by omega]; exact ⟨h1, h2⟩⟩ (by omega))⟩
   have i1 : inb (i : Int) m := (by constructor <;> omega)
   refine Ok.gd.2 ⟨i1, Ok.ite.2 ⟨fun h => Ok.some.2 (bad fun h2 => h ((key i him).2 (h2 i him).1)), fun h => ?_⟩⟩
   have h0 : xs.getD i 0 = 0 := by omega
   refine Ok.ite.2 ⟨fun h1 => Ok.gd.2 ⟨i1, Ok.ite.2 ⟨fun h2 => Ok.some.2 (bad fun h3 => ?_), fun h2 => nx h0 fun _ => by omega⟩⟩, fun h1 => nx h0 fun h3 => by omega⟩
   have := (h3 i him).2 (by omega)
   omega
  ·
   obtain ⟨h1, h2⟩ := hI v (by omega)
   exact ⟨(key v hv).1 h1, h2⟩
theorem RxOK.of {p : Pre} (lr : p.Res.length = L) (lx : p.Ex.length = m) (lh : p.H.length = m) (h1 : HtX n m p) (h2 : PrX L c p.Res) (h3 : ExX n m L c p) : RxOK n m L c p := ⟨lr, lx, lh, h2, fun v hv => (h3 v hv).1, fun v hv => (h3 v hv).2, h1.1, h1.2.1, h1.2.2⟩
theorem s_xRight {p : Pre} (r : Row n m L c) (hcap : ∀ j, j < L → cp c j ≤ 1125899906842624) (h64 : ∀ v, v < p.Ex.length → i64ok (p.Ex.getD v 0)) : Ok (Z21 c p) (fun b => b = true ↔ RxOK n m L c p) := by
 have b := r.bd
 obtain ⟨⟨S, hS, hcS, hSm⟩, ⟨T, hT, hcT, hTm⟩, hne, hN⟩ := r.ends
 obtain ⟨-, llh, llr, llc, -, llb⟩ := r.lens
 have no : ∀ {α : Prop}, (RxOK n m L c p → False) → (false = true ↔ RxOK n m L c p) := fun h => ⟨fun h => (by cases h), fun h2 => (h h2).elim⟩
 unfold Z21
 rw [if_pos (by omega), s_Len]
 refine Ok.bind.2 (Ok.some.2 ?_)
 unfold Z2k
 refine Ok.ite.2 ⟨fun h1 => ?_, fun h1 => ?_⟩
 ·
  have lr : p.Res.length = L := by have := of_decide_eq_true h1; omega
  unfold Z09
  refine Ok.ite.2 ⟨fun h2 => ?_, fun h2 => Ok.some.2 (no (α := True) fun h => h2 (decide_eq_true (by rw [h.lx, hN])))⟩
  have lx : p.Ex.length = m := by have := of_decide_eq_true h2; omega
  have j4 : ∀ t : Bool, p.H.length = m → (t = true ↔ PrX L c p.Res) → HtX n m p → Ok (Rr c p t) (fun b => b = true ↔ RxOK n m L c p) := fun t lh h3 hh => by
   unfold Rr
   refine Ok.ite.2 ⟨fun h4 => Ok.bind.2 (Ok.mono (s_excess r hcap lr lx (h3.1 h4) (fun v hv => h64 v (by omega))) fun b hb => ?_), fun h4 => ?_⟩
   ·
    unfold Rz
    exact Ok.some.2 ⟨fun h => .of lr lx lh hh (h3.1 h4) (hb.1 h), fun h => hb.2 fun v hv => ⟨h.ex v hv, h.nn v hv⟩⟩
   ·
    unfold Rz
    exact Ok.some.2 (no (α := True) fun h => h4 (h3.2 h.res))
  have j3 : ∀ t : Bool, (t = true ↔ (p.H.length = m ∧ HtX n m p)) → Ok (Z0l c p t) (fun b => b = true ↔ RxOK n m L c p) := fun t h3 => by
   unfold Z0l
   refine Ok.ite.2 ⟨fun h4 => Ok.bind.2 (Ok.mono (s_pairs r hcap lr) fun b hb => j4 b (h3.1 h4).1 hb (h3.1 h4).2), fun h4 => ?_⟩
   unfold Rr Rz
   rw [if_neg (by simp)]
   exact Ok.some.2 (no (α := True) fun h => h4 (h3.2 ⟨h.lh, h.hb, h.hs, h.ht⟩))
  refine Ok.ite.2 ⟨fun h3 => ?_, fun h3 => j3 _ ⟨fun h => (by cases h), fun h => absurd (by omega) h3⟩⟩
  have lh : p.H.length = m := by omega
  exact Ok.bind.2 (Ok.mono (Zem r lh) fun b hb => j3 b ⟨fun h => ⟨lh, hb.1 h⟩, fun h => hb.2 h.2⟩)
 ·
  unfold Z09
  rw [if_neg (by simp)]
  exact Ok.some.2 (no (α := True) fun h => h1 (decide_eq_true (by rw [h.lr, llh])))
end row
end Go.Acq
namespace Go.Acq
open Go
section row
variable {n : Net} {m L : Nat} {c : Csr}
theorem Zes {R : List Int} (r : Row n m L c) (hcap : ∀ j, j < L → cp c j ≤ 1125899906842624) (lr : R.length = L) (hp : ∀ j, j < L → 0 ≤ R.getD j 0 ∧ R.getD j 0 ≤ cp c j) : Ok (Z3k c R) (fun xs => xs.length = m ∧ ∀ v, v < m → xs.getD v 0 = Xv (Kg c R v) L) := by
 have b := r.bd
 obtain ⟨⟨S, hS, hcS, hSm⟩, ⟨T, hT, hcT, hTm⟩, hne, hN⟩ := r.ends
 obtain ⟨-, llh, llr, llc, -, llb⟩ := r.lens
 unfold Z3k
 simp only [hN, Int.toNat_natCast]
 refine Ok.gd.2 ⟨by constructor <;> omega, Ok.bind.2 ?_⟩
 refine Vm (fun s => ∃ k : Nat, s.2 = k ∧ k ≤ L ∧ s.1.length = m ∧ ∀ v, v < m → s.1.getD v 0 = Xv (Kg c R v) k) (fun s => (L - s.2).toNat) ⟨0, rfl, by omega, by simp, fun v hv => by rw [Z40]; rfl⟩ (by unfold Yh; simp only; omega) ?_
 rintro ⟨xs, x⟩ ⟨k, h4, hk, hxl, hx⟩ P next exit
 simp only at h4 hxl hx next ⊢
 subst h4
 unfold Z49
 simp only [lr, llb, llh, Int.toNat_natCast]
 refine Ok.ite.2 ⟨fun hxx => ?_, fun hxx => Ok.some.2 (exit _ ?_)⟩
 ·
  have hkL : k < L := by omega
  have g1 := r.head hkL
  have g3 := r.tlh hkL
  have i1 : inb (k : Int) L := (by constructor <;> omega)
  have i3 : inb ((tl c k : Nat) : Int) m := by constructor <;> omega
  have i4 : inb ((hd c k : Nat) : Int) m := by constructor <;> omega
  have hb1 := Z63 (R := R) r (hd c k) hk fun j hj => hp j (by omega)
  have hb2 := Z63 (R := R) r (tl c k) hk fun j hj => hp j (by omega)
  have hpk := hp k hkL
  have hck := hcap k hkL
  refine Ok.gd.2 ⟨i1, Ok.ite.2 ⟨fun hb => ?_, fun hb => ?_⟩⟩
  ·
   have hbt : bk c k = true := hb
   rw [← hx _ g1.2] at hb1
   rw [← hx _ g3.1] at hb2
   have o1 : i64ok (xs.getD (tl c k) 0 + R.getD k 0) := by constructor <;> omega
   have o2 : i64ok (xs.getD (hd c k) 0 - R.getD k 0) := by constructor <;> omega
   have e1 : (xs.set (tl c k) (xs.getD (tl c k) 0 + R.getD k 0)).getD (hd c k) 0 = xs.getD (hd c k) 0 := Jk g3.2.2.2
   rw [s_rTail r hkL]
   simp only [Option.bind_some, Int.toNat_natCast, g1.1, hxl, List.length_set, e1]
   refine Ok.gd.2 ⟨i3, Ok.gd.2 ⟨i1, Ok.gd.2 ⟨o1, Ok.gd.2 ⟨i3, Ok.gd.2 ⟨i1, Ok.gd.2 ⟨i1, Ok.gd.2 ⟨i4, Ok.gd.2 ⟨i1, Ok.gd.2 ⟨o2, Ok.gd.2 ⟨i4, Ok.gd.2 ⟨(by constructor <;> omega), Ok.some.2 (next _ ⟨k + 1, by simp, by omega, by simp [hxl], fun v hv => ?_⟩ (by simp only; omega))⟩⟩⟩⟩⟩⟩⟩⟩⟩⟩⟩
   simp only [Xv, Kg, hbt, if_true]
   rw [← hx v hv, Vp, Vp, List.length_set, hxl]
   by_cases c1 : hd c k = v
   ·
    subst c1
    rw [if_pos ⟨rfl, hv⟩, if_neg g3.2.2.2, if_pos rfl]; omega
   ·
    rw [if_neg fun h => c1 h.1, if_neg c1]
    by_cases c2 : tl c k = v
    ·
     subst c2
     rw [if_pos ⟨rfl, hv⟩, if_pos rfl]; omega
    · rw [if_neg fun h => c2 h.1, if_neg c2]; omega
  ·
   have hbf : bk c k = false := by unfold bk; simpa using hb
   refine Ok.gd.2 ⟨(by constructor <;> omega), Ok.some.2 (next _ ⟨k + 1, by simp, by omega, hxl, fun v hv => ?_⟩ (by simp only; omega))⟩
   simp only [Xv, Kg, hbf, Bool.false_eq_true, if_false]
   rw [hx v hv]; omega
 ·
  obtain rfl : k = L := by omega
  unfold Z5y
  exact Ok.some.2 ⟨hxl, hx⟩
theorem s_R9j2 {p : Pre} (r : Row n m L c) (hcap : ∀ j, j < L → cp c j ≤ 1125899906842624) (lr : p.Res.length = L) (lx : p.Ex.length = m) (lh : p.H.length = m) (hp : PrX L c p.Res) : Ok (Z3n c p) (fun b => b = true ↔ RxOK n m L c p) := by
 have b := r.bd
 obtain ⟨⟨S, hS, hcS, hSm⟩, ⟨T, hT, hcT, hTm⟩, hne, hN⟩ := r.ends
 unfold Z3n
 refine Ok.bind.2 (Ok.mono (Zes r hcap lr fun j hj => hp.le r hj) fun xs hxs => Ok.bind.2 ?_)
 obtain ⟨hxl, hx⟩ := hxs
 refine Vm (fun x => ∃ k : Nat, x = k ∧ k ≤ m ∧ ∀ v : Nat, v < k → p.Ex.getD v 0 = Xv (Kg c p.Res v) L ∧ ((v : Int) ≠ n.S → 0 ≤ p.Ex.getD v 0) ∧ 0 ≤ p.H.getD v 0 ∧ p.H.getD v 0 ≤ 2 * m) (fun x => (m - x).toNat) ⟨0, rfl, by omega, fun j hj => by omega⟩ (by unfold Yh; omega) ?_
 rintro x ⟨k, rfl, hk, hI⟩ P next exit
 unfold Z32
 simp only [hN, hcS, lx, hxl, Int.toNat_natCast]
 refine Ok.ite.2 ⟨fun hxx => ?_, fun hxx => Ok.some.2 (exit _ ?_)⟩
 ·
  have hkm : k < m := by omega
  have hxk := hx k hkm
  have i1 : inb (k : Int) m := (by constructor <;> omega)
  have bad : (RxOK n m L c p → False) → P (.inr (.inl false)) := fun h => exit _ (Ok.some.2 ⟨fun h => (by cases h), fun h2 => (h h2).elim⟩)
  have j6 : ∀ t : Bool, (t = true → ¬RxOK n m L c p) → (t = false → p.Ex.getD k 0 = Xv (Kg c p.Res k) L ∧ ((k : Int) ≠ n.S → 0 ≤ p.Ex.getD k 0) ∧ 0 ≤ p.H.getD k 0) → Ok (Z0x c p (k : Nat) t) P := fun t h1 h2 => by
   unfold Z0x
   simp only [hN, lh, Int.toNat_natCast]
   refine Ok.ite.2 ⟨fun h => Ok.some.2 (bad (h1 h)), fun h => Ok.gd.2 ⟨i1, Ok.gd.2 ⟨(by constructor <;> omega), Ok.ite.2 ⟨fun h3 => Ok.some.2 (bad fun h4 => ?_), fun h3 => Ok.gd.2 ⟨(by constructor <;> omega), Ok.some.2 (next _ ⟨k + 1, by simp, by omega, fun v hv => ?_⟩ (by omega))⟩⟩⟩⟩⟩
   · have := (h4.hb k hkm).2; omega
   ·
    have h4 := h2 (by simpa using h)
    rcases Nat.lt_or_ge v k with h5 | h5
    · exact hI v h5
    · rw [show v = k by omega]; exact ⟨h4.1, h4.2.1, h4.2.2, by omega⟩
  have j5 : ∀ t : Bool, (t = true → ¬RxOK n m L c p) → (t = false → p.Ex.getD k 0 = Xv (Kg c p.Res k) L ∧ ((k : Int) ≠ n.S → 0 ≤ p.Ex.getD k 0)) → Ok (Z11 c p (k : Nat) t) P := fun t h1 h2 => by
   unfold Z11
   simp only [lh, Int.toNat_natCast]
   refine Ok.ite.2 ⟨fun h => j6 _ (fun _ => h1 h) (fun h3 => (by cases h3)), fun h => Ok.gd.2 ⟨i1, j6 _ (fun h3 h4 => ?_) fun h3 => ?_⟩⟩
   ·
    have := of_decide_eq_true h3
    have := (h4.hb k hkm).1; omega
   ·
    have := of_decide_eq_false h3
    have h4 := h2 (by simpa using h)
    exact ⟨h4.1, h4.2, by omega⟩
  refine Ok.gd.2 ⟨i1, Ok.gd.2 ⟨i1, Ok.ite.2 ⟨fun h => j5 _ (fun _ h3 => h (by rw [h3.ex k hkm, hxk])) (fun h3 => (by cases h3)), fun h => Ok.ite.2 ⟨fun h1 => Ok.gd.2 ⟨i1, ?_⟩, fun h1 => ?_⟩⟩⟩⟩
  ·
   unfold Z1r
   refine j5 _ (fun h3 h4 => ?_) fun h3 => ?_
   ·
    have := of_decide_eq_true h3
    have := h4.nn k hkm (by omega)
    have := h4.ex k hkm
    omega
   ·
    have := of_decide_eq_false h3
    exact ⟨by omega, fun _ => by omega⟩
  ·
   unfold Z1r
   exact j5 _ (fun h3 => (by cases h3)) fun _ => ⟨by omega, fun h4 => by omega⟩
 ·
  obtain rfl : k = m := by omega
  unfold Z4w
  simp only [hN, hcS, hcT, lh, Int.toNat_natCast]
  refine Ok.gd.2 ⟨(by constructor <;> omega), Ok.ite.2 ⟨fun h1 => Ok.gd.2 ⟨(by constructor <;> omega), Ok.some.2 ⟨fun h2 => .of lr lx lh ⟨fun v hv => (hI v hv).2.2, fun s hs => ?_, fun t ht => ?_⟩ hp fun v hv => ⟨(hI v hv).1, (hI v hv).2.1⟩, fun h => decide_eq_true (h.ht T hT.symm)⟩⟩, fun h1 => Ok.some.2 ⟨fun h => (by cases h), fun h => absurd (h.hs S hS.symm) h1⟩⟩⟩
  · rw [show s = S by omega]; exact h1
  · rw [show t = T by omega]; exact of_decide_eq_true h2
theorem Z9s {p : Pre} (r : Row n m L c) (hcap : ∀ j, j < L → cp c j ≤ 1125899906842624) : Ok (Z0o c p) (fun b => b = true ↔ RxOK n m L c p) := by
 have b := r.bd
 obtain ⟨⟨S, hS, hcS, hSm⟩, ⟨T, hT, hcT, hTm⟩, hne, hN⟩ := r.ends
 obtain ⟨-, llh, llr, llc, -, llb⟩ := r.lens
 unfold Z0o
 have no : (RxOK n m L c p → False) → Ok (some false) (fun b => b = true ↔ RxOK n m L c p) := fun h => Ok.some.2 ⟨fun h => (by cases h), fun h2 => (h h2).elim⟩
 refine Ok.ite.2 ⟨fun h => no fun h2 => h (by rw [h2.lr, llh]), fun h1 => Ok.ite.2 ⟨fun h => no fun h2 => h (by rw [h2.lx, hN]), fun h2 => Ok.ite.2 ⟨fun h => no fun h2 => h (by rw [h2.lh, hN]), fun h3 => Ok.ite.2 ⟨fun h => by omega, fun h4 => Ok.bind.2 ?_⟩⟩⟩⟩
 have lr : p.Res.length = L := by omega
 have lx : p.Ex.length = m := by omega
 have lh : p.H.length = m := by omega
 refine Vm (fun x => ∃ k : Nat, x = k ∧ k ≤ L ∧ ∀ j, j < k → 0 ≤ p.Res.getD j 0 ∧ p.Res.getD j 0 + p.Res.getD (rv c j) 0 = cp c j) (fun x => (L - x).toNat) ⟨0, rfl, by omega, fun v hv => by omega⟩ (by unfold Yh; omega) ?_
 rintro x ⟨k, rfl, hk, hI⟩ P next exit
 unfold Z3c
 simp only [lr, llr, llc, Int.toNat_natCast]
 refine Ok.ite.2 ⟨fun hx => ?_, fun hx => Ok.some.2 (exit _ (s_R9j2 r hcap lr lx lh fun j hj => hI j (by omega)))⟩
 have hkL : k < L := by omega
 have g2 := r.rev hkL
 have gc := r.cap hkL
 have ce : c.Cap.getD k 0 + c.Cap.getD (rv c k) 0 = cp c k := gc.2.1
 have hc := hcap k hkL
 have i1 : inb (k : Int) L := (by constructor <;> omega)
 have i2 : inb ((rv c k : Nat) : Int) L := by constructor <;> omega
 have bad : (RxOK n m L c p → False) → P (.inr (.inl false)) := fun h => exit _ (Ok.some.2 ⟨fun h => (by cases h), fun h2 => (h h2).elim⟩)
 have hle : RxOK n m L c p → 0 ≤ p.Res.getD k 0 ∧ p.Res.getD k 0 ≤ cp c k := fun h => PrX.le r h.res hkL
 simp only [g2.1, Int.toNat_natCast, ce]
 refine Ok.gd.2 ⟨i1, Ok.gd.2 ⟨i1, Ok.gd.2 ⟨i2, Ok.gd.2 ⟨by constructor <;> omega, Ok.gd.2 ⟨i1, Ok.ite.2 ⟨fun h => Ok.some.2 (bad fun h2 => ?_), fun h => Ok.gd.2 ⟨i1, Ok.ite.2 ⟨fun h1 => Ok.some.2 (bad fun h2 => ?_), fun h1 => Ok.gd.2 ⟨i1, Ok.gd.2 ⟨i2, Ok.gd.2 ⟨i1, Ok.gd.2 ⟨by constructor <;> omega, Ok.ite.2 ⟨fun h2 => Ok.some.2 (bad fun h3 => ?_), fun h2 => Ok.gd.2 ⟨(by constructor <;> omega), Ok.some.2 (next _ ⟨k + 1, by simp, by omega, fun j hj => ?_⟩ (by omega))⟩⟩⟩⟩⟩⟩⟩⟩⟩⟩⟩⟩⟩⟩
 · have := hle h2; omega
 · have := hle h2; omega
 · have := h3.res k hkL; omega
 ·
  rcases Nat.lt_or_ge j k with h4 | h4
  · exact hI j h4
  · rw [show j = k by omega]; exact ⟨by omega, by omega⟩
end row
end Go.Acq
namespace Go.Acq
open Go
def LegP (n : Net) (c : Csr) (p : Pre) (e : Evt) : Prop :=
  (e.What = 1 ∨ e.What = 2) ∧ 0 ≤ e.U ∧ e.U < n.N ∧ e.U ≠ n.S ∧ e.U ≠ n.T ∧
    (e.What = 2 → p.H.getD e.U.toNat 0 < e.H ∧ e.H ≤ 2 * n.N) ∧
    (e.What = 1 → c.First.getD e.U.toNat 0 ≤ e.Arc ∧ e.Arc < c.First.getD (e.U + 1).toNat 0 ∧ 1 ≤ e.D ∧ e.D ≤ p.Ex.getD e.U.toNat 0 ∧ e.D ≤ p.Res.getD e.Arc.toNat 0 ∧ e.H = p.H.getD e.U.toNat 0 ∧ e.Low < e.H)
structure PLen (m L : Nat) (p : Pre) : Prop where
  r : p.Res.length = L
  x : p.Ex.length = m
  h : p.H.length = m
section row
variable {n : Net} {m L : Nat} {c : Csr}
theorem s_lpush {p : Pre} {e : Evt} (r : Row n m L c) (hl : PLen m L p) (h1 : e.What = 1) (hu : 0 ≤ e.U ∧ e.U < n.N ∧ e.U ≠ n.S ∧ e.U ≠ n.T) : Ok (Z1y ⟨c, p⟩ e) (fun a => a = 0 ↔ LegP n c p e) := by
 have b := r.bd
 obtain ⟨⟨S, hS, hcS, hSm⟩, ⟨T, hT, hcT, hTm⟩, hne, hN⟩ := r.ends
 have hnm := r.hm
 obtain ⟨lf, -, -, -, -, -⟩ := r.lens
 obtain ⟨u, eu⟩ : ∃ u : Nat, e.U = u := ⟨e.U.toNat, by omega⟩
 have f1 := r.first.1 u (by omega)
 have f2 := r.first.1 (u + 1) (by omega)
 have f3 := r.first.2.2.2 u (by omega)
 have no : ∀ {x : Int}, x ≠ 0 → ¬LegP n c p e → Ok (some x) (fun a => a = 0 ↔ LegP n c p e) := fun hx h => Ok.some.2 ⟨fun h2 => absurd h2 hx, fun h2 => absurd h2 h⟩
 have eu1 : (e.U + 1).toNat = u + 1 := by omega
 have eu0 : e.U.toNat = u := by omega
 have ll : LegP n c p e ↔ (fs c u : Int) ≤ e.Arc ∧ e.Arc < fs c (u + 1) ∧ 1 ≤ e.D ∧ e.D ≤ p.Ex.getD u 0 ∧ e.D ≤ p.Res.getD e.Arc.toNat 0 ∧ e.H = p.H.getD u 0 ∧ e.Low < e.H := by
  unfold LegP
  rw [eu0, eu1, f1.1, f2.1]
  constructor
  · intro h; exact h.2.2.2.2.2.2 h1
  · intro h; exact ⟨.inl h1, hu.1, hu.2.1, hu.2.2.1, hu.2.2.2, fun h2 => by omega, fun _ => h⟩
 unfold Z1y
 simp only [eu0, eu1, f1.1, f2.1, lf, hl.r, hl.x, hl.h]
 have j1 : ∀ t : Bool, (t = false → (fs c u : Int) ≤ e.Arc ∧ e.Arc < fs c (u + 1)) → (t = true → ¬LegP n c p e) → Ok (Z0m ⟨c, p⟩ e t) (fun a => a = 0 ↔ LegP n c p e) := fun t h2 h3 => by
  unfold Z0m
  simp only [eu0, hl.r, hl.x, hl.h]
  refine Ok.ite.2 ⟨fun h => no (by omega) (h3 h), fun h => Ok.ite.2 ⟨fun h4 => no (by omega) fun h5 => ?_, fun h4 => Ok.gd.2 ⟨(by constructor <;> omega), Ok.gd.2 ⟨?_, Ok.ite.2 ⟨fun h5 => no (by omega) fun h6 => ?_, fun h5 => Ok.gd.2 ⟨(by constructor <;> omega), Ok.ite.2 ⟨fun h6 => no (by omega) fun h7 => ?_, fun h6 => Ok.ite.2 ⟨fun h7 => no (by omega) fun h8 => ?_, fun h7 => Ok.some.2 ⟨fun _ => ?_, fun _ => rfl⟩⟩⟩⟩⟩⟩⟩⟩⟩
  · have := (ll.1 h5); omega
  · have := h2 (by simpa using h); constructor <;> omega
  · have := (ll.1 h6); omega
  · have := (ll.1 h7); omega
  · have := (ll.1 h8); omega
  ·
   have := h2 (by simpa using h)
   exact ll.2 ⟨this.1, this.2, by omega, by omega, by omega, by omega, by omega⟩
 refine Ok.gd.2 ⟨by constructor <;> omega, Ok.ite.2 ⟨fun h => j1 _ (fun h => (by cases h)) fun _ h3 => ?_, fun h => Ok.gd.2 ⟨by constructor <;> omega, Ok.gd.2 ⟨by constructor <;> omega, j1 _ (fun h3 => ?_) fun h3 h4 => ?_⟩⟩⟩⟩
 · have := (ll.1 h3); omega
 · have := of_decide_eq_false h3; omega
 · have := of_decide_eq_true h3; have := (ll.1 h4); omega
theorem s_llift {p : Pre} {e : Evt} (r : Row n m L c) (hl : PLen m L p) (h1 : e.What = 2) (hu : 0 ≤ e.U ∧ e.U < n.N ∧ e.U ≠ n.S ∧ e.U ≠ n.T) : Ok (Z24 ⟨c, p⟩ e) (fun a => a = 0 ↔ LegP n c p e) := by
 have b := r.bd
 obtain ⟨-, -, hne, hN⟩ := r.ends
 have hnm := r.hm
 have ll : LegP n c p e ↔ p.H.getD e.U.toNat 0 < e.H ∧ e.H ≤ 2 * n.N := by
  unfold LegP
  constructor
  · intro h; exact h.2.2.2.2.2.1 h1
  · intro h; exact ⟨.inr h1, hu.1, hu.2.1, hu.2.2.1, hu.2.2.2, fun _ => h, fun h2 => by omega⟩
 have no : ∀ {x : Int}, x ≠ 0 → ¬LegP n c p e → Ok (some x) (fun a => a = 0 ↔ LegP n c p e) := fun hx h => Ok.some.2 ⟨fun h2 => absurd h2 hx, fun h2 => absurd h2 h⟩
 unfold Z24
 simp only [hN, hl.h]
 refine Ok.gd.2 ⟨by constructor <;> omega, Ok.ite.2 ⟨fun h => no (by omega) fun h2 => ?_, fun h => Ok.gd.2 ⟨by constructor <;> omega, Ok.ite.2 ⟨fun h2 => no (by omega) fun h3 => ?_, fun h2 => Ok.some.2 ⟨fun _ => ll.2 ⟨by omega, by omega⟩, fun _ => rfl⟩⟩⟩⟩⟩
 · have := ll.1 h2; omega
 · have := ll.1 h3; omega
theorem s_Legal1 {p : Pre} {e : Evt} (r : Row n m L c) (hl : PLen m L p) : Ok (Z2s c p e) (fun a => a = 0 ↔ LegP n c p e) := by
 have b := r.bd
 obtain ⟨⟨S, hS, hcS, hSm⟩, ⟨T, hT, hcT, hTm⟩, hne, hN⟩ := r.ends
 have hnm := r.hm
 have no : ∀ {x : Int}, x ≠ 0 → ¬LegP n c p e → Ok (some x) (fun a => a = 0 ↔ LegP n c p e) := fun hx h => Ok.some.2 ⟨fun h2 => absurd h2 hx, fun h2 => absurd h2 h⟩
 unfold Z2s
 have j3 : ∀ t : Bool, e.What = 1 → (t = true → ¬LegP n c p e) → (t = false → 0 ≤ e.U ∧ e.U < n.N ∧ e.U ≠ n.S ∧ e.U ≠ n.T) → Ok (Z14 c p e t) (fun a => a = 0 ↔ LegP n c p e) := fun t h1 h2 h3 => by
  unfold Z14
  exact Ok.ite.2 ⟨fun h => no (by omega) (h2 h), fun h => Ok.bind.2 (Ok.mono (s_lpush r hl h1 (h3 (by simpa using h))) fun a ha => Ok.some.2 ha)⟩
 have j6 : ∀ t : Bool, e.What = 2 → (t = true → ¬LegP n c p e) → (t = false → 0 ≤ e.U ∧ e.U < n.N ∧ e.U ≠ n.S ∧ e.U ≠ n.T) → Ok (Z0s c p e t) (fun a => a = 0 ↔ LegP n c p e) := fun t h1 h2 h3 => by
  unfold Z0s
  exact Ok.ite.2 ⟨fun h => no (by omega) (h2 h), fun h => Ok.bind.2 (Ok.mono (s_llift r hl h1 (h3 (by simpa using h))) fun a ha => Ok.some.2 ha)⟩
 have nU : ∀ {α : Prop}, (α → LegP n c p e → False) → α → ¬LegP n c p e := fun h a => h a
 have j2 : ∀ t : Bool, e.What = 1 → (t = true → ¬LegP n c p e) → (t = false → 0 ≤ e.U ∧ e.U < n.N ∧ e.U ≠ n.S) → Ok (Z1w c p e t) (fun a => a = 0 ↔ LegP n c p e) := fun t h1 h2 h3 => by
  unfold Z1w
  rw [hcT]
  refine Ok.ite.2 ⟨fun h => j3 _ h1 (fun _ => h2 h) fun h => (by cases h), fun h => j3 _ h1 (fun h4 h5 => ?_) fun h4 => ?_⟩
  · have := of_decide_eq_true h4; have := h5.2.2.2.2.1; omega
  · have := of_decide_eq_false h4; have := h3 (by simpa using h); exact ⟨this.1, this.2.1, this.2.2, by omega⟩
 have j1 : ∀ t : Bool, e.What = 1 → (t = true → ¬LegP n c p e) → (t = false → 0 ≤ e.U ∧ e.U < n.N) → Ok (Z10 c p e t) (fun a => a = 0 ↔ LegP n c p e) := fun t h1 h2 h3 => by
  unfold Z10
  rw [hcS]
  refine Ok.ite.2 ⟨fun h => j2 _ h1 (fun _ => h2 h) fun h => (by cases h), fun h => j2 _ h1 (fun h4 h5 => ?_) fun h4 => ?_⟩
  · have := of_decide_eq_true h4; have := h5.2.2.2.1; omega
  · have := of_decide_eq_false h4; have := h3 (by simpa using h); exact ⟨this.1, this.2, by omega⟩
 have j5 : ∀ t : Bool, e.What = 2 → (t = true → ¬LegP n c p e) → (t = false → 0 ≤ e.U ∧ e.U < n.N ∧ e.U ≠ n.S) → Ok (Z1o c p e t) (fun a => a = 0 ↔ LegP n c p e) := fun t h1 h2 h3 => by
  unfold Z1o
  rw [hcT]
  refine Ok.ite.2 ⟨fun h => j6 _ h1 (fun _ => h2 h) fun h => (by cases h), fun h => j6 _ h1 (fun h4 h5 => ?_) fun h4 => ?_⟩
  · have := of_decide_eq_true h4; have := h5.2.2.2.2.1; omega
  · have := of_decide_eq_false h4; have := h3 (by simpa using h); exact ⟨this.1, this.2.1, this.2.2, by omega⟩
 have j4 : ∀ t : Bool, e.What = 2 → (t = true → ¬LegP n c p e) → (t = false → 0 ≤ e.U ∧ e.U < n.N) → Ok (Z1n c p e t) (fun a => a = 0 ↔ LegP n c p e) := fun t h1 h2 h3 => by
  unfold Z1n
  rw [hcS]
  refine Ok.ite.2 ⟨fun h => j5 _ h1 (fun _ => h2 h) fun h => (by cases h), fun h => j5 _ h1 (fun h4 h5 => ?_) fun h4 => ?_⟩
  · have := of_decide_eq_true h4; have := h5.2.2.2.1; omega
  · have := of_decide_eq_false h4; have := h3 (by simpa using h); exact ⟨this.1, this.2, by omega⟩
 rw [hN]
 refine Ok.ite.2 ⟨fun h1 => Ok.ite.2 ⟨fun h => j1 _ h1 (fun _ h5 => ?_) fun h => (by cases h), fun h => j1 _ h1 (fun h4 h5 => ?_) fun h4 => ?_⟩, fun h1 => Ok.ite.2 ⟨fun h2 => Ok.ite.2 ⟨fun h => j4 _ h2 (fun _ h5 => ?_) fun h => (by cases h), fun h => j4 _ h2 (fun h4 h5 => ?_) fun h4 => ?_⟩, fun h2 => no (by omega) fun h3 => ?_⟩⟩
 · have := h5.2.1; omega
 · have := of_decide_eq_true h4; have := h5.2.2.1; omega
 · have := of_decide_eq_false h4; omega
 · have := h5.2.1; omega
 · have := of_decide_eq_true h4; have := h5.2.2.1; omega
 · have := of_decide_eq_false h4; omega
 · rcases h3.1 with h | h <;> omega
theorem Z70 {p : Pre} {e : Evt} (r : Row n m L c) (hl : PLen m L p) : Ok (Rm c p e) (fun a => a = 0 ↔ LegP n c p e) := by
 have b := r.bd
 obtain ⟨⟨S, hS, hcS, hSm⟩, ⟨T, hT, hcT, hTm⟩, hne, hN⟩ := r.ends
 have hnm := r.hm
 obtain ⟨lf, -, -, -, -, -⟩ := r.lens
 have no : ∀ {x : Int}, x ≠ 0 → ¬LegP n c p e → Ok (some x) (fun a => a = 0 ↔ LegP n c p e) := fun hx h => Ok.some.2 ⟨fun h2 => absurd h2 hx, fun h2 => absurd h2 h⟩
 have j5 : ∀ t : Bool, (t = true → ¬LegP n c p e) → (t = false → (e.What = 1 ∨ e.What = 2) ∧ 0 ≤ e.U ∧ e.U < n.N ∧ e.U ≠ n.S ∧ e.U ≠ n.T) → Ok (Z1g c p e t) (fun a => a = 0 ↔ LegP n c p e) := fun t h2 h3 => by
  unfold Z1g
  refine Ok.ite.2 ⟨fun h => no (by omega) (h2 h), fun h => ?_⟩
  obtain ⟨hw, hu⟩ := h3 (by simpa using h)
  obtain ⟨u, eu⟩ : ∃ u : Nat, e.U = u := ⟨e.U.toNat, by omega⟩
  have f1 := r.first.1 u (by omega)
  have f2 := r.first.1 (u + 1) (by omega)
  have f3 := r.first.2.2.2 u (by omega)
  have eu1 : (e.U + 1).toNat = u + 1 := by omega
  have eu0 : e.U.toNat = u := by omega
  have ll : e.What = 1 → (LegP n c p e ↔ (fs c u : Int) ≤ e.Arc ∧ e.Arc < fs c (u + 1) ∧ 1 ≤ e.D ∧ e.D ≤ p.Ex.getD u 0 ∧ e.D ≤ p.Res.getD e.Arc.toNat 0 ∧ e.H = p.H.getD u 0 ∧ e.Low < e.H) := fun h1 => by
   unfold LegP
   rw [eu0, eu1, f1.1, f2.1]
   constructor
   · intro h; exact h.2.2.2.2.2.2 h1
   · intro h; exact ⟨.inl h1, hu.1, hu.2.1, hu.2.2.1, hu.2.2.2, fun h2 => by omega, fun _ => h⟩
  have l2 : e.What = 2 → (LegP n c p e ↔ p.H.getD u 0 < e.H ∧ e.H ≤ 2 * n.N) := fun h1 => by
   unfold LegP
   rw [eu0]
   constructor
   · intro h; exact h.2.2.2.2.2.1 h1
   · intro h; exact ⟨.inr h1, hu.1, hu.2.1, hu.2.2.1, hu.2.2.2, fun _ => h, fun h2 => by omega⟩
  have j8 : ∀ t : Bool, e.What = 1 → (t = true → ¬LegP n c p e) → (t = false → (fs c u : Int) ≤ e.Arc ∧ e.Arc < fs c (u + 1) ∧ 1 ≤ e.D ∧ e.D ≤ p.Ex.getD u 0 ∧ e.D ≤ p.Res.getD e.Arc.toNat 0 ∧ e.H = p.H.getD u 0) → Ok (Z1t e t) (fun a => a = 0 ↔ LegP n c p e) := fun t h1 h2 h3 => by
   unfold Z1t
   refine Ok.ite.2 ⟨fun h => no (by omega) (h2 h), fun h => Ok.ite.2 ⟨fun h4 => no (by omega) fun h5 => ?_, fun h4 => Ok.some.2 ⟨fun _ => ?_, fun _ => rfl⟩⟩⟩
   · have := (ll h1).1 h5; omega
   · have := h3 (by simpa using h); exact (ll h1).2 ⟨this.1, this.2.1, this.2.2.1, this.2.2.2.1, this.2.2.2.2.1, this.2.2.2.2.2, by omega⟩
  have j7 : ∀ t : Bool, e.What = 1 → (t = true → ¬LegP n c p e) → (t = false → (fs c u : Int) ≤ e.Arc ∧ e.Arc < fs c (u + 1) ∧ 1 ≤ e.D ∧ e.D ≤ p.Ex.getD u 0 ∧ e.D ≤ p.Res.getD e.Arc.toNat 0) → Ok (Z1f p e t) (fun a => a = 0 ↔ LegP n c p e) := fun t h1 h2 h3 => by
   unfold Z1f
   simp only [eu0, hl.h]
   refine Ok.ite.2 ⟨fun h => j8 _ h1 (fun _ => h2 h) fun h => (by cases h), fun h => Ok.gd.2 ⟨by constructor <;> omega, j8 _ h1 (fun h4 h5 => ?_) fun h4 => ?_⟩⟩
   · have := of_decide_eq_true h4; have := (ll h1).1 h5; omega
   · have := of_decide_eq_false h4; have := h3 (by simpa using h); exact ⟨this.1, this.2.1, this.2.2.1, this.2.2.2.1, this.2.2.2.2, by omega⟩
  have j6 : ∀ t : Bool, e.What = 1 → (fs c u : Int) ≤ e.Arc ∧ e.Arc < fs c (u + 1) → (t = true → ¬LegP n c p e) → (t = false → 1 ≤ e.D ∧ e.D ≤ p.Ex.getD u 0) → Ok (Z15 p e t) (fun a => a = 0 ↔ LegP n c p e) := fun t h1 ha h2 h3 => by
   unfold Z15
   simp only [hl.r]
   refine Ok.ite.2 ⟨fun h => j7 _ h1 (fun _ => h2 h) fun h => (by cases h), fun h => Ok.gd.2 ⟨by constructor <;> omega, j7 _ h1 (fun h4 h5 => ?_) fun h4 => ?_⟩⟩
   · have := of_decide_eq_true h4; have := (ll h1).1 h5; omega
   · have := of_decide_eq_false h4; have := h3 (by simpa using h); exact ⟨ha.1, ha.2, this.1, this.2, by omega⟩
  simp only [eu0, eu1, f1.1, f2.1, lf, hl.x, hl.h, hN]
  refine Ok.ite.2 ⟨fun h1 => Ok.gd.2 ⟨by constructor <;> omega, Ok.ite.2 ⟨fun h4 => no (by omega) fun h5 => ?_, fun h4 => Ok.gd.2 ⟨by constructor <;> omega, Ok.ite.2 ⟨fun h5 => no (by omega) fun h6 => ?_, fun h5 => Ok.some.2 ⟨fun _ => (l2 h1).2 ⟨by omega, by omega⟩, fun _ => rfl⟩⟩⟩⟩⟩, fun h1 => ?_⟩
  · have := (l2 h1).1 h5; omega
  · have := (l2 h1).1 h6; omega
  ·
   have h1 : e.What = 1 := by omega
   refine Ok.gd.2 ⟨by constructor <;> omega, Ok.ite.2 ⟨fun h4 => no (by omega) fun h5 => ?_, fun h4 => Ok.gd.2 ⟨by constructor <;> omega, Ok.gd.2 ⟨by constructor <;> omega, Ok.ite.2 ⟨fun h5 => no (by omega) fun h6 => ?_, fun h5 => Ok.ite.2 ⟨fun h6 => j6 _ h1 ⟨by omega, by omega⟩ (fun _ h7 => ?_) fun h => (by cases h), fun h6 => Ok.gd.2 ⟨by constructor <;> omega, j6 _ h1 ⟨by omega, by omega⟩ (fun h7 h8 => ?_) fun h7 => ?_⟩⟩⟩⟩⟩⟩⟩
   · have := (ll h1).1 h5; omega
   · have := (ll h1).1 h6; omega
   · have := (ll h1).1 h7; omega
   · have := of_decide_eq_true h7; have := (ll h1).1 h8; omega
   · have := of_decide_eq_false h7; exact ⟨by omega, by omega⟩
 have j4 : ∀ t : Bool, (t = true → ¬LegP n c p e) → (t = false → (e.What = 1 ∨ e.What = 2) ∧ 0 ≤ e.U ∧ e.U < n.N ∧ e.U ≠ n.S) → Ok (Z0u c p e t) (fun a => a = 0 ↔ LegP n c p e) := fun t h2 h3 => by
  unfold Z0u
  rw [hcT]
  refine Ok.ite.2 ⟨fun h => j5 _ (fun _ => h2 h) fun h => (by cases h), fun h => j5 _ (fun h4 h5 => ?_) fun h4 => ?_⟩
  · have := of_decide_eq_true h4; have := h5.2.2.2.2.1; omega
  · have := of_decide_eq_false h4; have := h3 (by simpa using h); exact ⟨this.1, this.2.1, this.2.2.1, this.2.2.2, by omega⟩
 have j3 : ∀ t : Bool, (t = true → ¬LegP n c p e) → (t = false → (e.What = 1 ∨ e.What = 2) ∧ 0 ≤ e.U ∧ e.U < n.N) → Ok (Z1c c p e t) (fun a => a = 0 ↔ LegP n c p e) := fun t h2 h3 => by
  unfold Z1c
  rw [hcS]
  refine Ok.ite.2 ⟨fun h => j4 _ (fun _ => h2 h) fun h => (by cases h), fun h => j4 _ (fun h4 h5 => ?_) fun h4 => ?_⟩
  · have := of_decide_eq_true h4; have := h5.2.2.2.1; omega
  · have := of_decide_eq_false h4; have := h3 (by simpa using h); exact ⟨this.1, this.2.1, this.2.2, by omega⟩
 have j2 : ∀ t : Bool, (t = true → ¬LegP n c p e) → (t = false → (e.What = 1 ∨ e.What = 2) ∧ 0 ≤ e.U) → Ok (Z1i c p e t) (fun a => a = 0 ↔ LegP n c p e) := fun t h2 h3 => by
  unfold Z1i
  rw [hN]
  refine Ok.ite.2 ⟨fun h => j3 _ (fun _ => h2 h) fun h => (by cases h), fun h => j3 _ (fun h4 h5 => ?_) fun h4 => ?_⟩
  · have := of_decide_eq_true h4; have := h5.2.2.1; omega
  · have := of_decide_eq_false h4; have := h3 (by simpa using h); exact ⟨this.1, this.2, by omega⟩
 have j1 : ∀ t : Bool, (t = true → ¬LegP n c p e) → (t = false → (e.What = 1 ∨ e.What = 2)) → Ok (Z19 c p e t) (fun a => a = 0 ↔ LegP n c p e) := fun t h2 h3 => by
  unfold Z19
  refine Ok.ite.2 ⟨fun h => j2 _ (fun _ => h2 h) fun h => (by cases h), fun h => j2 _ (fun h4 h5 => ?_) fun h4 => ?_⟩
  · have := of_decide_eq_true h4; have := h5.2.1; omega
  · have := of_decide_eq_false h4; exact ⟨h3 (by simpa using h), by omega⟩
 unfold Rm
 refine Ok.ite.2 ⟨fun h => j1 _ (fun h4 h5 => ?_) fun h4 => ?_, fun h => j1 _ (fun h => (by cases h)) fun _ => by omega⟩
 · have := of_decide_eq_true h4; rcases h5.1 with h6 | h6 <;> omega
 · have := of_decide_eq_false h4; omega
end row
end Go.Acq
namespace Go.Acq
open Go
def Vi (c : Csr) (p : Pre) (a : Nat) : Nat → Int
  | 0 => -1
  | k + 1 => if 0 < p.Res.getD (a + k) 0 ∧ (Vi c p a k < 0 ∨ p.H.getD (hd c (a + k)) 0 < Vi c p a k) then p.H.getD (hd c (a + k)) 0 else Vi c p a k
def stB (c : Csr) (p : Pre) (e : Evt) : Bool :=
  if e.What = 1 then decide (p.H.getD (hd c e.Arc.toNat) 0 ≠ e.Low)
  else if Vi c p (fs c e.U.toNat) (fs c (e.U.toNat + 1) - fs c e.U.toNat) < 0 then true else decide (Vi c p (fs c e.U.toNat) (fs c (e.U.toNat + 1) - fs c e.U.toNat) ≠ e.Low)
def Ko (c : Csr) (p : Pre) (e : Evt) : Pre :=
  if e.What = 2 then ⟨p.Res, p.Ex, p.H.set e.U.toNat e.H⟩
  else ⟨(p.Res.set e.Arc.toNat (p.Res.getD e.Arc.toNat 0 - e.D)).set (rv c e.Arc.toNat) ((p.Res.set e.Arc.toNat (p.Res.getD e.Arc.toNat 0 - e.D)).getD (rv c e.Arc.toNat) 0 + e.D),
    (p.Ex.set e.U.toNat (p.Ex.getD e.U.toNat 0 - e.D)).set (hd c e.Arc.toNat) ((p.Ex.set e.U.toNat (p.Ex.getD e.U.toNat 0 - e.D)).getD (hd c e.Arc.toNat) 0 + e.D), p.H⟩
structure RxS (m L : Nat) (c : Csr) (B : Int) (p : Pre) : Prop where
  len : PLen m L p
  pr : PrX L c p.Res
  hb : ∀ v, v < m → 0 ≤ p.H.getD v 0 ∧ p.H.getD v 0 ≤ 2 * m
  xb : ∀ v, v < m → -B ≤ p.Ex.getD v 0 ∧ p.Ex.getD v 0 ≤ B
section row
variable {n : Net} {m L : Nat} {c : Csr}
theorem s_low {p : Pre} {u : Nat} (r : Row n m L c) (hl : PLen m L p) (hh : ∀ v, v < m → 0 ≤ p.H.getD v 0) (hu : u < m) : Ok (Z3i c p (u : Nat)) (fun t => t.2 = decide (0 ≤ Vi c p (fs c u) (fs c (u + 1) - fs c u)) ∧ (0 ≤ Vi c p (fs c u) (fs c (u + 1) - fs c u) → t.1 = Vi c p (fs c u) (fs c (u + 1) - fs c u))) := by
 have b := r.bd
 obtain ⟨lf, llh, -, -, -, -⟩ := r.lens
 have f1 := r.first.1 u (by omega)
 have f2 := r.first.1 (u + 1) (by omega)
 have f3 := r.first.2.2.2 u hu
 unfold Z3i
 simp only [lf, f1.1, Int.toNat_natCast]
 refine Ok.gd.2 ⟨(by constructor <;> omega), Ok.bind.2 ?_⟩
 refine Vm (fun s => ∃ k : Nat, s.2.2 = ((fs c u + k : Nat) : Int) ∧ fs c u + k ≤ fs c (u + 1) ∧ s.2.1 = decide (0 ≤ Vi c p (fs c u) k) ∧ (0 ≤ Vi c p (fs c u) k → s.1 = Vi c p (fs c u) k)) (fun s => (fs c (u + 1) - s.2.2).toNat) ⟨0, rfl, by omega, by simp [Vi], fun h => by simp [Vi] at h⟩ (by unfold Yh; simp only; omega) ?_
 rintro ⟨best, any, x⟩ ⟨k, hx, hk, ha, hb⟩ P next exit
 simp only at hx ha hb next ⊢
 subst hx
 unfold Z3d
 have eu : (((u : Nat) : Int) + 1).toNat = u + 1 := by omega
 simp only [lf, eu, f2.1, llh, hl.r, hl.h, Int.toNat_natCast]
 refine Ok.gd.2 ⟨by constructor <;> omega, Ok.gd.2 ⟨by constructor <;> omega, Ok.ite.2 ⟨fun hxx => ?_, fun hxx => Ok.some.2 (exit _ ?_)⟩⟩⟩
 ·
  have hkL : fs c u + k < L := by omega
  have g1 := r.head hkL
  have hv := hh _ g1.2
  have j2 : ∀ t : Bool, (t = true ↔ 0 < p.Res.getD (fs c u + k) 0 ∧ (Vi c p (fs c u) k < 0 ∨ p.H.getD (hd c (fs c u + k)) 0 < Vi c p (fs c u) k)) → Ok (Ri c p best any ((fs c u + k : Nat) : Int) t) P := fun t ht => by
   unfold Ri
   simp only [Int.toNat_natCast, llh, g1.1, hl.h]
   refine Ok.ite.2 ⟨fun h => Ok.gd.2 ⟨by constructor <;> omega, Ok.gd.2 ⟨by constructor <;> omega, Ok.gd.2 ⟨by constructor <;> omega, Ok.some.2 (next _ ⟨k + 1, by simp only; omega, by omega, ?_, fun _ => ?_⟩ (by simp only; omega))⟩⟩⟩, fun h => Ok.gd.2 ⟨by constructor <;> omega, Ok.some.2 (next _ ⟨k + 1, by simp only; omega, by omega, ?_, fun h2 => ?_⟩ (by simp only; omega))⟩⟩
   ·
    have e : Vi c p (fs c u) (k + 1) = p.H.getD (hd c (fs c u + k)) 0 := by simp only [Vi]; rw [if_pos (ht.1 h)]
    rw [e]; exact (decide_eq_true hv).symm
   · simp only [Vi]; rw [if_pos (ht.1 h)]
   ·
    have e : Vi c p (fs c u) (k + 1) = Vi c p (fs c u) k := by simp only [Vi]; rw [if_neg fun h2 => h (ht.2 h2)]
    rw [e]; exact ha
   · simp only [Vi] at h2 ⊢; rw [if_neg fun h2 => h (ht.2 h2)] at h2 ⊢; exact hb h2
  refine Ok.gd.2 ⟨by constructor <;> omega, Ok.ite.2 ⟨fun h1 => Ok.ite.2 ⟨fun h2 => j2 _ ⟨fun _ => ⟨h1, .inl ?_⟩, fun _ => rfl⟩, fun h2 => ?_⟩, fun h1 => j2 _ ⟨fun h => (by cases h), fun h => absurd h.1 h1⟩⟩⟩
  ·
   have : any = false := by simpa using h2
   rw [ha] at this
   have := of_decide_eq_false this
   omega
  ·
   have h3 : any = true := by simpa using h2
   rw [ha] at h3
   have h3 := of_decide_eq_true h3
   have h4 := hb h3
   simp only [Int.toNat_natCast, llh, g1.1, hl.h]
   refine Ok.gd.2 ⟨by constructor <;> omega, Ok.gd.2 ⟨by constructor <;> omega, j2 _ ⟨fun h => ⟨h1, .inr ?_⟩, fun h => decide_eq_true ?_⟩⟩⟩
   · have := of_decide_eq_true h; omega
   · rcases h.2 with h5 | h5 <;> omega
 ·
  obtain rfl : k = fs c (u + 1) - fs c u := by omega
  unfold Z5o
  exact Ok.some.2 ⟨ha, hb⟩
theorem LegP.at {p : Pre} {e : Evt} (r : Row n m L c) (h : LegP n c p e) : ∃ u : Nat, e.U = u ∧ u < m ∧ (e.What = 1 → ∃ a : Nat, e.Arc = a ∧ a < L ∧ tl c a = u) := by
 have hnm := r.hm
 have b := r.bd
 obtain ⟨u, eu⟩ : ∃ u : Nat, e.U = u := ⟨e.U.toNat, by have := h.2.1; omega⟩
 have hu : u < m := by have := h.2.2.1; omega
 refine ⟨u, eu, hu, fun h1 => ?_⟩
 have h2 := h.2.2.2.2.2.2 h1
 have eu1 : (e.U + 1).toNat = u + 1 := by omega
 have eu0 : e.U.toNat = u := by omega
 have f1 := r.first.1 u (by omega)
 have f2 := r.first.1 (u + 1) (by omega)
 have f3 := r.first.2.2.2 u hu
 rw [eu0, eu1, f1.1, f2.1] at h2
 refine ⟨e.Arc.toNat, by omega, by omega, (r.range (by omega) hu).1 ⟨by omega, by omega⟩⟩
theorem Z9r {p : Pre} {e : Evt} (r : Row n m L c) (hl : PLen m L p) (hh : ∀ v, v < m → 0 ≤ p.H.getD v 0) (h : LegP n c p e) : Z12 c p e = some (stB c p e) := by
 have b := r.bd
 obtain ⟨u, eu, hu, ha⟩ := h.at r
 obtain ⟨lf, llh, -, -, -, -⟩ := r.lens
 refine Ug ?_
 unfold Z12 stB
 refine Ok.ite.2 ⟨fun h1 => ?_, fun h1 => ?_⟩
 ·
  obtain ⟨a, ea, haL, -⟩ := ha h1
  have g1 := r.head haL
  simp only [ea, Int.toNat_natCast, llh, g1.1, hl.h, h1, if_true]
  exact Ok.gd.2 ⟨by constructor <;> omega, Ok.gd.2 ⟨by constructor <;> omega, Ok.some.2 rfl⟩⟩
 ·
  rw [eu]
  refine Ok.bind.2 (Ok.mono (s_low r hl hh hu) ?_)
  rintro ⟨best, any⟩ ⟨g1, g2⟩
  simp only [Int.toNat_natCast] at g1 g2 ⊢
  rw [if_neg h1]
  refine Ok.ite.2 ⟨fun h2 => Ok.some.2 ?_, fun h2 => Ok.some.2 ?_⟩
  ·
   have h3 : any = false := by simpa using h2
   rw [g1] at h3
   rw [if_pos (by have := of_decide_eq_false h3; omega)]
  ·
   have h3 : any = true := by simpa using h2
   rw [g1] at h3
   have h3 := of_decide_eq_true h3
   rw [if_neg (by omega), g2 h3]
theorem Z8z {p : Pre} {e : Evt} (r : Row n m L c) (hl : PLen m L p) (hh : ∀ v, v < m → 0 ≤ p.H.getD v 0) (h : LegP n c p e) : Z17 c p e = some (stB c p e) := by
 have b := r.bd
 obtain ⟨u, eu, hu, ha⟩ := h.at r
 obtain ⟨lf, llh, -, -, -, -⟩ := r.lens
 refine Ug ?_
 unfold Z17 stB
 refine Ok.ite.2 ⟨fun h1 => ?_, fun h1 => ?_⟩
 ·
  obtain ⟨a, ea, haL, -⟩ := ha h1
  have g1 := r.head haL
  simp only [ea, Int.toNat_natCast, llh, g1.1, hl.h, h1, if_true]
  exact Ok.gd.2 ⟨by constructor <;> omega, Ok.gd.2 ⟨by constructor <;> omega, Ok.some.2 rfl⟩⟩
 ·
  have f1 := r.first.1 u (by omega)
  have f2 := r.first.1 (u + 1) (by omega)
  have f3 := r.first.2.2.2 u hu
  rw [if_neg h1]
  simp only [eu, lf, f1.1, Int.toNat_natCast]
  refine Ok.gd.2 ⟨by constructor <;> omega, Ok.bind.2 ?_⟩
  refine Vm (fun s => ∃ k : Nat, s.2 = ((fs c u + k : Nat) : Int) ∧ fs c u + k ≤ fs c (u + 1) ∧ s.1 = Vi c p (fs c u) k) (fun s => (fs c (u + 1) - s.2).toNat) ⟨0, rfl, by omega, by simp [Vi]⟩ (by unfold Yh; simp only; omega) ?_
  rintro ⟨best, x⟩ ⟨k, hx, hk, hb⟩ P next exit
  simp only at hx hb next ⊢
  subst hx hb
  unfold Z38
  have eu1 : (((u : Nat) : Int) + 1).toNat = u + 1 := by omega
  simp only [eu, lf, eu1, f2.1, llh, hl.r, hl.h, Int.toNat_natCast]
  refine Ok.gd.2 ⟨by constructor <;> omega, Ok.gd.2 ⟨by constructor <;> omega, Ok.ite.2 ⟨fun hxx => ?_, fun hxx => Ok.some.2 (exit _ ?_)⟩⟩⟩
  ·
   have hkL : fs c u + k < L := by omega
   have g1 := r.head hkL
   have j2 : ∀ t : Bool, (t = true ↔ 0 < p.Res.getD (fs c u + k) 0 ∧ (Vi c p (fs c u) k < 0 ∨ p.H.getD (hd c (fs c u + k)) 0 < Vi c p (fs c u) k)) → Ok (Z00 c p (Vi c p (fs c u) k) ((fs c u + k : Nat) : Int) t) P := fun t ht => by
    unfold Z00
    simp only [Int.toNat_natCast, g1.1]
    refine Ok.ite.2 ⟨fun h => Ok.gd.2 ⟨by constructor <;> omega, Ok.some.2 (next _ ⟨k + 1, by simp only; omega, by omega, ?_⟩ (by simp only; omega))⟩, fun h => Ok.gd.2 ⟨by constructor <;> omega, Ok.some.2 (next _ ⟨k + 1, by simp only; omega, by omega, ?_⟩ (by simp only; omega))⟩⟩
    · simp only [Vi]; rw [if_pos (ht.1 h)]
    · simp only [Vi]; rw [if_neg fun h2 => h (ht.2 h2)]
   simp only [g1.1, Int.toNat_natCast]
   refine Ok.gd.2 ⟨by constructor <;> omega, Ok.gd.2 ⟨by constructor <;> omega, Ok.gd.2 ⟨by constructor <;> omega, Ok.ite.2 ⟨fun h2 => Ok.ite.2 ⟨fun h3 => j2 _ ⟨fun _ => ⟨h2, .inl h3⟩, fun _ => rfl⟩, fun h3 => j2 _ ⟨fun h => ⟨h2, .inr (of_decide_eq_true h)⟩, fun h => decide_eq_true (h.2.resolve_left h3)⟩⟩, fun h2 => j2 _ ⟨fun h => (by cases h), fun h => absurd h.1 h2⟩⟩⟩⟩⟩
  ·
   obtain rfl : k = fs c (u + 1) - fs c u := by omega
   unfold Z5f
   refine Ok.ite.2 ⟨fun h2 => Ok.some.2 ?_, fun h2 => Ok.some.2 ?_⟩
   · rw [if_pos h2]
   · rw [if_neg h2]
theorem RxS.move {p : Pre} {e : Evt} {B : Int} (r : Row n m L c) (hcap : ∀ j, j < L → cp c j ≤ 1125899906842624) (h : RxS m L c B p) (hl : LegP n c p e) : RxS m L c (B + 1125899906842624) (Ko c p e) ∧ 0 ≤ B ∧ (e.What = 1 → 1 ≤ e.D ∧ e.D ≤ 1125899906842624) := by
 have b := r.bd
 have hnm := r.hm
 obtain ⟨u, eu, hu, ha⟩ := hl.at r
 have hB : 0 ≤ B := by have := h.xb u hu; omega
 refine ⟨?_, hB, fun h1 => ?_⟩
 ·
  unfold Ko
  split
  ·
   rename_i h2
   have h3 := hl.2.2.2.2.2.1 h2
   simp only [eu, Int.toNat_natCast] at h3 ⊢
   refine ⟨⟨h.len.r, h.len.x, by simp [h.len.h]⟩, h.pr, fun v hv => ?_, fun v hv => by have := h.xb v hv; simp only; omega⟩
   simp only
   rw [Vp]
   split
   · have := h.hb u hu; omega
   · exact h.hb v hv
  ·
   rename_i h2
   have h1 : e.What = 1 := by rcases hl.1 with h | h <;> omega
   obtain ⟨a, ea, haL, htl⟩ := ha h1
   have h3 := hl.2.2.2.2.2.2 h1
   have k1 := r.rev haL
   have k2 := r.tlh haL
   have k3 := r.head haL
   have hpa := h.pr.le r haL
   have hpr := h.pr a haL
   have hprr := h.pr.le r k1.2.1
   have hc := hcap a haL
   simp only [eu, ea, Int.toNat_natCast] at h3 ⊢
   have e1 : (p.Res.set a (p.Res.getD a 0 - e.D)).getD (rv c a) 0 = p.Res.getD (rv c a) 0 := Jk (Ne.symm k1.2.2.2)
   have e2 : (p.Ex.set u (p.Ex.getD u 0 - e.D)).getD (hd c a) 0 = p.Ex.getD (hd c a) 0 := Jk (by rw [← htl]; exact k2.2.2.2)
   rw [e1, e2]
   refine ⟨⟨by simp [h.len.r], by simp [h.len.x], h.len.h⟩, fun j hj => ?_, h.hb, fun v hv => ?_⟩
   ·
    have kj := r.rev hj
    have hj0 := h.pr j hj
    have hjj := h.pr.le r hj
    simp only
    rw [Vp, Vp, Vp, Vp, List.length_set, h.len.r]
    by_cases c1 : j = a
    ·
     subst c1
     rw [if_neg (fun h => k1.2.2.2 h.1), if_pos ⟨rfl, hj⟩, if_pos ⟨rfl, k1.2.1⟩]
     omega
    ·
     by_cases c2 : j = rv c a
     ·
      subst c2
      have e3 : rv c (rv c a) = a := k1.2.2.1
      have e4 := (r.cap haL).2.2.1
      rw [e3] at hj0 ⊢
      rw [if_pos ⟨rfl, hj⟩, if_neg (fun h => k1.2.2.2 h.1), if_pos ⟨rfl, haL⟩]
      omega
     ·
      rw [if_neg (fun h => c2 h.1.symm), if_neg (fun h => c1 h.1.symm), if_neg (fun h => c1 (by have := congrArg (rv c) h.1; rw [k1.2.2.1, kj.2.2.1] at this; exact this.symm)), if_neg (fun h => c2 (by rw [h.1]; exact kj.2.2.1.symm))]
      exact hj0
   ·
    have hxv := h.xb v hv
    have hxu := h.xb u hu
    simp only
    rw [Vp, Vp, List.length_set, h.len.x]
    by_cases c1 : hd c a = v
    ·
     subst c1
     rw [if_pos ⟨rfl, hv⟩]; omega
    ·
     rw [if_neg (fun h => c1 h.1)]
     by_cases c2 : u = v
     ·
      subst c2
      rw [if_pos ⟨rfl, hv⟩]; omega
     · rw [if_neg (fun h => c2 h.1)]; omega
 ·
  obtain ⟨a, ea, haL, htl⟩ := ha h1
  have h3 := hl.2.2.2.2.2.2 h1
  have hpa := h.pr.le r haL
  have hc := hcap a haL
  simp only [ea, Int.toNat_natCast] at h3
  omega
structure PushG (m L : Nat) (c : Csr) (p : Pre) (e : Evt) (u a : Nat) : Prop where
  eu : e.U = u
  hu : u < m
  ea : e.Arc = a
  ha : a < L
  o1 : i64ok (p.Res.getD a 0 - e.D)
  o2 : i64ok ((p.Res.set a (p.Res.getD a 0 - e.D)).getD (rv c a) 0 + e.D)
  o3 : i64ok (p.Ex.getD u 0 - e.D)
  o4 : i64ok ((p.Ex.set u (p.Ex.getD u 0 - e.D)).getD (hd c a) 0 + e.D)
  rv : c.Rev.getD a 0 = (rv c a : Nat) ∧ Acq.rv c a < L
  hd : c.Head.getD a 0 = (hd c a : Nat) ∧ Acq.hd c a < m
theorem RxS.push {p : Pre} {e : Evt} {B : Int} (r : Row n m L c) (hcap : ∀ j, j < L → cp c j ≤ 1125899906842624) (h : RxS m L c B p) (hl : LegP n c p e) (hB : B ≤ 9007199254740992000) (h1 : e.What = 1) : ∃ u a : Nat, PushG m L c p e u a := by
 obtain ⟨u, eu, hu, ha⟩ := hl.at r
 obtain ⟨a, ea, haL, htl⟩ := ha h1
 have h3 := hl.2.2.2.2.2.2 h1
 have k1 := r.rev haL
 have k2 := r.tlh haL
 have k3 := r.head haL
 have hpa := h.pr.le r haL
 have hpr := h.pr a haL
 have hprr := h.pr.le r k1.2.1
 have hc := hcap a haL
 have hxu := h.xb u hu
 have hxv := h.xb _ k3.2
 simp only [eu, ea, Int.toNat_natCast] at h3
 have e1 : (p.Res.set a (p.Res.getD a 0 - e.D)).getD (rv c a) 0 = p.Res.getD (rv c a) 0 := Jk (Ne.symm k1.2.2.2)
 have e2 : (p.Ex.set u (p.Ex.getD u 0 - e.D)).getD (hd c a) 0 = p.Ex.getD (hd c a) 0 := Jk (by rw [← htl]; exact k2.2.2.2)
 refine ⟨u, a, eu, hu, ea, haL, by constructor <;> omega, ?_, by constructor <;> omega, ?_, ⟨k1.1, k1.2.1⟩, k3⟩
 · rw [e1]; constructor <;> omega
 · rw [e2]; constructor <;> omega
theorem s_Move {p : Pre} {e : Evt} {B : Int} (r : Row n m L c) (hcap : ∀ j, j < L → cp c j ≤ 1125899906842624) (h : RxS m L c B p) (hl : LegP n c p e) (hB : B ≤ 9007199254740992000) : Ok (Z2v c p e) (fun t => t = (Ko c p e, 0)) := by
 have b := r.bd
 obtain ⟨lf, llh, llr, -, -, -⟩ := r.lens
 have q1 := h.len.r
 have q2 := h.len.x
 have q3 := h.len.h
 unfold Z2v
 refine Ok.bind.2 (Ok.mono (Z70 r h.len) fun t ht => ?_)
 rw [if_neg (by rw [ht.2 hl]; simp)]
 refine Ok.gd.2 ⟨(by (first | omega | (constructor <;> omega) | (simp only [List.length_set, List.length_replicate]; omega) | (simp only [List.length_set, List.length_replicate]; constructor <;> omega))), Ok.gd.2 ⟨(by (first | omega | (constructor <;> omega) | (simp only [List.length_set, List.length_replicate]; omega) | (simp only [List.length_set, List.length_replicate]; constructor <;> omega))), Ok.gd.2 ⟨(by (first | omega | (constructor <;> omega) | (simp only [List.length_set, List.length_replicate]; omega) | (simp only [List.length_set, List.length_replicate]; constructor <;> omega))), Ok.ite.2 ⟨fun h1 => ?_, fun h1 => ?_⟩⟩⟩⟩
 ·
  obtain ⟨u, eu, hu, -⟩ := hl.at r
  refine Ok.gd.2 ⟨by rw [eu, q3]; constructor <;> omega, Ok.some.2 ?_⟩
  unfold Ko
  rw [if_pos h1]
 ·
  have h1' : e.What = 1 := by rcases hl.1 with h | h <;> omega
  obtain ⟨u, a, g⟩ := h.push r hcap hl hB h1'
  unfold Ko
  rw [if_neg h1]
  obtain ⟨eu, hu, ea, haL, o1, o2, o3, o4, k1, k3⟩ := g
  have i1 : inb (a : Int) L := by constructor <;> omega
  have i2 : inb ((rv c a : Nat) : Int) L := by constructor <;> omega
  have i3 : inb (u : Int) m := by constructor <;> omega
  have i4 : inb ((hd c a : Nat) : Int) m := by constructor <;> omega
  simp only [eu, ea, Int.toNat_natCast, k1.1, k3.1, q1, q2, q3, llh, llr, List.length_set]
  exact Ok.gd.2 ⟨i1, Ok.gd.2 ⟨o1, Ok.gd.2 ⟨i1, Ok.gd.2 ⟨i1, Ok.gd.2 ⟨i1, Ok.gd.2 ⟨i2, Ok.gd.2 ⟨o2, Ok.gd.2 ⟨i2, Ok.gd.2 ⟨i3, Ok.gd.2 ⟨o3, Ok.gd.2 ⟨i3, Ok.gd.2 ⟨i1, Ok.gd.2 ⟨i1, Ok.gd.2 ⟨i4, Ok.gd.2 ⟨o4, Ok.gd.2 ⟨i4, Ok.some.2 rfl⟩⟩⟩⟩⟩⟩⟩⟩⟩⟩⟩⟩⟩⟩⟩⟩
end row
end Go.Acq
namespace Go.Acq
open Go
def Xj (c : Csr) (p : Pre) (e : Evt) (t : Tale) : Tale :=
  if e.What = 2 then ⟨t.Pushes, t.Flat, t.Steep, t.Up, t.Lifts + 1, if stB c p e = true then t.Stale + 1 else t.Stale, t.Given⟩
  else ⟨t.Pushes + 1, if p.H.getD e.U.toNat 0 - p.H.getD (hd c e.Arc.toNat) 0 = 1 then t.Flat + 1 else t.Flat, if 1 < p.H.getD e.U.toNat 0 - p.H.getD (hd c e.Arc.toNat) 0 then t.Steep + 1 else t.Steep,
    if p.H.getD e.U.toNat 0 - p.H.getD (hd c e.Arc.toNat) 0 ≤ 0 then t.Up + 1 else t.Up, t.Lifts, if stB c p e = true then t.Stale + 1 else t.Stale, if c.Head.getD e.Arc.toNat 0 = c.T then t.Given + e.D else t.Given⟩
def Jc : Tale := ⟨0, 0, 0, 0, 0, 0, 0⟩
open Classical in
noncomputable def Kr (n : Net) (c : Csr) (p : Pre) (l : List Evt) : Nat → Option (Pre × Tale)
  | 0 => some (p, Jc)
  | k + 1 => match Kr n c p l k with
    | none => none
    | some (q, t) => if LegP n c q (l.getD k default) then some (Ko c q (l.getD k default), Xj c q (l.getD k default) t) else none
noncomputable def Rs (n : Net) (c : Csr) (p : Pre) (l : List Evt) : Pre × Tale × Int := match Kr n c p l l.length with
  | some (q, t) => (q, t, 0)
  | none => (⟨[], [], []⟩, Jc, 32)
structure TIn (k : Nat) (t : Tale) : Prop where
  a : 0 ≤ t.Pushes ∧ t.Pushes ≤ k
  b : 0 ≤ t.Flat ∧ t.Flat ≤ k
  c : 0 ≤ t.Steep ∧ t.Steep ≤ k
  d : 0 ≤ t.Up ∧ t.Up ≤ k
  e : 0 ≤ t.Lifts ∧ t.Lifts ≤ k
  f : 0 ≤ t.Stale ∧ t.Stale ≤ k
  g : 0 ≤ t.Given ∧ t.Given ≤ k * 1125899906842624
theorem Zbh {n : Net} {c : Csr} {p : Pre} {l : List Evt} {k : Nat} (h : Kr n c p l k = none) : ∀ d, Kr n c p l (k + d) = none
 | 0 => h
 | d + 1 => by
  have := Zbh h d
  show (match Kr n c p l (k + d) with | none => none | some (q, t) => _) = none
  rw [this]
theorem Zb7 {n : Net} {c : Csr} {p : Pre} {l : List Evt} {k : Nat} (h : Kr n c p l k = none) (hk : k ≤ l.length) : Rs n c p l = (⟨[], [], []⟩, Jc, 32) := by
 unfold Rs
 obtain ⟨d, e⟩ := Nat.exists_eq_add_of_le hk
 rw [e, Zbh h d]
theorem Z9b {n : Net} {c : Csr} {p q : Pre} {l : List Evt} {k : Nat} {t : Tale} (h : Kr n c p l k = some (q, t)) (hl : ¬LegP n c q (l.getD k default)) : Kr n c p l (k + 1) = none := by
 simp only [Kr, h, if_neg hl]
theorem Zcg {n : Net} {c : Csr} {p q : Pre} {l : List Evt} {k : Nat} {t : Tale} (h : Kr n c p l k = some (q, t)) (hl : LegP n c q (l.getD k default)) : Kr n c p l (k + 1) = some (Ko c q (l.getD k default), Xj c q (l.getD k default) t) := by
 simp only [Kr, h, if_pos hl]
section row
variable {n : Net} {m L : Nat} {c : Csr}
theorem TIn.step {k : Nat} {p : Pre} {e : Evt} {t : Tale} (h : TIn k t) (hw : e.What = 1 ∨ e.What = 2) (hD : e.What = 1 → 1 ≤ e.D ∧ e.D ≤ 1125899906842624) : TIn (k + 1) (Xj c p e t) := by
 obtain ⟨a, b, cc, d, e', f, g⟩ := h
 unfold Xj
 split
 · exact ⟨by simp only; omega, by simp only; omega, by simp only; omega, by simp only; omega, by simp only; omega, by simp only; split <;> omega, by simp only; omega⟩
 ·
  have := hD (by omega)
  exact ⟨by simp only; omega, by simp only; split <;> omega, by simp only; split <;> omega, by simp only; split <;> omega, by simp only; omega, by simp only; split <;> omega, by simp only; split <;> omega⟩
theorem s_y1 {k : Nat} {p : Pre} {e : Evt} {t : Tale} {B : Int} (r : Row n m L c) (hcap : ∀ j, j < L → cp c j ≤ 1125899906842624) (h : RxS m L c B p) (hl : LegP n c p e) (ht : TIn k t) (hk : k ≤ 200) :
    Nh c 0 t.Pushes t.Flat t.Steep t.Up t.Lifts t.Stale t.Given e 0 p = some (.inl (0, (Xj c p e t).Pushes, (Xj c p e t).Flat, (Xj c p e t).Steep, (Xj c p e t).Up, (Xj c p e t).Lifts, (Xj c p e t).Stale, (Xj c p e t).Given)) := by
  have bd := r.bd
  obtain ⟨lf, llh, -, -, -, -⟩ := r.lens
  obtain ⟨a, b, cc, d, e', f, g⟩ := ht
  obtain ⟨-, -, hD⟩ := h.move r hcap hl
  refine Ug ?_
  unfold Nh
  rw [if_neg (by simp), Z9r r h.len (fun v hv => (h.hb v hv).1) hl]
  refine Ok.bind.2 (Ok.some.2 ?_)
  have j2 : ∀ st : Int, 0 ≤ st → st ≤ 1000 → st = (Xj c p e t).Stale → Ok (Z0v c 0 t.Pushes t.Flat t.Steep t.Up t.Lifts t.Given e p st) (fun x => x = .inl (0, (Xj c p e t).Pushes, (Xj c p e t).Flat, (Xj c p e t).Steep, (Xj c p e t).Up, (Xj c p e t).Lifts, (Xj c p e t).Stale, (Xj c p e t).Given)) := fun st s1 s2 s3 => by
    unfold Z0v
    rw [← s3]
    obtain ⟨u, eu, hu, ha⟩ := hl.at r
    refine Ok.ite.2 ⟨fun h1 => ?_, fun h1 => Ok.gd.2 ⟨by constructor <;> omega, Ok.some.2 ?_⟩⟩
    · obtain ⟨q, ea, haL, -⟩ := ha h1
      have k3 := r.head haL
      have hD := hD h1
      have b1 := h.hb u hu
      have b2 := h.hb _ k3.2
      unfold Z5b
      simp only [eu, ea, Int.toNat_natCast, k3.1, llh, h.len.h]
      have e2 : ¬ e.What = 2 := by omega
      have j1 : ∀ F S U : Int, F = (Xj c p e t).Flat → S = (Xj c p e t).Steep → U = (Xj c p e t).Up → Ok (Z07 c e ⟨t.Pushes, t.Flat, t.Steep, t.Up, t.Lifts, st, t.Given⟩ F S U) (fun x => Ok (some (.inl (0, x.Pushes, x.Flat, x.Steep, x.Up, t.Lifts, st, x.Given))) (fun x => x = (.inl (0, (Xj c p e t).Pushes, (Xj c p e t).Flat, (Xj c p e t).Steep, (Xj c p e t).Up, (Xj c p e t).Lifts, st, (Xj c p e t).Given) : (Int × Int × Int × Int × Int × Int × Int × Int) ⊕ (Int × Int × Int × Int × Int × Int × Int × Int)))) := fun F S U hF hS hU => by
        unfold Z07
        refine Ok.ite.2 ⟨fun h2 => Ok.gd.2 ⟨by constructor <;> (simp only; omega), Ok.some.2 (Ok.some.2 ?_)⟩, fun h2 => Ok.some.2 (Ok.some.2 ?_)⟩
        · rw [hF, hS, hU]
          unfold Xj
          simp only [if_neg e2, if_pos h2]
        · rw [hF, hS, hU]
          unfold Xj
          simp only [if_neg e2, if_neg h2]
      have i1 : inb (q : Int) L := by constructor <;> omega
      have i2 : inb (u : Int) m := by constructor <;> omega
      have i3 : inb ((hd c q : Nat) : Int) m := by constructor <;> omega
      refine Ok.bind.2 (Ok.gd.2 ⟨by constructor <;> omega, Ok.gd.2 ⟨i1, Ok.gd.2 ⟨i2, Ok.gd.2 ⟨i3, Ok.gd.2 ⟨by constructor <;> omega, Ok.ite.2 ⟨fun h2 => Ok.gd.2 ⟨by constructor <;> omega, j1 _ _ _ ?_ ?_ ?_⟩, fun h2 => Ok.ite.2 ⟨fun h3 => Ok.gd.2 ⟨by constructor <;> omega, j1 _ _ _ ?_ ?_ ?_⟩, fun h3 => Ok.gd.2 ⟨by constructor <;> omega, j1 _ _ _ ?_ ?_ ?_⟩⟩⟩⟩⟩⟩⟩⟩)
      all_goals
        unfold Xj
        simp only [if_neg e2, eu, ea, Int.toNat_natCast]
        first | rw [if_pos (by omega)] | rw [if_neg (by omega)]
    · have h2 : e.What = 2 := by rcases hl.1 with h | h <;> omega
      unfold Xj
      rw [if_pos h2]
  refine Ok.ite.2 ⟨fun h1 => Ok.gd.2 ⟨by constructor <;> omega, j2 _ (by omega) (by omega) ?_⟩, fun h1 => j2 _ (by omega) (by omega) ?_⟩
  · unfold Xj; split <;> simp only [if_pos h1]
  · unfold Xj; split <;> simp only [if_neg h1]
structure At (n : Net) (m L : Nat) (c : Csr) (p0 : Pre) (l : List Evt) (k : Nat) (p : Pre) (t : Tale) : Prop where
  run : Kr n c p0 l k = some (p, t)
  st : RxS m L c (4611686018427387904 + k * 1125899906842624) p
  tin : TIn k t
theorem At.start {p : Pre} {l : List Evt} (r : Row n m L c) (h : RxOK n m L c p) : At n m L c p l 0 p Jc :=
 ⟨rfl, ⟨⟨h.lr, h.lx, h.lh⟩, h.res, h.hb, fun v hv => by
  have h1 := Z63 (R := p.Res) r v (Nat.le_refl L) fun j hj => PrX.le r h.res hj
  have := h.ex v hv
  omega⟩, ⟨by simp [Jc], by simp [Jc], by simp [Jc], by simp [Jc], by simp [Jc], by simp [Jc], by simp [Jc]⟩⟩
theorem At.next {p0 p : Pre} {l : List Evt} {k : Nat} {t : Tale} (r : Row n m L c) (hcap : ∀ j, j < L → cp c j ≤ 1125899906842624) (h : At n m L c p0 l k p t) (hl : LegP n c p (l.getD k default)) : At n m L c p0 l (k + 1) (Ko c p (l.getD k default)) (Xj c p (l.getD k default) t) := by
 obtain ⟨h1, h2, h3⟩ := h.st.move r hcap hl
 refine ⟨Zcg h.run hl, ?_, h.tin.step hl.1 h3⟩
 have e : (4611686018427387904 : Int) + (k : Int) * 1125899906842624 + 1125899906842624 = 4611686018427387904 + ((k + 1 : Nat) : Int) * 1125899906842624 := by omega
 rw [← e]; exact h1
theorem s_Tell1 {p : Pre} {l : List Evt} (r : Row n m L c) (hcap : ∀ j, j < L → cp c j ≤ 1125899906842624) (h64 : ∀ v, v < p.Ex.length → i64ok (p.Ex.getD v 0)) (hl : l.length ≤ 200) :
    Ok (Ld c p l) (fun x => (RxOK n m L c p → x = Rs n c p l) ∧ (¬RxOK n m L c p → x = (⟨[], [], []⟩, Jc, 32))) := by
  have b := r.bd
  obtain ⟨lf, llh, llr, -, -, -⟩ := r.lens
  unfold Ld
  refine Ok.bind.2 (Ok.mono (s_xRight r hcap h64) fun t ht => Ok.ite.2 ⟨fun h => Ok.some.2 ⟨fun h2 => ?_, fun _ => rfl⟩, fun h => ?_⟩)
  · rw [ht.2 h2] at h; simp at h
  have hR : RxOK n m L c p := ht.1 (by simpa using h)
  have q1 := hR.lr
  have q2 := hR.lx
  have q3 := hR.lh
  refine Ok.bind.2 (Vn (Z6r (by omega)) (Ok.bind.2 (Vn (Z6r (by omega)) (Ok.bind.2 (Vn (s_CloneI (by omega)) ?_)))))
  unfold Z6b Z5r
  refine Ok.bind.2 (Ok.some.2 (Ok.bind.2 (Ok.bind.2 ?_)))
  refine Vm (fun s => ∃ (k : Nat) (p1 : Pre) (t : Tale), s = (p1.Res, p1.Ex, p1.H, (k : Int), .inl (0, t.Pushes, t.Flat, t.Steep, t.Up, t.Lifts, t.Stale, t.Given)) ∧ k ≤ l.length ∧ At n m L c p l k p1 t) (fun s => (l.length - s.2.2.2.1).toNat) ⟨0, p, Jc, rfl, by omega, .start r hR⟩ (by unfold Yh; simp only; omega) ?_
  rintro s ⟨k, p1, t, rfl, hk, hA⟩ P next exit
  simp only at next ⊢
  unfold Z2r
  simp only [Int.toNat_natCast]
  refine Ok.ite.2 ⟨fun hx => ?_, fun hx => Ok.some.2 (exit _ ?_)⟩
  · have hkl : k < l.length := by omega
    obtain ⟨e, he⟩ : ∃ e, l.getD k default = e := ⟨_, rfl⟩
    simp only [he]
    have g1 := hA.st.len.r
    have g2 := hA.st.len.x
    have g3 := hA.st.len.h
    refine Ok.gd.2 ⟨by constructor <;> omega, Ok.bind.2 (Ok.mono (s_Legal1 (p := p1) r hA.st.len) fun a ha => ?_)⟩
    by_cases h0 : a = 0
    · subst h0
      have hL : LegP n c p1 e := ha.1 rfl
      have hy : Rp (fun s (v : Evt × Int × Pre) => Nh c s.1 s.2.1 s.2.2.1 s.2.2.2.1 s.2.2.2.2.1 s.2.2.2.2.2.1 s.2.2.2.2.2.2.1 s.2.2.2.2.2.2.2 v.1 v.2.1 v.2.2) (.inl (0, t.Pushes, t.Flat, t.Steep, t.Up, t.Lifts, t.Stale, t.Given)) (e, 0, p1) = some (.inl (0, (Xj c p1 e t).Pushes, (Xj c p1 e t).Flat, (Xj c p1 e t).Steep, (Xj c p1 e t).Up, (Xj c p1 e t).Lifts, (Xj c p1 e t).Stale, (Xj c p1 e t).Given)) := s_y1 (k := k) r hcap hA.st hL hA.tin (by omega)
      have hn := hA.next r hcap (by rw [he]; exact hL)
      rw [he] at hn
      refine Ok.bind.2 (Vn hy ?_)
      rw [if_neg (by simp), if_neg (by simp)]
      refine Ok.ite.2 ⟨fun h1 => ?_, fun h1 => ?_⟩
      · obtain ⟨u, eu, hu, -⟩ := hL.at r
        have em : Ko c p1 e = ⟨p1.Res, p1.Ex, p1.H.set e.U.toNat e.H⟩ := by unfold Ko; rw [if_pos h1]
        refine Ok.gd.2 ⟨by rw [eu, g3]; constructor <;> omega, Ok.gd.2 ⟨by constructor <;> omega, Ok.some.2 (next _ ⟨k + 1, Ko c p1 e, Xj c p1 e t, ?_, by omega, hn⟩ (by simp only; omega))⟩⟩
        rw [em]; simp
      · have h1' : e.What = 1 := by rcases hL.1 with h | h <;> omega
        obtain ⟨u, a, g⟩ := hA.st.push r hcap hL (by omega) h1'
        obtain ⟨eu, hu, ea, haL, o1, o2, o3, o4, k1, k3⟩ := g
        have i1 : inb (a : Int) L := by constructor <;> omega
        have i2 : inb ((rv c a : Nat) : Int) L := by constructor <;> omega
        have i3 : inb (u : Int) m := by constructor <;> omega
        have i4 : inb ((hd c a : Nat) : Int) m := by constructor <;> omega
        simp only [eu, ea, Int.toNat_natCast, k1.1, k3.1, g1, g2, g3, llh, llr, List.length_set]
        refine Ok.gd.2 ⟨i1, Ok.gd.2 ⟨o1, Ok.gd.2 ⟨i1, Ok.gd.2 ⟨i1, Ok.gd.2 ⟨i2, Ok.gd.2 ⟨o2, Ok.gd.2 ⟨i2, Ok.gd.2 ⟨i3, Ok.gd.2 ⟨o3, Ok.gd.2 ⟨i3, Ok.gd.2 ⟨i1, Ok.gd.2 ⟨i4, Ok.gd.2 ⟨o4, Ok.gd.2 ⟨i4, Ok.gd.2 ⟨by constructor <;> omega, Ok.some.2 (next _ ⟨k + 1, Ko c p1 e, Xj c p1 e t, ?_, by omega, hn⟩ (by simp only; omega))⟩⟩⟩⟩⟩⟩⟩⟩⟩⟩⟩⟩⟩⟩⟩
        simp [Ko, h1, eu, ea]
    · have hL : ¬LegP n c p1 e := fun h => h0 (ha.2 h)
      have hy : Rp (fun s (v : Evt × Int × Pre) => Nh c s.1 s.2.1 s.2.2.1 s.2.2.2.1 s.2.2.2.2.1 s.2.2.2.2.2.1 s.2.2.2.2.2.2.1 s.2.2.2.2.2.2.2 v.1 v.2.1 v.2.2) (.inl (0, t.Pushes, t.Flat, t.Steep, t.Up, t.Lifts, t.Stale, t.Given)) (e, a, p1) = some (.inr (32, t.Pushes, t.Flat, t.Steep, t.Up, t.Lifts, t.Stale, t.Given)) := by
        simp only [Rp]
        unfold Nh
        rw [if_pos h0]
      refine Ok.bind.2 (Vn hy ?_)
      rw [if_pos (by simp)]
      refine Ok.some.2 (exit _ (Ok.some.2 (Ok.some.2 ⟨fun _ => ?_, fun h => absurd hR h⟩)))
      rw [Zb7 (Z9b hA.run (by rw [he]; exact hL)) (by omega)]
      rfl
  · obtain rfl : k = l.length := by omega
    refine Ok.some.2 (Ok.some.2 ⟨fun _ => ?_, fun h => absurd hR h⟩)
    unfold Rs
    rw [hA.run]
theorem s_Tell2 {p : Pre} {l : List Evt} (r : Row n m L c) (hcap : ∀ j, j < L → cp c j ≤ 1125899906842624) (hl : l.length ≤ 200) :
    Ok (Lz c p l) (fun x => (RxOK n m L c p → x = Rs n c p l) ∧ (¬RxOK n m L c p → x = (⟨[], [], []⟩, Jc, 32))) := by
  have b := r.bd
  obtain ⟨lf, llh, llr, -, -, -⟩ := r.lens
  unfold Lz
  refine Ok.bind.2 (Ok.mono (Z9s r hcap) fun t ht => Ok.ite.2 ⟨fun h => Ok.some.2 ⟨fun h2 => ?_, fun _ => rfl⟩, fun h => ?_⟩)
  · rw [ht.2 h2] at h; simp at h
  have hR : RxOK n m L c p := ht.1 (by simpa using h)
  refine Ok.bind.2 (Vm (fun s => ∃ (k : Nat) (p1 : Pre) (t : Tale), s = (p1.Res, p1.Ex, p1.H, t.Pushes, t.Flat, t.Steep, t.Up, t.Lifts, t.Stale, t.Given, (k : Int)) ∧ k ≤ l.length ∧ At n m L c p l k p1 t) (fun s => (l.length - s.2.2.2.2.2.2.2.2.2.2).toNat) ⟨0, p, Jc, rfl, by omega, .start r hR⟩ (by unfold Yh; simp only; omega) ?_)
  rintro s ⟨k, p1, t, rfl, hk, hA⟩ P next exit
  simp only at next ⊢
  unfold Z33
  simp only [Int.toNat_natCast]
  refine Ok.ite.2 ⟨fun hx => ?_, fun hx => Ok.some.2 (exit _ ?_)⟩
  · have hkl : k < l.length := by omega
    obtain ⟨e, he⟩ : ∃ e, l.getD k default = e := ⟨_, rfl⟩
    have g1 := hA.st.len.r
    have g2 := hA.st.len.x
    have g3 := hA.st.len.h
    refine Ok.gd.2 ⟨by constructor <;> omega, Ok.bind.2 (Ok.mono (Z70 (p := p1) r hA.st.len) fun a ha => Ok.ite.2 ⟨fun h0 => ?_, fun h0 => ?_⟩)⟩
    · refine Ok.some.2 (exit _ (Ok.some.2 ⟨fun _ => ?_, fun h => absurd hR h⟩))
      rw [Zb7 (Z9b hA.run (fun h => h0 (ha.2 h))) (by omega)]
      rfl
    · rw [he] at ha
      have hL : LegP n c p1 e := ha.1 (by omega)
      have hn := hA.next r hcap (by rw [he]; exact hL)
      rw [he] at hn
      obtain ⟨ta, tb, tc, td, te, tf, tg⟩ := hA.tin
      obtain ⟨-, -, hD⟩ := hA.st.move r hcap hL
      rw [he]
      refine Ok.bind.2 (Vn (Z8z r hA.st.len (fun v hv => (hA.st.hb v hv).1) hL) ?_)
      have j6 : ∀ St Pu Fl Se Up Li Gi : Int, (⟨Pu, Fl, Se, Up, Li, St, Gi⟩ : Tale) = Xj c p1 e t → Ok (Rq c l p1.Res p1.Ex p1.H (k : Nat) St Pu Fl Se Up Li Gi) P := fun St Pu Fl Se Up Li Gi ht => by
        unfold Rq
        simp only [Int.toNat_natCast, he]
        refine Ok.bind.2 (Ok.mono (s_Move (p := p1) r hcap hA.st hL (by omega)) fun x hx => ?_)
        subst hx
        refine Ok.gd.2 ⟨by constructor <;> omega, Ok.some.2 (next _ ⟨k + 1, Ko c p1 e, Xj c p1 e t, ?_, by omega, hn⟩ (by simp only; omega))⟩
        rw [← ht]
        simp
      obtain ⟨u, eu, hu, har⟩ := hL.at r
      have j2 : ∀ st : Int, 0 ≤ st → st ≤ 1000 → st = (Xj c p1 e t).Stale → Ok (Z0w c l p1.Res p1.Ex p1.H t.Pushes t.Flat t.Steep t.Up t.Lifts t.Given (k : Nat) st) P := fun st s1 s2 s3 => by
        unfold Z0w
        simp only [Int.toNat_natCast, he]
        refine Ok.ite.2 ⟨fun h1 => Ok.gd.2 ⟨by constructor <;> omega, j6 _ _ _ _ _ _ _ ?_⟩, fun h1 => ?_⟩
        · rw [s3]; unfold Xj; rw [if_pos h1]
        · have h1' : e.What = 1 := by rcases hL.1 with h | h <;> omega
          obtain ⟨q, ea, haL, -⟩ := har h1'
          have k3 := r.head haL
          have hD := hD h1'
          have b1 := hA.st.hb u hu
          have b2 := hA.st.hb _ k3.2
          have i1 : inb (q : Int) L := by constructor <;> omega
          have i2 : inb (u : Int) m := by constructor <;> omega
          have i3 : inb ((hd c q : Nat) : Int) m := by constructor <;> omega
          have j5 : ∀ F S U : Int, F = (Xj c p1 e t).Flat → S = (Xj c p1 e t).Steep → U = (Xj c p1 e t).Up → Ok (Z0a c l p1.Res p1.Ex p1.H t.Pushes t.Lifts t.Given (k : Nat) st F S U) P := fun F S U hF hS hU => by
            unfold Z0a
            simp only [Int.toNat_natCast, he]
            refine Ok.ite.2 ⟨fun h2 => Ok.gd.2 ⟨by constructor <;> omega, j6 _ _ _ _ _ _ _ ?_⟩, fun h2 => j6 _ _ _ _ _ _ _ ?_⟩
            · rw [hF, hS, hU, s3]; unfold Xj; simp only [if_neg h1, if_pos h2]
            · rw [hF, hS, hU, s3]; unfold Xj; simp only [if_neg h1, if_neg h2]
          have j4 : ∀ F S : Int, F = (Xj c p1 e t).Flat → S = (Xj c p1 e t).Steep → Ok (Z13 c l p1.Res p1.Ex p1.H t.Pushes t.Up t.Lifts t.Given (k : Nat) st F S) P := fun F S hF hS => by
            unfold Z13
            simp only [Int.toNat_natCast, he, eu, ea, k3.1, g3]
            refine Ok.gd.2 ⟨i2, Ok.gd.2 ⟨i3, Ok.ite.2 ⟨fun h2 => Ok.gd.2 ⟨by constructor <;> omega, j5 _ _ _ hF hS ?_⟩, fun h2 => j5 _ _ _ hF hS ?_⟩⟩⟩
            · unfold Xj; simp only [if_neg h1, eu, ea, Int.toNat_natCast]; rw [if_pos (by omega)]
            · unfold Xj; simp only [if_neg h1, eu, ea, Int.toNat_natCast]; rw [if_neg (by omega)]
          have j3 : ∀ F : Int, F = (Xj c p1 e t).Flat → Ok (Z1m c l p1.Res p1.Ex p1.H t.Pushes t.Steep t.Up t.Lifts t.Given (k : Nat) st F) P := fun F hF => by
            unfold Z1m
            simp only [Int.toNat_natCast, he, eu, ea, k3.1, g3]
            refine Ok.gd.2 ⟨i2, Ok.gd.2 ⟨i3, Ok.gd.2 ⟨by constructor <;> omega, Ok.ite.2 ⟨fun h2 => Ok.gd.2 ⟨by constructor <;> omega, j4 _ _ hF ?_⟩, fun h2 => j4 _ _ hF ?_⟩⟩⟩⟩
            · unfold Xj; simp only [if_neg h1, eu, ea, Int.toNat_natCast]; rw [if_pos (by omega)]
            · unfold Xj; simp only [if_neg h1, eu, ea, Int.toNat_natCast]; rw [if_neg (by omega)]
          simp only [eu, ea, Int.toNat_natCast, k3.1, llh, g3]
          refine Ok.gd.2 ⟨by constructor <;> omega, Ok.gd.2 ⟨i1, Ok.gd.2 ⟨i2, Ok.gd.2 ⟨i3, Ok.gd.2 ⟨by constructor <;> omega, Ok.ite.2 ⟨fun h2 => Ok.gd.2 ⟨by constructor <;> omega, j3 _ ?_⟩, fun h2 => j3 _ ?_⟩⟩⟩⟩⟩⟩
          · unfold Xj; simp only [if_neg h1, eu, ea, Int.toNat_natCast]; rw [if_pos (by omega)]
          · unfold Xj; simp only [if_neg h1, eu, ea, Int.toNat_natCast]; rw [if_neg (by omega)]
      refine Ok.ite.2 ⟨fun h1 => Ok.gd.2 ⟨by constructor <;> omega, j2 _ (by omega) (by omega) ?_⟩, fun h1 => j2 _ (by omega) (by omega) ?_⟩
      · unfold Xj; split <;> simp only [if_pos h1]
      · unfold Xj; split <;> simp only [if_neg h1]
  · obtain rfl : k = l.length := by omega
    unfold Z5w
    refine Ok.some.2 ⟨fun _ => ?_, fun h => absurd hR h⟩
    unfold Rs
    rw [hA.run]
end row
end Go.Acq
namespace Go.Acq
open Go
theorem s_eq64 {a b : List Int} (h : a.length ≤ 100000000) : Z0b a b = some (decide (a = b)) := by
 refine Ug ?_
 unfold Z0b
 refine Ok.ite.2 ⟨fun hl => Ok.some.2 (decide_eq_false ?_).symm, fun hl => ?_⟩
 · rintro rfl; exact hl rfl
 ·
  refine Ok.bind.2 (Ok.loop (fun x => 0 ≤ x ∧ x ≤ a.length ∧ ∀ i, i < x.toNat → a.getD i 0 = b.getD i 0) (fun x => (a.length - x).toNat) ⟨by omega, by omega, fun i hi => by omega⟩ (by unfold Yh; omega) ?_)
  rintro x ⟨h0, h1, h2⟩
  unfold Z29
  refine Ok.ite.2 ⟨fun hx => ?_, fun hx => ?_⟩
  ·
   refine Ok.gd.2 ⟨(by omega), Ok.gd.2 ⟨(by omega), Ok.ite.2 ⟨fun hne => ?_, fun hne => ?_⟩⟩⟩
   ·
    refine Ok.some.2 (Ok.some.2 (decide_eq_false ?_).symm)
    rintro rfl; exact hne rfl
   ·
    refine Ok.gd.2 ⟨(by omega), Ok.some.2 ⟨⟨by omega, by omega, fun i hi => ?_⟩, by omega⟩⟩
    rcases Nat.lt_or_ge i x.toNat with h3 | h3
    · exact h2 i h3
    · rw [show i = x.toNat by omega]; exact Classical.not_not.1 hne
  ·
   refine Ok.some.2 (Ok.some.2 (decide_eq_true ?_).symm)
   exact Z1k 0 (by omega) (fun i hi => h2 i (by omega))
theorem s_eqI {a b : List Int} (h : a.length ≤ 100000000) : Z22 a b = some (decide (a = b)) := by
 refine Ug ?_
 unfold Z22
 refine Ok.ite.2 ⟨fun hl => Ok.some.2 (decide_eq_false ?_).symm, fun hl => ?_⟩
 · rintro rfl; exact hl rfl
 ·
  refine Ok.bind.2 (Ok.loop (fun x => 0 ≤ x ∧ x ≤ a.length ∧ ∀ i, i < x.toNat → a.getD i 0 = b.getD i 0) (fun x => (a.length - x).toNat) ⟨by omega, by omega, fun i hi => by omega⟩ (by unfold Yh; omega) ?_)
  rintro x ⟨h0, h1, h2⟩
  unfold Z30
  refine Ok.ite.2 ⟨fun hx => ?_, fun hx => ?_⟩
  ·
   refine Ok.gd.2 ⟨(by omega), Ok.gd.2 ⟨(by omega), Ok.ite.2 ⟨fun hne => ?_, fun hne => ?_⟩⟩⟩
   ·
    refine Ok.some.2 (Ok.some.2 (decide_eq_false ?_).symm)
    rintro rfl; exact hne rfl
   ·
    refine Ok.gd.2 ⟨(by omega), Ok.some.2 ⟨⟨by omega, by omega, fun i hi => ?_⟩, by omega⟩⟩
    rcases Nat.lt_or_ge i x.toNat with h3 | h3
    · exact h2 i h3
    · rw [show i = x.toNat by omega]; exact Classical.not_not.1 hne
  ·
   refine Ok.some.2 (Ok.some.2 (decide_eq_true ?_).symm)
   exact Z1k 0 (by omega) (fun i hi => h2 i (by omega))
theorem Z9z {a b : List Int} (h : a.length ≤ 100000000) : Z1h a b = some (decide (a = b)) := by
 refine Ug ?_
 unfold Z1h
 refine Ok.ite.2 ⟨fun hl => Ok.some.2 (decide_eq_false ?_).symm, fun hl => ?_⟩
 · rintro rfl; exact hl rfl
 ·
  refine Ok.bind.2 (Ok.loop (fun x => 0 ≤ x ∧ x ≤ a.length ∧ ∀ i, i < x.toNat → a.getD i 0 = b.getD i 0) (fun x => (a.length - x).toNat) ⟨by omega, by omega, fun i hi => by omega⟩ (by unfold Yh; omega) ?_)
  rintro x ⟨h0, h1, h2⟩
  unfold Z3o
  refine Ok.ite.2 ⟨fun hx => ?_, fun hx => ?_⟩
  ·
   refine Ok.gd.2 ⟨(by omega), Ok.gd.2 ⟨(by omega), Ok.ite.2 ⟨fun hne => ?_, fun hne => ?_⟩⟩⟩
   ·
    refine Ok.some.2 (Ok.some.2 (decide_eq_false ?_).symm)
    rintro rfl; exact hne rfl
   ·
    refine Ok.gd.2 ⟨(by omega), Ok.some.2 ⟨⟨by omega, by omega, fun i hi => ?_⟩, by omega⟩⟩
    rcases Nat.lt_or_ge i x.toNat with h3 | h3
    · exact h2 i h3
    · rw [show i = x.toNat by omega]; exact Classical.not_not.1 hne
  ·
   refine Ok.some.2 (Ok.some.2 (decide_eq_true ?_).symm)
   exact Z1k 0 (by omega) (fun i hi => h2 i (by omega))
theorem Zeb {a : List Evt} (h : a.length ≤ 100000000) : Z2z a a = some true := by
 refine Ug ?_
 unfold Z2z
 rw [if_neg (by simp)]
 refine Ok.bind.2 (Ok.loop (fun x => 0 ≤ x ∧ x ≤ a.length) (fun x => (a.length - x).toNat) ⟨by omega, by omega⟩ (by unfold Yh; omega) ?_)
 rintro x ⟨h0, h1⟩
 unfold Z43
 refine Ok.ite.2 ⟨fun hx => Ok.gd.2 ⟨(by omega), Ok.gd.2 ⟨(by omega), ?_⟩⟩, fun hx => Ok.some.2 (Ok.some.2 rfl)⟩
 rw [if_neg (by simp)]
 exact Ok.gd.2 ⟨(by omega), Ok.some.2 ⟨⟨by omega, by omega⟩, by omega⟩⟩
def chkF (x : Pre × Tale × Int) (q : Pre) : Int := if x.2.2 ≠ 0 then 32 else if x.1.Res = q.Res ∧ x.1.Ex = q.Ex ∧ x.1.H = q.H then 0 else 32
theorem s_Check1 {c : Csr} {p q : Pre} {l : List Evt} {x : Pre × Tale × Int} (h : Ld c p l = some x) (h1 : x.1.Res.length ≤ 100000000) (h2 : x.1.Ex.length ≤ 100000000) (h3 : x.1.H.length ≤ 100000000) : Z2g c p l q = some (chkF x q) := by
 unfold Z2g chkF
 rw [h]
 simp only [Option.bind_some, s_eq64 h1, s_eq64 h2, s_eqI h3]
 by_cases h0 : x.2.2 = 0
 ·
  simp only [h0, ne_eq, not_true_eq_false, if_false]
  by_cases e1 : x.1.Res = q.Res <;> by_cases e2 : x.1.Ex = q.Ex <;> by_cases e3 : x.1.H = q.H <;> simp [e1, e2, e3]
 · rw [if_pos h0, if_pos h0]
theorem s_Check2 {c : Csr} {p q : Pre} {l : List Evt} {x : Pre × Tale × Int} (h : Lz c p l = some x) (h1 : x.1.Res.length ≤ 100000000) (h2 : x.1.Ex.length ≤ 100000000) (h3 : x.1.H.length ≤ 100000000) : Z20 c p l q = some (chkF x q) := by
 unfold Z20 chkF
 rw [h]
 simp only [Option.bind_some, Z9z h1, Z9z h2]
 by_cases h0 : x.2.2 = 0
 ·
  simp only [h0, ne_eq, not_true_eq_false, if_false]
  by_cases e1 : x.1.Res = q.Res
  ·
   by_cases e2 : x.1.Ex = q.Ex
   ·
    rw [if_neg (by simp [e1]), if_neg (by simp [e2])]
    by_cases e3 : x.1.H.length = q.H.length
    ·
     rw [if_neg (by omega)]
     refine Ug (Ok.bind.2 (Ok.loop (fun k => 0 ≤ k ∧ k ≤ x.1.H.length ∧ ∀ i, i < k.toNat → x.1.H.getD i 0 = q.H.getD i 0) (fun k => (x.1.H.length - k).toNat) ⟨by omega, by omega, fun i hi => by omega⟩ (by unfold Yh; omega) ?_))
     rintro k ⟨g0, g1, g2⟩
     unfold Z2t
     refine Ok.ite.2 ⟨fun hx => Ok.gd.2 ⟨(by omega), Ok.gd.2 ⟨(by omega), Ok.ite.2 ⟨fun hne => Ok.some.2 (Ok.some.2 ?_), fun hne => Ok.gd.2 ⟨(by omega), Ok.some.2 ⟨⟨by omega, by omega, fun i hi => ?_⟩, by omega⟩⟩⟩⟩⟩, fun hx => ?_⟩
     · rw [if_neg (fun h => hne (by rw [h.2.2]))]
     ·
      rcases Nat.lt_or_ge i k.toNat with h4 | h4
      · exact g2 i h4
      · rw [show i = k.toNat by omega]; exact Classical.not_not.1 hne
     ·
      unfold Z5u
      refine Ok.some.2 (Ok.some.2 ?_)
      rw [if_pos ⟨e1, e2, Z1k 0 e3 (fun i hi => g2 i (by omega))⟩]
    · rw [if_pos (by omega), if_neg (fun h => e3 (by rw [h.2.2]))]
   · rw [if_neg (by simp [e1]), if_pos (by simp [e2]), if_neg (fun h => e2 h.2.1)]
  · rw [if_pos (by simp [e1]), if_neg (fun h => e1 h.1)]
 · rw [if_pos h0, if_pos h0]
def Xw (l : List Evt) (w : Nat) : Nat → List Work
  | 0 => List.replicate w default
  | k + 1 => if 0 ≤ (l.getD k default).Who ∧ (l.getD k default).Who < w then
      (if (l.getD k default).What = 1 then (Xw l w k).set (l.getD k default).Who.toNat ⟨((Xw l w k).getD (l.getD k default).Who.toNat default).Pushes + 1, ((Xw l w k).getD (l.getD k default).Who.toNat default).Lifts⟩
      else if (l.getD k default).What = 2 then (Xw l w k).set (l.getD k default).Who.toNat ⟨((Xw l w k).getD (l.getD k default).Who.toNat default).Pushes, ((Xw l w k).getD (l.getD k default).Who.toNat default).Lifts + 1⟩ else Xw l w k) else Xw l w k
theorem Lg {l : List Evt} {w : Nat} : ∀ k, (Xw l w k).length = w
 | 0 => by simp [Xw]
 | k + 1 => by
  unfold Xw
  split
  ·
   split
   · rw [List.length_set, Lg k]
   ·
    split
    · rw [List.length_set, Lg k]
    · exact Lg k
  · exact Lg k
theorem Z6g {l : List Evt} {w : Nat} : ∀ k i, 0 ≤ ((Xw l w k).getD i default).Pushes ∧ ((Xw l w k).getD i default).Pushes ≤ k ∧ 0 ≤ ((Xw l w k).getD i default).Lifts ∧ ((Xw l w k).getD i default).Lifts ≤ k
 | 0, i => by
  rw [show Xw l w 0 = List.replicate w default from rfl, Z40]
  exact ⟨Int.le_refl _, Int.le_refl _, Int.le_refl _, Int.le_refl _⟩
 | k + 1, i => by
  have h0 := Z6g (l := l) (w := w) k i
  have h1 := Z6g (l := l) (w := w) k (l.getD k default).Who.toNat
  unfold Xw
  split
  ·
   split
   ·
    rw [Vp]; split
    · simp only; omega
    · omega
   ·
    split
    ·
     rw [Vp]; split
     · simp only; omega
     · omega
    · omega
  · omega
theorem s_Whose1 {l : List Evt} {w : Nat} (hl : l.length ≤ 200) (h1 : 1 ≤ w) (h2 : w ≤ 64) : Ll l w = some (Xw l w l.length) := by
 refine Ug ?_
 unfold Ll
 rw [if_neg (by omega), if_neg (by omega)]
 simp only [Int.toNat_natCast]
 refine Ok.gd.2 ⟨by constructor <;> omega, Ok.bind.2 (Vm (fun s => ∃ k : Nat, s = (Xw l w k, (k : Int)) ∧ k ≤ l.length) (fun s => (l.length - s.2).toNat) ⟨0, rfl, by omega⟩ (by unfold Yh; simp only; omega) ?_)⟩
 rintro s ⟨k, rfl, hk⟩ P next exit
 simp only at next ⊢
 unfold Z27
 simp only [Int.toNat_natCast]
 refine Ok.ite.2 ⟨fun hx => ?_, fun hx => ?_⟩
 ·
  obtain ⟨e, he⟩ : ∃ e, l.getD k default = e := ⟨_, rfl⟩
  have hlen := Lg (l := l) (w := w) k
  have hb := Z6g (l := l) (w := w) k e.Who.toNat
  have nx : ∀ ys, ys = Xw l w (k + 1) → Ok (gd (i64ok ((k : Int) + 1)) <| some (.inl (ys, (k : Int) + 1))) P := fun ys hy => Ok.gd.2 ⟨by constructor <;> omega, Ok.some.2 (next _ ⟨k + 1, by rw [hy]; simp, by omega⟩ (by simp only; omega))⟩
  have j2 : ∀ t : Bool, (t = true ↔ ¬(0 ≤ e.Who ∧ e.Who < w)) → Ok (Z1q l (Xw l w k) (k : Nat) t) P := fun t ht => by
   unfold Z1q
   simp only [Int.toNat_natCast, he]
   refine Ok.ite.2 ⟨fun h => nx _ ?_, fun h => ?_⟩
   · simp only [Xw, he]; rw [if_neg (ht.1 h)]
   ·
    have hw : 0 ≤ e.Who ∧ e.Who < w := Classical.not_not.1 fun h2 => h (ht.2 h2)
    refine Ok.ite.2 ⟨fun h3 => ?_, fun h3 => Ok.ite.2 ⟨fun h4 => ?_, fun h4 => nx _ ?_⟩⟩
    ·
     refine Ok.gd.2 ⟨by constructor <;> omega, Ok.gd.2 ⟨by constructor <;> omega, Ok.gd.2 ⟨by constructor <;> omega, nx _ ?_⟩⟩⟩
     simp only [Xw, he]; rw [if_pos hw, if_pos h3]
    ·
     refine Ok.gd.2 ⟨by constructor <;> omega, Ok.gd.2 ⟨by constructor <;> omega, Ok.gd.2 ⟨by constructor <;> omega, nx _ ?_⟩⟩⟩
     simp only [Xw, he]; rw [if_pos hw, if_neg h3, if_pos h4]
    · simp only [Xw, he]; rw [if_pos hw, if_neg h3, if_neg h4]
  simp only [Int.toNat_natCast, he]
  refine Ok.gd.2 ⟨by constructor <;> omega, Ok.ite.2 ⟨fun h => j2 _ ⟨fun _ h2 => by omega, fun _ => rfl⟩, fun h => j2 _ ⟨fun h2 h3 => ?_, fun h2 => decide_eq_true ?_⟩⟩⟩
  · have := of_decide_eq_true h2; omega
  · omega
 ·
  obtain rfl : k = l.length := by omega
  refine Ok.some.2 (exit _ ?_)
  unfold Z5z
  exact Ok.some.2 rfl
theorem s_Whose2 {l : List Evt} {w : Nat} (hl : l.length ≤ 200) (h1 : 1 ≤ w) (h2 : w ≤ 64) : Ln l w = some (Xw l w l.length) := by
 refine Ug ?_
 unfold Ln
 rw [if_neg (by omega), if_neg (by omega)]
 simp only [Int.toNat_natCast]
 refine Ok.gd.2 ⟨by constructor <;> omega, Ok.bind.2 (Vm (fun s => ∃ k : Nat, s = (Xw l w k, (k : Int)) ∧ k ≤ l.length) (fun s => (l.length - s.2).toNat) ⟨0, rfl, by omega⟩ (by unfold Yh; simp only; omega) ?_)⟩
 rintro s ⟨k, rfl, hk⟩ P next exit
 simp only at next ⊢
 unfold Z35
 refine Ok.ite.2 ⟨fun hx => ?_, fun hx => ?_⟩
 ·
  obtain ⟨e, he⟩ : ∃ e, l.getD k default = e := ⟨_, rfl⟩
  have hlen := Lg (l := l) (w := w) k
  have hlen1 := Lg (l := l) (w := w) (k + 1)
  refine Ok.bind.2 (Vm (fun s => ∃ i : Nat, s = (if 0 ≤ e.Who ∧ e.Who < i then Xw l w (k + 1) else Xw l w k, (i : Int)) ∧ i ≤ w) (fun s => (w - s.2).toNat) ⟨0, by rw [if_neg (by omega)]; rfl, by omega⟩ (by unfold Yh; simp only; omega) ?_)
  rintro s ⟨i, rfl, hi⟩ P' next' exit'
  simp only at next' ⊢
  unfold Z28
  simp only [Int.toNat_natCast, he]
  refine Ok.ite.2 ⟨fun hxx => ?_, fun hxx => ?_⟩
  ·
   have hb := Z6g (l := l) (w := w) k i
   have j5 : ∀ (ys : List Work) (t : Bool), ys.length = w → (t = true → i64ok ((ys.getD i default).Lifts + 1)) → (if t = true then ys.set i ⟨(ys.getD i default).Pushes, (ys.getD i default).Lifts + 1⟩ else ys) = (if 0 ≤ e.Who ∧ e.Who < ((i + 1 : Nat) : Int) then Xw l w (k + 1) else Xw l w k) → Ok (Z0r (i : Nat) ys t) P' := fun ys t hy hg hr => by
    unfold Z0r
    simp only [Int.toNat_natCast]
    refine Ok.ite.2 ⟨fun h => Ok.gd.2 ⟨by constructor <;> omega, Ok.gd.2 ⟨hg h, Ok.gd.2 ⟨by constructor <;> omega, Ok.gd.2 ⟨by constructor <;> omega, Ok.some.2 (next' _ ⟨i + 1, ?_, by omega⟩ (by simp only; omega))⟩⟩⟩⟩, fun h => Ok.gd.2 ⟨by constructor <;> omega, Ok.some.2 (next' _ ⟨i + 1, ?_, by omega⟩ (by simp only; omega))⟩⟩
    · rw [if_pos h] at hr; rw [← hr]; simp
    · rw [if_neg h] at hr; rw [← hr]; simp
   by_cases hw : e.Who = (i : Int)
   ·
    have e0 : (if 0 ≤ e.Who ∧ e.Who < (i : Int) then Xw l w (k + 1) else Xw l w k) = Xw l w k := if_neg (by omega)
    have e1 : (if 0 ≤ e.Who ∧ e.Who < ((i + 1 : Nat) : Int) then Xw l w (k + 1) else Xw l w k) = Xw l w (k + 1) := if_pos (by omega)
    have ei : e.Who.toNat = i := by omega
    have ek : Xw l w (k + 1) = if e.What = 1 then (Xw l w k).set i ⟨((Xw l w k).getD i default).Pushes + 1, ((Xw l w k).getD i default).Lifts⟩ else if e.What = 2 then (Xw l w k).set i ⟨((Xw l w k).getD i default).Pushes, ((Xw l w k).getD i default).Lifts + 1⟩ else Xw l w k := by
     simp only [Xw, he]; rw [if_pos (by omega), ei]
    rw [e0, if_pos hw]
    have j4 : ∀ ys : List Work, ys.length = w → (e.What = 2 → i64ok ((ys.getD i default).Lifts + 1)) → (if e.What = 2 then ys.set i ⟨(ys.getD i default).Pushes, (ys.getD i default).Lifts + 1⟩ else ys) = Xw l w (k + 1) → Ok (Z04 l (k : Nat) (i : Nat) ys) P' := fun ys hy hg hr => by
     unfold Z04
     simp only [Int.toNat_natCast, he]
     rw [if_pos hw]
     refine Ok.gd.2 ⟨by constructor <;> omega, Ok.gd.2 ⟨by constructor <;> omega, j5 ys _ hy (fun h => hg (of_decide_eq_true h)) ?_⟩⟩
     rw [e1, ← hr]
     simp only [decide_eq_true_eq]
    have j3 : ∀ t : Bool, (t = true ↔ e.What = 1) → Ok (Z08 l (k : Nat) (Xw l w k) (i : Nat) t) P' := fun t ht => by
     unfold Z08
     simp only [Int.toNat_natCast]
     refine Ok.ite.2 ⟨fun h => Ok.gd.2 ⟨by constructor <;> omega, Ok.gd.2 ⟨by constructor <;> omega, Ok.gd.2 ⟨by constructor <;> omega, j4 _ (by rw [List.length_set]; exact hlen) (fun h3 => ?_) ?_⟩⟩⟩, fun h => j4 _ hlen (fun h3 => by constructor <;> omega) ?_⟩
     · have := ht.1 h; omega
     ·
      have h1 := ht.1 h
      rw [ek, if_pos h1, if_neg (by omega)]
     · rw [ek, if_neg fun h1 => h (ht.2 h1)]
    exact Ok.gd.2 ⟨by constructor <;> omega, Ok.gd.2 ⟨by constructor <;> omega, j3 _ ⟨fun h => of_decide_eq_true h, fun h => decide_eq_true h⟩⟩⟩
   ·
    have e0 : (if 0 ≤ e.Who ∧ e.Who < ((i + 1 : Nat) : Int) then Xw l w (k + 1) else Xw l w k) = (if 0 ≤ e.Who ∧ e.Who < (i : Int) then Xw l w (k + 1) else Xw l w k) := by
     by_cases h : 0 ≤ e.Who ∧ e.Who < (i : Int)
     · rw [if_pos h, if_pos (by omega)]
     · rw [if_neg h, if_neg (by omega)]
    rw [if_neg hw]
    refine Ok.gd.2 ⟨by constructor <;> omega, ?_⟩
    unfold Z08
    rw [if_neg (by simp)]
    unfold Z04
    simp only [Int.toNat_natCast, he]
    rw [if_neg hw]
    refine Ok.gd.2 ⟨by constructor <;> omega, j5 _ _ (by split <;> assumption) (fun h => (by cases h)) ?_⟩
    rw [if_neg (by simp), e0]
  ·
   obtain rfl : i = w := by omega
   refine Ok.some.2 (exit' _ ?_)
   unfold Z5j
   refine Ok.gd.2 ⟨by constructor <;> omega, Ok.some.2 (next _ ⟨k + 1, ?_, by omega⟩ (by simp only; omega))⟩
   by_cases h : 0 ≤ e.Who ∧ e.Who < (i : Int)
   · rw [if_pos h]; simp
   ·
    rw [if_neg h]
    have : Xw l i (k + 1) = Xw l i k := by simp only [Xw, he]; rw [if_neg h]
    rw [this]; simp
 ·
  obtain rfl : k = l.length := by omega
  refine Ok.some.2 (exit _ ?_)
  unfold Z5l
  exact Ok.some.2 rfl
end Go.Acq
namespace Go.Acq
open Go
theorem Z9t {p : Pre} (h1 : lenok p.Res.length) (h2 : lenok p.Ex.length) (h3 : lenok p.H.length) : Z0h p p = some true := by
 unfold Z0h
 simp [Zac h1, Zac h2, s_Ints h3]
theorem s_TTs1 {a : List Work} (h : a.length ≤ 64) {Q : Bool ⊕ Unit → Prop} (q : Q (.inr ())) : Ok (Yw (fun s => Rh a a s) Yh 0) Q := by
 refine Ok.loop (fun x => 0 ≤ x ∧ x ≤ a.length) (fun x => (a.length - x).toNat) ⟨by omega, by omega⟩ (by unfold Yh; omega) ?_
 rintro x ⟨h0, h1⟩
 unfold Rh
 refine Ok.ite.2 ⟨fun hx => Ok.gd.2 ⟨(by omega), Ok.gd.2 ⟨(by omega), ?_⟩⟩, fun hx => Ok.some.2 q⟩
 rw [if_neg (by simp)]
 exact Ok.gd.2 ⟨(by omega), Ok.some.2 ⟨⟨by omega, by omega⟩, by omega⟩⟩
theorem mvP_len {m L : Nat} {c : Csr} {p : Pre} {e : Evt} (h : PLen m L p) : PLen m L (Ko c p e) := by
 unfold Ko
 split
 · exact ⟨h.r, h.x, by simp [h.h]⟩
 · exact ⟨by simp [h.r], by simp [h.x], h.h⟩
theorem Z8k {m L : Nat} {n : Net} {c : Csr} {p : Pre} {l : List Evt} (h : PLen m L p) : ∀ (k : Nat) (q : Pre) (t : Tale), Kr n c p l k = some (q, t) → PLen m L q
 | 0, q, t, e => by
  simp only [Kr] at e
  injection e with e; injection e with e1 e2; subst e1; exact h
 | k + 1, q, t, e => by
  simp only [Kr] at e
  split at e
  · cases e
  ·
   rename_i q' t' hk
   split at e
   ·
    injection e with e; injection e with e1 e2; subst e1
    exact mvP_len (Z8k h k _ _ hk)
   · cases e
section row
variable {n : Net} {m L : Nat} {c : Csr}
theorem s_TTell {p : Pre} {l : List Evt} (r : Row n m L c) (hcap : ∀ j, j < L → cp c j ≤ 1125899906842624) (h64 : ∀ v, v < p.Ex.length → i64ok (p.Ex.getD v 0)) (hl : l.length ≤ 200) :
    ∃ x, Ld c p l = some x ∧ Lz c p l = some x ∧ x.1.Res.length ≤ 100000000 ∧ x.1.Ex.length ≤ 100000000 ∧ x.1.H.length ≤ 100000000 := by
  have b := r.bd
  obtain ⟨x, h1, h2, h3⟩ := s_Tell1 (p := p) r hcap h64 hl
  obtain ⟨y, g1, g2, g3⟩ := s_Tell2 (p := p) r hcap hl
  by_cases hR : RxOK n m L c p
  · have e : x = y := (h2 hR).trans (g2 hR).symm
    subst e
    refine ⟨x, h1, g1, ?_⟩
    have ex := h2 hR
    unfold Rs at ex
    split at ex
    · rename_i q t hq
      have hp := Z8k ⟨hR.lr, hR.lx, hR.lh⟩ _ _ _ hq
      subst ex
      have a1 := hp.r
      have a2 := hp.x
      have a3 := hp.h
      simp only
      omega
    · subst ex; simp
  · have e : x = y := (h3 hR).trans (g3 hR).symm
    subst e
    refine ⟨x, h1, g1, ?_⟩
    rw [h3 hR]; simp
theorem s_TTj4 {p : Pre} {l : List Evt} (h1 : p.Res.length ≤ 1048576) (h2 : p.Ex.length ≤ 1048576) (h3 : p.H.length ≤ 1048576) : Rn p l p = some true := by
 have hl : (l.take (min (l.length : Int) 200).toNat).length ≤ 200 := by rw [List.length_take]; omega
 unfold Rn
 rw [Z9t (by omega) (by omega) (by omega)]
 simp only [Option.bind_some, if_true]
 rw [Zeb (by omega)]
 rfl
theorem s_TTj2 {p : Pre} {l : List Evt} (r : Row n m L c) (hcap : ∀ j, j < L → cp c j ≤ 1125899906842624) (h1 : p.Res.length ≤ 1048576) (h2 : p.Ex.length ≤ 1048576) (h3 : p.H.length ≤ 1048576) : Ok (Z1x p l c p) (fun b => b = true) := by
 have b := r.bd
 have j4 : Ok (Rn p l p) (fun b => b = true) := ⟨true, s_TTj4 h1 h2 h3, rfl⟩
 unfold Z1x
 refine Ok.bind.2 (Ok.mono (Z9s r hcap) fun t ht => Ok.ite.2 ⟨fun h => ?_, fun h => j4⟩)
 have hR := ht.1 h
 have hp : PLen m L p := ⟨hR.lr, hR.lx, hR.lh⟩
 obtain ⟨l', hl'⟩ : ∃ l', l.take (min (l.length : Int) 200).toNat = l' := ⟨_, rfl⟩
 have hl : l'.length ≤ 200 := by rw [← hl', List.length_take]; omega
 refine Ok.bind.2 (Vm (fun x => ∃ k : Nat, x = k ∧ k ≤ l'.length) (fun x => (l'.length - x).toNat) ⟨0, rfl, by omega⟩ (by unfold Yh; omega) ?_)
 rintro x ⟨k, rfl, hk⟩ P next exit
 unfold Z3h
 simp only [hl', Int.toNat_natCast]
 obtain ⟨e, he⟩ : ∃ e, l'.getD k default = e := ⟨_, rfl⟩
 simp only [he]
 refine Ok.ite.2 ⟨fun hx => Ok.gd.2 ⟨by constructor <;> omega, Ok.bind.2 (Ok.mono (Z70 (p := p) r hp) fun a ha => ?_)⟩, fun hx => Ok.some.2 (exit _ j4)⟩
 have nx : Ok (gd (i64ok ((k : Int) + 1)) <| some (.inl ((k : Int) + 1))) P := Ok.gd.2 ⟨by constructor <;> omega, Ok.some.2 (next _ ⟨k + 1, by simp, by omega⟩ (by omega))⟩
 refine Ok.ite.2 ⟨fun h0 => ?_, fun h0 => nx⟩
 have hL := ha.1 h0
 refine Ok.bind.2 (Vn (Z9r r hp (fun v hv => (hR.hb v hv).1) hL) (Ok.bind.2 (Vn (Z8z r hp (fun v hv => (hR.hb v hv).1) hL) ?_)))
 rw [if_neg (by simp)]
 exact nx
end row
theorem p_TraceTells {n : Net} {p q : Pre} {l : List Evt} {w : Int} (hn : NetIn n) (h1 : p.Res.length ≤ 1048576) (h2 : p.Ex.length ≤ 1048576) (h3 : p.H.length ≤ 1048576) (hx : ∀ y, y ∈ p.Ex → i64ok y) : Z67 n p q l w = some true := by
 refine Ug ?_
 unfold Z67
 refine Ok.bind.2 (Ok.mono (s_Some hn (by omega) (by omega) (by omega) (by omega)) fun q' hr => ?_)
 obtain ⟨m, hm, hso⟩ := hr.nat
 have hlen := hr.arcs
 refine Ok.bind.2 (Ok.mono (s_rMake hm hr.check) ?_)
 rintro ⟨c, e⟩ ⟨hc, h0⟩
 simp only at hc h0 ⊢
 subst h0
 have r := row_of hc hm hr.check
 obtain ⟨L, hL⟩ : ∃ L, Yl q'.Arcs m = L := ⟨_, rfl⟩
 rw [hL] at r
 have hcap : ∀ j, j < L → cp c j ≤ 1125899906842624 := fun j hj => by
  obtain ⟨i, s, hi, hne, hp, -⟩ := r.at hj
  rw [← hp, (r.cpPos hi hne s).1]
  have := (Made.caps hso i hi).2
  omega
 have h64 : ∀ v, v < p.Ex.length → i64ok (p.Ex.getD v 0) := fun v hv => hx _ (Rb hv 0)
 obtain ⟨l', hl'⟩ : ∃ l', l.take (min (l.length : Int) 200).toNat = l' := ⟨_, rfl⟩
 have hl : l'.length ≤ 200 := by rw [← hl', List.length_take]; omega
 obtain ⟨⟨x1, x2, x3⟩, t1, t2, t3, t4, t5⟩ := s_TTell (p := p) (l := l') r hcap h64 hl
 have hj2 := s_TTj2 (p := p) (l := l) r hcap h1 h2 h3
 rw [if_neg (by simp)]
 simp only [hl']
 refine Ok.gd.2 ⟨by omega, Ok.bind.2 (Vn (v := p) ?_ (Ok.gd.2 ⟨by omega, Ok.bind.2 (Vn t1 (Ok.bind.2 (Vn t2 ?_)))⟩))⟩
 ·
  unfold Z5s
  rw [Ke (by constructor <;> omega), Ke (by constructor <;> omega), Ke (by constructor <;> omega)]
 simp only
 rw [if_neg (by simp), if_neg (by simp)]
 refine Ok.bind.2 (Vn (Z9t (by simp only at t3; omega) (by simp only at t4; omega) (by simp only at t5; omega)) ?_)
 rw [if_neg (by simp)]
 refine Ok.bind.2 (Vn (s_Check1 t1 t3 t4 t5) (Ok.bind.2 (Vn (s_Check2 t2 t3 t4 t5) ?_)))
 rw [if_neg (by simp)]
 have fin : ∀ a : List Work, a.length ≤ 64 → Ll l' w = some a → Ln l' w = some a → Ok (Option.bind (Ll l' w) fun r197 => Option.bind (Ln l' w) fun r208 => if (r197.length : Int) ≠ (r208.length : Int) then some false else Option.bind (Yw (fun s => Rh r197 r208 s) Yh 0) fun o => match o with | .inl p1_0_0 => (some p1_0_0) | .inr () => (Z1x p l c p)) (fun b => b = true) := fun a ha e1 e2 => by
  refine Ok.bind.2 (Vn e1 (Ok.bind.2 (Vn e2 ?_)))
  rw [if_neg (by simp)]
  exact Ok.bind.2 (s_TTs1 ha hj2)
 by_cases hw : 1 ≤ w ∧ w ≤ 64
 ·
  obtain ⟨k, rfl⟩ : ∃ k : Nat, w = k := ⟨w.toNat, by omega⟩
  exact fin _ (by rw [Lg]; omega) (s_Whose1 hl (by omega) (by omega)) (s_Whose2 hl (by omega) (by omega))
 ·
  refine fin [] (by simp) ?_ ?_
  ·
   unfold Ll
   by_cases h : w < 1
   · rw [if_pos h]
   · rw [if_neg h, if_pos (by omega)]
  ·
   unfold Ln
   by_cases h : w < 1
   · rw [if_pos h]
   · rw [if_neg h, if_pos (by omega)]
end Go.Acq
namespace Go.Acq
open Go Go.ChangeShapes Go.WideShapes Go.ChangeAt Go.RowKit Go.Deep
section
variable {H : Type} {enc : TypeId × Value → H} {P : Program} {w : World} {base : Nat} {spare : Nat → Bool} {held : Bool}
theorem open_evts {t e : TypeId} {fs : Array Field} {f0 f1 f2 f3 f4 f5 f6 : Field} {fuel : Nat} {v : Value} {x : DataW H × List MemPlace} (ht : P.underlying t = some (.slice e)) (he : P.underlying e = some (.struct fs)) (hfs : fs = #[f0, f1, f2, f3, f4, f5, f6])
    (hone : oneCellFields P fs = true) (hC : P.cellsOf e = fs.size) (k0 : P.underlying f0.type = some (.int .i64)) (k1 : P.underlying f1.type = some (.int .u8)) (k2 : P.underlying f2.type = some (.int .i64)) (k3 : P.underlying f3.type = some (.int .i64)) (k4 : P.underlying f4.type = some (.int .i64)) (k5 : P.underlying f5.type = some (.int .i64)) (k6 : P.underlying f6.type = some (.int .i64))
    (h : DataW.trod enc P w base spare held fuel t [v] = some x) :
    ∃ (b : Option Addr) (n c : Nat) (al : List Evt), v = .slice b n c ∧ RO w Um 7 b n al ∧ n ≤ c ∧ n ≤ 9223372036854775807 := by
  rcases Zb6 ht he hone hC h with ⟨hcs, _⟩ | ⟨a, l, c, m, D, Pl, hcs, _, hl, hm, hmm, _, hi⟩
  · injection hcs with h1 _
    exact ⟨none, 0, 0, [], h1, Z4r w (fun _ => rfl), Nat.le_refl _, by omega⟩
  · injection hcs with h1 _
    have hlm : l ≤ m := by rw [hmm]; split <;> omega
    have key : ∀ i, i < l → ∃ q : Evt, w.cell? (a.add (i * 7 + 0)) = some (.int .i64 q.Who) ∧ w.cell? (a.add (i * 7 + 1)) = some (.int .u8 q.What) ∧ w.cell? (a.add (i * 7 + 2)) = some (.int .i64 q.U) ∧ w.cell? (a.add (i * 7 + 3)) = some (.int .i64 q.Arc) ∧ w.cell? (a.add (i * 7 + 4)) = some (.int .i64 q.D) ∧ w.cell? (a.add (i * 7 + 5)) = some (.int .i64 q.H) ∧ w.cell? (a.add (i * 7 + 6)) = some (.int .i64 q.Low) := by
      intro i hil
      obtain ⟨ys, n, _, _, _, hf⟩ := hi i (by omega)
      subst hfs
      obtain ⟨v0, y0, c0, _, t0⟩ := hf 0 f0 rfl
      obtain ⟨v1, y1, c1, _, t1⟩ := hf 1 f1 rfl
      obtain ⟨v2, y2, c2, _, t2⟩ := hf 2 f2 rfl
      obtain ⟨v3, y3, c3, _, t3⟩ := hf 3 f3 rfl
      obtain ⟨v4, y4, c4, _, t4⟩ := hf 4 f4 rfl
      obtain ⟨v5, y5, c5, _, t5⟩ := hf 5 f5 rfl
      obtain ⟨v6, y6, c6, _, t6⟩ := hf 6 f6 rfl
      obtain ⟨n0, e0, _, _⟩ := DataW.trod_int k0 t0
      obtain ⟨n1, e1, _, _⟩ := DataW.trod_int k1 t1
      obtain ⟨n2, e2, _, _⟩ := DataW.trod_int k2 t2
      obtain ⟨n3, e3, _, _⟩ := DataW.trod_int k3 t3
      obtain ⟨n4, e4, _, _⟩ := DataW.trod_int k4 t4
      obtain ⟨n5, e5, _, _⟩ := DataW.trod_int k5 t5
      obtain ⟨n6, e6, _, _⟩ := DataW.trod_int k6 t6
      injection e0 with e0 _; injection e1 with e1 _; injection e2 with e2 _; injection e3 with e3 _; injection e4 with e4 _; injection e5 with e5 _; injection e6 with e6 _
      subst e0; subst e1; subst e2; subst e3; subst e4; subst e5; subst e6
      exact ⟨⟨n0, n1, n2, n3, n4, n5, n6⟩, c0, c1, c2, c3, c4, c5, c6⟩
    let g : Nat → Evt := fun i => if hil : i < l then Classical.choose (key i hil) else default
    have hg : ∀ i (hil : i < l), g i = Classical.choose (key i hil) := fun i hil => by simp only [g, dif_pos hil]
    refine ⟨some a, l, c, (List.range l).map g, h1, ⟨by simp, (fun e => by cases e), fun _ => rfl, fun o q ho hq x hx => ?_⟩, hl, by unfold maxLen at hm; omega⟩
    simp only [List.length_map, List.length_range] at ho
    have hs := Classical.choose_spec (key o ho)
    rw [← hg o ho] at hs
    have hxo : x = g o := by
      rw [List.getElem?_map, List.getElem?_range ho] at hx
      simpa using hx.symm
    subst hxo
    rcases (show q = 0 ∨ q = 1 ∨ q = 2 ∨ q = 3 ∨ q = 4 ∨ q = 5 ∨ q = 6 by omega) with rfl | rfl | rfl | rfl | rfl | rfl | rfl
    · exact hs.1
    · exact hs.2.1
    · exact hs.2.2.1
    · exact hs.2.2.2.1
    · exact hs.2.2.2.2.1
    · exact hs.2.2.2.2.2.1
    · exact hs.2.2.2.2.2.2
end
end Go.Acq
