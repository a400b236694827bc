/- Texts of this claim, one behind the other. -/
import Derived.Test.YtfdhelnfgfaeaaaA2
import Derived.Test.YtfdhelnfgfaeaaaA4
import Derived.Test.YtfdhelnfgfaeaaaA1
set_option linter.unusedVariables false
set_option linter.unusedSimpArgs false
namespace Go.Proofs.Ytfdhelnfgfaeaaa.Ax
open Go Go.Acq Go.RowKit Go.Proofs
set_option maxHeartbeats 8000000
set_option maxRecDepth 20000
theorem Zji : Ys Try.prog 103 = true := by kernel_rfl
theorem Zgk : Ys Try.prog 104 = true := by kernel_rfl
theorem Zkr : Ys Try.prog 105 = true := by kernel_rfl
theorem Ziu : Ys Try.prog 15 = true := by kernel_rfl
theorem Zbl : Ys Try.prog 44 = true := by kernel_rfl
theorem Z9y : Ys Try.prog 45 = true := by kernel_rfl
theorem Zj3 : Ys Try.prog 68 = true := by kernel_rfl
theorem Z9l : Wx Try.prog 70 = some 5 := by kernel_rfl
theorem Zd9 : Xt Try.prog 5 = some 1 := by kernel_rfl
theorem TWZMV.o5 : (Try.prog.underlying 5).isSome = true := by kernel_rfl
theorem TWZMV.s5 : Vc Try.prog 5 = true := by kernel_rfl
theorem Zlb {n0 : Net} {moves1 : List Int} {c8 f0 : Option Addr} {d0 c9 l1 e9 : Nat} (w : World) (w0 : RS w [] Xa 3 c8 d0 c9 n0.Arcs) (e1 : RS w [] (intC .u8) 1 f0 l1 e9 moves1) {r0 : Net} {r1 : List Int} {r2 : Bool} (H : Z3g n0 moves1 = some (r0, r1, r2)) : Fnc Try.prog 68 #[.agg #[iV n0.N, iV n0.S, iV n0.T, .slice c8 d0 c9], .slice f0 l1 e9] w [] (fun v N => ∃ (y9 : Option Nat) (D2 D3 : Nat) (G9 : List Value), v = .tuple #[.agg #[iV r0.N, iV r0.S, iV r0.T, .slice c8 d0 c9], sV y9 D2 D3, .bool r2] ∧ N = [(eI y9 r1 G9 2)] ∧ r1.length = D2 ∧ D2 ≤ D3 ∧ G9.length = (D3 - D2) * 1 ∧ (y9 = none → D3 = 0)) := by
 unfold Z3g at H; refine Fnc.enter (vs := [.agg #[iV n0.N, iV n0.S, iV n0.T, .slice c8 d0 c9], .slice f0 l1 e9]) Try.func68 rfl rfl (Inv.refl w) (sR Y4 rfl (Xo Za ?_)); intro b1; refine Wp Ya Z3t ?_; intro b3; refine Ye Za (aN Za (Zl ?_)); obtain ⟨⟨r5, r6⟩, e7, H⟩ := Zv H; refine rG Y8 rfl (Yl Za Xh Yi rfl ?_); refine Yf Z9m Za (fun wc hwc => Z6o (n0 := n0) wc (w0.mono hwc) e7) ?_; rintro _ _ ⟨o8, n9, w6, w7, f5, w8, w9, x2, f6, x3, x4, x5, f7, x6, c22, x7, f8, x8, c26, x9, f9, n29, c30, y0, rfl, rfl, q7, q8, I2, q9, r3, r4, I3, r7, r8, r9, I4, s6, s7, s8, I5, s9, t0, t1, I6, t2, t3, t4, I7, t5⟩; refine Zc Za (TO.extract Zd (TO.extract Zd (Wp Ya Rz ?_))); intro q6; refine Xq Za Ze Nr Ya (aN Za (Zq (aT [1, 2, 4, 7, 8] rfl) (Zl (sR Y2 rfl (Zc Za (Zw Zu (dN ?_))))))); rcases Zy H with ⟨D5, H⟩ | ⟨D5, H⟩
 · refine Xb rfl D5 (sR Y4 rfl (Yl Za Xh Nx rfl (Xq Za tk7 Z0d Ya (Ye Za (aN Za (T.ret (Yk ?_))))))); obtain ⟨rfl, rfl, rfl⟩ := ret3 H; exact Jg Za (Vv rfl Xh Zk rfl) (Res.tmp rfl) (Res.tmp rfl) (Pick.none Zg) ⟨none, 0, 0, ([]), rfl, rfl, rfl, (Nat.le_refl _), (Yz 0 _), (fun _ => rfl)⟩
 ·
  refine Xc rfl D5 (T.skip (Yb (Zl ?_))); obtain ⟨D6, I8, H⟩ := Zv H; refine rG Y4 rfl (Yl Za Wr Zk rfl ?_); refine Yf Zbl Za (fun wc hwc => Zb0 (c0 := r5) wc (Yr hwc Yi q7 q8 q9) (Yr hwc Yx r3 r4 r7) (Yr hwc Wa r8 r9 s6) (Yr hwc Wt s7 s8 s9) (Yr hwc Ui t0 t1 t2) (Ky hwc Ur t3 t4 t5) I8) ?_; rintro _ _ ⟨D7, I9, c69, J0, D8, J1, c73, J2, D9, J3, c77, J4, rfl, rfl, E0, E1, E2, E3, E4, E5, E6, E7, E8, E9, F0, F1⟩; refine Wp Ya No ?_; intro g3; refine Xq Za Ze Ks Ya (dS ?_); obtain ⟨D4, H⟩ := Zz H; refine sR Y7 rfl (Zc Za (Zc Za (Xm (xs := moves1) e1.len Zd Z9l (TO.min2 Zd (TO.slH (xs := moves1) e1.len e1.cap D4 Zd Z9l Zd9 (Xm (xs := (moves1.take (min (moves1.length : Int) 80).toNat)) ((RS.take e1 D4).len) Zd Z9l (Zc Za (dN (Zq (aT [2, 4, 7, 8, 9, 30, 31, 32] rfl) ?_))))))))); refine Zgq (fun (g0 : List Int) (o9 p2 : Nat) (l3 : Option Nat) (t6 : List Value) (l4 : List Int) (p3 p4 : Nat) (l5 : Option Nat) (t7 : List Value) (p9 : List Int) (p5 p6 : Nat) (l6 : Option Nat) (t8 : List Value) => Z8j n0 r5 g0 l4 p9 = some (r0, r1, r2) ∧ g0.length = o9 ∧ o9 ≤ p2 ∧ t6.length = (p2 - o9) * 1 ∧ (l3 = none → p2 = 0) ∧ l4.length = p3 ∧ p3 ≤ p4 ∧ t7.length = (p4 - p3) * 1 ∧ (l5 = none → p4 = 0) ∧ p9.length = p5 ∧ p5 ≤ p6 ∧ t8.length = (p6 - p5) * 1 ∧ (l6 = none → p6 = 0)) (fun (g0 : List Int) (o9 p2 : Nat) (l3 : Option Nat) (t6 : List Value) (l4 : List Int) (p3 p4 : Nat) (l5 : Option Nat) (t7 : List Value) (p9 : List Int) (p5 p6 : Nat) (l6 : Option Nat) (t8 : List Value) => [(2, pV b1), (4, pV b3), (7, pV q6), (9, pV g3)]) (fun (g0 : List Int) (o9 p2 : Nat) (l3 : Option Nat) (t6 : List Value) (l4 : List Int) (p3 p4 : Nat) (l5 : Option Nat) (t7 : List Value) (p9 : List Int) (p5 p6 : Nat) (l6 : Option Nat) (t8 : List Value) => [(eC b1 #[iV n0.N, iV n0.S, iV n0.T, .slice c8 d0 c9] 24), (eC b3 #[iV 0, iV 0, iV 0, .slice none 0 0] 24), (eC q6 #[iV r5.N, iV r5.S, iV r5.T, sV o8 n9 w6, sV f5 w8 w9, sV f6 x3 x4, sV f7 x6 c22, sV f8 x8 c26, sV f9 n29 c30] 64), (eI o8 r5.First w7 3), (eI f5 r5.Head x2 3), (eI f6 r5.Rev x5 3), (eI f7 r5.Cap x7 2), (eI f8 r5.Arc x9 3), (eA f9 boolC r5.Back y0 4), (eC g3 #[sV l3 o9 p2, sV l5 p3 p4, sV l6 p5 p6] 77), (eI l3 g0 t6 2), (eI l5 l4 t7 2), (eI l6 p9 t8 3)]) ?_ ?_
  ·
   refine T.block ?_; obtain ⟨J5, w2, H0⟩ := Zv H; refine Zig (fun (A5 : Nat) (w1 : Int) (c3 : List Int) (i9 d1 : Nat) (a5 : Option Nat) (g4 : List Value) (c4 : List Int) (d2 c110 : Nat) (a6 : Option Nat) (g5 : List Value) (f2 : List Int) (d4 c120 : Nat) (a7 : Option Nat) (g6 : List Value) (g1 : Int) => Ym (fun s => Z3z n0 moves1 r5 s.1 s.2.1 s.2.2.1 s.2.2.2.1 s.2.2.2.2) A5 (w1, c3, c4, f2, g1) = some J5 ∧ c3.length = i9 ∧ i9 ≤ d1 ∧ g4.length = (d1 - i9) * 1 ∧ (a5 = none → d1 = 0) ∧ c4.length = d2 ∧ d2 ≤ c110 ∧ g5.length = (c110 - d2) * 1 ∧ (a6 = none → c110 = 0) ∧ f2.length = d4 ∧ d4 ≤ c120 ∧ g6.length = (c120 - d4) * 1 ∧ (a7 = none → c120 = 0)) (fun (A5 : Nat) (w1 : Int) (c3 : List Int) (i9 d1 : Nat) (a5 : Option Nat) (g4 : List Value) (c4 : List Int) (d2 c110 : Nat) (a6 : Option Nat) (g5 : List Value) (f2 : List Int) (d4 c120 : Nat) (a7 : Option Nat) (g6 : List Value) (g1 : Int) => [(2, pV b1), (4, pV b3), (7, pV q6), (8, iV w1), (9, pV g3), (30, .slice f0 ((min (moves1.length : Int) 80).toNat) e9), (31, iV ((moves1.take (min (moves1.length : Int) 80).toNat).length : Int)), (32, iV g1)]) (fun (A5 : Nat) (w1 : Int) (c3 : List Int) (i9 d1 : Nat) (a5 : Option Nat) (g4 : List Value) (c4 : List Int) (d2 c110 : Nat) (a6 : Option Nat) (g5 : List Value) (f2 : List Int) (d4 c120 : Nat) (a7 : Option Nat) (g6 : List Value) (g1 : Int) => [(eC b1 #[iV n0.N, iV n0.S, iV n0.T, .slice c8 d0 c9] 24), (eC b3 #[iV 0, iV 0, iV 0, .slice none 0 0] 24), (eC q6 #[iV r5.N, iV r5.S, iV r5.T, sV o8 n9 w6, sV f5 w8 w9, sV f6 x3 x4, sV f7 x6 c22, sV f8 x8 c26, sV f9 n29 c30] 64), (eI o8 r5.First w7 3), (eI f5 r5.Head x2 3), (eI f6 r5.Rev x5 3), (eI f7 r5.Cap x7 2), (eI f8 r5.Arc x9 3), (eA f9 boolC r5.Back y0 4), (eC g3 #[sV a5 i9 d1, sV a6 d2 c110, sV a7 d4 c120] 77), (eI a5 c3 g4 2), (eI a6 c4 g5 2), (eI a7 f2 g6 3)]) (fun (A5 : Nat) (w1 : Int) (c3 : List Int) (i9 d1 : Nat) (a5 : Option Nat) (g4 : List Value) (c4 : List Int) (d2 c110 : Nat) (a6 : Option Nat) (g5 : List Value) (f2 : List Int) (d4 c120 : Nat) (a7 : Option Nat) (g6 : List Value) (g1 : Int) => A5) Yc r6 D6.Res I9 c69 D7 J0 D6.Ex J1 c73 D8 J2 D6.H J3 c77 D9 J4 0 ⟨w2, E0, E1, E2, E3, E4, E5, E6, E7, E8, E9, F0, F1⟩ (aF rfl) (Zb tk12 (Zb tk11 (Zb Vk (Zb Vk (Zb Vk (Zb Vk (Zb Vk (Zb Vk (Zb Vk (Zb Ze (Zb Ze (Zb Ze (Zb Ze Zg))))))))))))) ?_; rintro A5 w1 c3 i9 d1 a5 g4 c4 d2 c110 a6 g5 f2 d4 c120 a7 g6 g1 ⟨H, m1, m2, y2, m3, m4, m5, y3, m6, m7, m8, y4, m9⟩; obtain ⟨J6, F2, rfl, H, F3⟩ := Wm H; have H : Z3z n0 moves1 r5 w1 c3 c4 f2 g1 = some F2 := H; unfold Z3z at H; refine sR Y1 rfl (Zw Zu (dS ?_)); rcases Zy H with ⟨z0, H⟩ | ⟨z0, H⟩
   ·
    refine Xb rfl z0 (T.skip (Yb (Zl (T.block ?_)))); obtain ⟨A6, H⟩ := Zz H; refine sR Y3 rfl (Xg (RS.take e1 D4) A6 Zd Z9l Zd9 (Wg (RS.take e1 D4) A6 Za TWZMV.s5 (aN Za (Zl ?_)))); obtain ⟨⟨h9, i2⟩, F4, H⟩ := Zv H; refine rG Y8 rfl (Yl Za Wr Yx rfl (Yl Za Vx mm9 rfl ?_)); refine Yf Zji Za (fun wc hwc => Zkf (c0 := r5) (p1 := (Pre.mk c3 c4 f2)) wc (Yr hwc Wa q7 q8 q9) (Yr hwc Wt r3 r4 r7) (Yr hwc Ui r8 r9 s6) (Yr hwc Ur s7 s8 s9) (Yr hwc Jz t0 t1 t2) (Ky hwc Nx t3 t4 t5) (Yr hwc mm10 m1 m2 m3) (Yr hwc mm11 m4 m5 m6) (Yr hwc mm12 m7 m8 m9) F4) ?_; rintro _ _ ⟨l7, F5, F6, t9, l8, F7, c140, u3, rfl, rfl, l9, y5, H1, y6, n6, y7, H2, y8⟩; refine Zc Za (TO.extract Zd (TO.extract Zd (Ye Za (aN Za (Zq (aT [2, 4, 7, 8, 9, 30, 31, 32, 11, 12, 13] rfl) ?_))))); obtain ⟨A7, H⟩ := Zz H; refine sR Y3 rfl (Zc Za (Z6c Za TWZMV.o5 Zan (Ra A7.1 A7.2) (aN Za (Zl ?_)))); refine Zlf (fun (q0 : Int) (g2 : List Int) (n7 n8 : Nat) (j0 : Option Nat) (q1 : List Value) (j1 : List Int) (o0 o1 : Nat) (j2 : Option Nat) (q2 : List Value) (p7 : List Int) (o2 o4 : Nat) (j3 : Option Nat) (q3 : List Value) => Z0s n0 g1 q0 g2 j1 p7 = some F2 ∧ g2.length = n7 ∧ n7 ≤ n8 ∧ q1.length = (n8 - n7) * 1 ∧ (j0 = none → n8 = 0) ∧ j1.length = o0 ∧ o0 ≤ o1 ∧ q2.length = (o1 - o0) * 1 ∧ (j2 = none → o1 = 0) ∧ p7.length = o2 ∧ o2 ≤ o4 ∧ q3.length = (o4 - o2) * 1 ∧ (j3 = none → o4 = 0)) (fun (q0 : Int) (g2 : List Int) (n7 n8 : Nat) (j0 : Option Nat) (q1 : List Value) (j1 : List Int) (o0 o1 : Nat) (j2 : Option Nat) (q2 : List Value) (p7 : List Int) (o2 o4 : Nat) (j3 : Option Nat) (q3 : List Value) => [(2, pV b1), (4, pV b3), (7, pV q6), (8, iV q0), (9, pV g3), (30, .slice f0 ((min (moves1.length : Int) 80).toNat) e9), (31, iV ((moves1.take (min (moves1.length : Int) 80).toNat).length : Int)), (32, iV g1)]) (fun (q0 : Int) (g2 : List Int) (n7 n8 : Nat) (j0 : Option Nat) (q1 : List Value) (j1 : List Int) (o0 o1 : Nat) (j2 : Option Nat) (q2 : List Value) (p7 : List Int) (o2 o4 : Nat) (j3 : Option Nat) (q3 : List Value) => [(eC b1 #[iV n0.N, iV n0.S, iV n0.T, .slice c8 d0 c9] 24), (eC b3 #[iV 0, iV 0, iV 0, .slice none 0 0] 24), (eC q6 #[iV r5.N, iV r5.S, iV r5.T, sV o8 n9 w6, sV f5 w8 w9, sV f6 x3 x4, sV f7 x6 c22, sV f8 x8 c26, sV f9 n29 c30] 64), (eI o8 r5.First w7 3), (eI f5 r5.Head x2 3), (eI f6 r5.Rev x5 3), (eI f7 r5.Cap x7 2), (eI f8 r5.Arc x9 3), (eA f9 boolC r5.Back y0 4), (eC g3 #[sV j0 n7 n8, sV j2 o0 o1, sV j3 o2 o4] 77), (eI j0 g2 q1 2), (eI j2 j1 q2 2), (eI j3 p7 q3 3)]) ?_ ?_
    ·
     refine T.block (Zl ?_); refine Vb (fun (u5 : Bool) => Z0x n0 moves1 r5 w1 c3 c4 f2 g1 h9 i2 u5 = some F2) (fun (u5 : Bool) => [(2, pV b1), (4, pV b3), (7, pV q6), (8, iV w1), (9, pV g3), (12, sV l7 F5 F6), (13, sV l8 F7 c140), (14, iV ((moves1.take (min (moves1.length : Int) 80).toNat).getD g1.toNat 0)), (30, .slice f0 ((min (moves1.length : Int) 80).toNat) e9), (31, iV ((moves1.take (min (moves1.length : Int) 80).toNat).length : Int)), (32, iV g1), (44, .bool u5)]) (fun (u5 : Bool) => [(eC b1 #[iV n0.N, iV n0.S, iV n0.T, .slice c8 d0 c9] 24), (eC b3 #[iV 0, iV 0, iV 0, .slice none 0 0] 24), (eC q6 #[iV r5.N, iV r5.S, iV r5.T, sV o8 n9 w6, sV f5 w8 w9, sV f6 x3 x4, sV f7 x6 c22, sV f8 x8 c26, sV f9 n29 c30] 64), (eI o8 r5.First w7 3), (eI f5 r5.Head x2 3), (eI f6 r5.Rev x5 3), (eI f7 r5.Cap x7 2), (eI f8 r5.Arc x9 3), (eA f9 boolC r5.Back y0 4), (eC g3 #[sV a5 i9 d1, sV a6 d2 c110, sV a7 d4 c120] 77), (eI a5 c3 g4 2), (eI a6 c4 g5 2), (eI a7 f2 g6 3), (eI l7 h9 t9 3), (eI l8 i2 u3 3)]) ?_ ?_
     ·
      rcases Zy H with ⟨w3, H⟩ | ⟨w3, H⟩
      ·
       rcases Zy H with ⟨z1, H⟩ | ⟨z1, H⟩
       · refine rG Y14 rfl (Zc Za (Xm (xs := h9) l9 Zd Yg (Zw Zu (Zc Za (Yh (t := 48) (b' := true) rfl (decide_eq_true w3) (Zc Za ?_)))))); refine TO.rem Zd (by decide) ?_; refine Zw Zu (Zc Za (Yh (t := 52) (b' := true) rfl (decide_eq_true z1) (Zi Za (Zi Za (Zi Za (Xe Zd (Xe Zd (Ye Za (Zf ?_))))))))); exact Xv true H (aF rfl) (Zb Zs (Zb Zs (Zb Zs (Zb Zs (Zb Zs (Zb Zs (Zb Zs (Zb Zs (Zb Zs (Zb Zs (Zb Zs (Zb Zs (Zb Zs (Zb Ze (Zb Ze Zg)))))))))))))))
       · refine rG Y14 rfl (Zc Za (Xm (xs := h9) l9 Zd Yg (Zw Zu (Zc Za (Yh (t := 48) (b' := true) rfl (decide_eq_true w3) (Zc Za ?_)))))); refine TO.rem Zd (by decide) ?_; refine Zw Zu (Zc Za (Yh (t := 52) (b' := false) rfl (decide_eq_false z1) (Zc Za (Xm (xs := i2) n6 Zd Yg (Zw Zu (Xf Zd (Xe Zd (Ye Za (Zf ?_))))))))); exact Xv (decide ((i2.length : Int) = 0)) H (aF rfl) (Zb Zs (Zb Zs (Zb Zs (Zb Zs (Zb Zs (Zb Zs (Zb Zs (Zb Zs (Zb Zs (Zb Zs (Zb Zs (Zb Zs (Zb Zs (Zb Ze (Zb Ze Zg)))))))))))))))
      · refine rG Y14 rfl (Zc Za (Xm (xs := h9) l9 Zd Yg (Zw Zu (Zc Za (Yh (t := 48) (b' := false) rfl (decide_eq_false w3) (Zi Za (Zi Za (Zi Za (Zi Za (Uk Za (Uk Za (Uk Za (Zi Za (Xf Zd (Ye Za (Zf ?_)))))))))))))))); exact Xv false H (aF rfl) (Zb Zs (Zb Zs (Zb Zs (Zb Zs (Zb Zs (Zb Zs (Zb Zs (Zb Zs (Zb Zs (Zb Zs (Zb Zs (Zb Zs (Zb Zs (Zb Ze (Zb Ze Zg)))))))))))))))
     ·
      rintro u5 H; unfold Z0x at H; rcases Zy H with ⟨z5, H⟩ | ⟨z5, H⟩
      ·
       refine Xr rfl z5 ?_; obtain ⟨F8, F9, A8, H⟩ := Uy H; obtain ⟨⟨i4, q4, p8⟩, G0, H⟩ := Zv H; apply Jb [rV [] _, ⟨[], true, [], relV _⟩, rV [] _, rV [] _, rV [3] _, rV [] _, rV [5] _, rV [4, 6] _, rV [2, 7] _, rV [2, 7, 8] _, ⟨[0, 1, 9], false, [], fun _ v e => ∃ (a8 : Option Nat) (d5 d6 : Nat) (i5 : List Value) (a9 : Option Nat) (d7 d8 : Nat) (i6 : List Value) (b0 : Option Nat) (d9 e0 : Nat) (i7 : List Value), v = .tuple #[.agg #[sV a8 d5 d6, sV a9 d7 d8, sV b0 d9 e0], iV q4, iV p8] ∧ e = [(eI a8 i4.Res i5 2), (eI a9 i4.Ex i6 2), (eI b0 i4.H i7 3)] ∧ i4.Res.length = d5 ∧ d5 ≤ d6 ∧ i5.length = (d6 - d5) * 1 ∧ (a8 = none → d6 = 0) ∧ i4.Ex.length = d7 ∧ d7 ≤ d8 ∧ i6.length = (d8 - d7) * 1 ∧ (a9 = none → d8 = 0) ∧ i4.H.length = d9 ∧ d9 ≤ e0 ∧ i7.length = (e0 - d9) * 1 ∧ (b0 = none → e0 = 0)⟩, ⟨[10], false, [], fun vl v e => v = (vl.getD 0 undef) ∧ e = []⟩, ⟨[10, 11], false, [], fun vl v e => v = (Jj (vl.getD 1 undef) 0) ∧ e = []⟩, rV [10, 11] _, rV [10, 11] _, ⟨[10, 11, 12], true, [], Jq⟩] [59, 60, 61, 62, 63, 64, 65, 66, 67, 68, 69, 58, 70, 71, 72] 16 (HRv [fun vl => [(eC g3 #[sV a5 i9 d1, sV a6 d2 c110, sV a7 d4 c120] 77)], fun vl => [(eC g3 #[sV a5 i9 d1, sV a6 d2 c110, sV a7 d4 c120] 77)], fun vl => [(eC g3 #[(Va (vl.getD 0 undef) 0), (Va (vl.getD 0 undef) 1), (Va (vl.getD 0 undef) 2)] 77)]]) [[], [], [12]] [(eC g3 #[sV a5 i9 d1, sV a6 d2 c110, sV a7 d4 c120] 77)] [(eC b1 #[iV n0.N, iV n0.S, iV n0.T, .slice c8 d0 c9] 24), (eC b3 #[iV 0, iV 0, iV 0, .slice none 0 0] 24), (eC q6 #[iV r5.N, iV r5.S, iV r5.T, sV o8 n9 w6, sV f5 w8 w9, sV f6 x3 x4, sV f7 x6 c22, sV f8 x8 c26, sV f9 n29 c30] 64), (eI o8 r5.First w7 3), (eI f5 r5.Head x2 3), (eI f6 r5.Rev x5 3), (eI f7 r5.Cap x7 2), (eI f8 r5.Arc x9 3), (eA f9 boolC r5.Back y0 4), (eI a5 c3 g4 2), (eI a6 c4 g5 2), (eI a7 f2 g6 3), (eI l7 h9 t9 3), (eI l8 i2 u3 3)]
       · exact Xy
       · exact rfl
       · kernel_rfl
       · kernel_rfl
       · kernel_rfl
       · exact rfl
       · exact rfl
       · exact rfl
       · exact rfl
       · exact Yu (by repeat constructor)
       ·
        refine ⟨?_, ?_, ?_, ?_, ?_, ?_, ?_, ?_, ?_, ?_, ?_, ?_, ?_, ?_, ?_, ?_, trivial⟩
        · rintro vs es Es Hx -; refine Zn (D := []) rfl ?_; exact Yl Za Wr Yx rfl (Zf (Zr rfl ⟨rfl, rfl⟩ (Zh _) rfl))
        · rintro vs es Es Hx hb - hHR; obtain rfl : hb = [(eC g3 #[sV a5 i9 d1, sV a6 d2 c110, sV a7 d4 c120] 77)] := hHR; refine Zn (D := []) rfl ?_; refine Yl Za Vx Zk rfl (Zf ?_); exact X.obEd (hb' := [(eC g3 #[sV a5 i9 d1, sV a6 d2 c110, sV a7 d4 c120] 77)]) rfl ⟨rfl, rfl⟩ rfl (Yu (by repeat constructor)) rfl
        · rintro vs es Es Hx -; refine Zn (D := []) rfl ?_; exact Zc Za (Zf (Zr rfl ⟨rfl, rfl⟩ (Zh _) rfl))
        · rintro vs es Es Hx -; refine Zn (D := []) rfl ?_; exact Zc Za (Zf (Zr rfl ⟨rfl, rfl⟩ (Zh _) rfl))
        · rintro vs es Es Hx ⟨⟨u6, z6⟩, -⟩; refine Zn (D := [(62, vs 3)]) rfl ?_; rw [u6]; refine Zdj F8 Zd (Zf ?_); exact Zr rfl ⟨rfl, rfl⟩ (Zh _) (by show [(62, vs 3)] = _; rw [u6])
        · rintro vs es Es Hx -; refine Zn (D := []) rfl ?_; exact Zc Za (Zf (Zr rfl ⟨rfl, rfl⟩ (Zh _) rfl))
        · rintro vs es Es Hx ⟨⟨u7, z7⟩, -⟩; refine Zn (D := [(64, vs 5)]) rfl ?_; rw [u7]; refine Xm (xs := h9) l9 Zd Yg (Zf ?_); exact Zr rfl ⟨rfl, rfl⟩ (Zh _) (by show [(64, vs 5)] = _; rw [u7])
        · rintro vs es Es Hx ⟨⟨u9, z8⟩, ⟨v2, z9⟩, -⟩; refine Zn (D := [(63, vs 4), (65, vs 6)]) rfl ?_; rw [u9, v2]; refine TO.rem Zd F9 (Zf ?_); exact Zr rfl ⟨rfl, rfl⟩ (Zh _) (by show [(63, vs 4), (65, vs 6)] = _; rw [u9, v2])
        · rintro vs es Es Hx ⟨⟨o6, w4⟩, ⟨o7, w5⟩, -⟩; refine Zn (D := [(61, vs 2), (66, vs 7)]) rfl ?_; rw [o6, o7]; refine Xs y6 y5 l9 A8 Zd Yg Yj (Zf ?_); exact Zr rfl ⟨rfl, rfl⟩ (Zh _) (by show [(61, vs 2), (66, vs 7)] = _; rw [o6, o7])
        · rintro vs es Es Hx ⟨⟨o6, w4⟩, ⟨o7, w5⟩, ⟨v3, A0⟩, -⟩; refine Zn (D := [(61, vs 2), (66, vs 7), (67, vs 8)]) rfl ?_; rw [o6, o7, v3]; refine Vu y6 y5 l9 A8 Za Zx mm12 (Zf ?_); exact Zr rfl ⟨rfl, rfl⟩ (Zh _) (by show [(61, vs 2), (66, vs 7), (67, vs 8)] = _; rw [o6, o7, v3])
        · rintro vs es Es Hx ⟨⟨v4, A1⟩, ⟨v5, w2⟩, ⟨v6, A2⟩, -⟩; refine Zn (D := [(59, vs 0), (60, vs 1), (68, vs 9)]) rfl ?_; rw [v4, v5, v6]; refine Yf Zgk Za (fun wc hwc => Zkm (c0 := r5) (p1 := (Pre.mk c3 c4 f2)) (a2 := (h9.getD ((((moves1.take (min (moves1.length : Int) 80).toNat).getD g1.toNat 0).tdiv 2).tmod (h9.length : Int)).toNat 0)) wc (Yr hwc Wa q7 q8 q9) (Yr hwc Wt r3 r4 r7) (Yr hwc Ui r8 r9 s6) (Yr hwc Ur s7 s8 s9) (Yr hwc Jz t0 t1 t2) (Ky hwc Nx t3 t4 t5) (Yr hwc mm9 m1 m2 m3) (Yr hwc mm10 m4 m5 m6) (Yr hwc mm11 m7 m8 m9) G0) ?_; rintro _ _ ⟨a8, d5, d6, i5, a9, d7, d8, i6, b0, d9, e0, i7, rfl, rfl, g7, g8, g9, h0, h1, h2, h3, h4, h5, h6, h7, h8⟩; refine Zf ?_; exact Zr rfl ⟨a8, d5, d6, i5, a9, d7, d8, i6, b0, d9, e0, i7, rfl, rfl, g7, g8, g9, h0, h1, h2, h3, h4, h5, h6, h7, h8⟩ (Yu (by repeat constructor)) (by show [(59, vs 0), (60, vs 1), (68, vs 9)] = _; rw [v4, v5, v6])
        · rintro vs es Es Hx ⟨⟨a8, d5, d6, i5, a9, d7, d8, i6, b0, d9, e0, i7, a4, b5, g7, g8, g9, h0, h1, h2, h3, h4, h5, h6, h7, h8⟩, -⟩; refine Zn (D := [(69, vs 10)]) rfl ?_; rw [a4]; refine Xi (H := _ ++ ((es 10 ++ ([])) ++ _)) rfl ?_; rw [b5]; refine Zc Za (Zf ?_); exact Zr rfl ⟨by show _ = vs 10; rw [a4] <;> rfl, rfl⟩ (by show Pick (_ ++ (_ ++ ((es 10 ++ ([])) ++ _))) _; rw [b5]; exact Yu (by repeat constructor)) (by show [(69, vs 10)] = _; rw [a4])
        ·
         rintro vs es Es Hx ⟨⟨a8, d5, d6, i5, a9, d7, d8, i6, b0, d9, e0, i7, a4, b5, g7, g8, g9, h0, h1, h2, h3, h4, h5, h6, h7, h8⟩, ⟨f3, c7⟩, -⟩; have b6 : vs 11 = .tuple #[.agg #[sV a8 d5 d6, sV a9 d7 d8, sV b0 d9 e0], iV q4, iV p8] := by refine Eq.trans f3 ?_; show vs 10 = _; rw [a4] <;> rfl
         refine Zn (D := [(69, vs 10), (58, vs 11)]) rfl ?_; rw [a4, b6]; refine Xi (H := _ ++ ((es 10 ++ (es 11 ++ ([]))) ++ _)) rfl ?_; rw [b5, c7]; refine TO.extract Zd (Zf ?_); exact Zr rfl ⟨by show _ = (Jj (vs 11) 0); rw [b6] <;> rfl, rfl⟩ (by show Pick (_ ++ (_ ++ ((es 10 ++ (es 11 ++ ([]))) ++ _))) _; rw [b5, c7]; exact Yu (by repeat constructor)) (by show [(69, vs 10), (58, vs 11)] = _; rw [a4, b6])
        ·
         rintro vs es Es Hx ⟨⟨a8, d5, d6, i5, a9, d7, d8, i6, b0, d9, e0, i7, a4, b5, g7, g8, g9, h0, h1, h2, h3, h4, h5, h6, h7, h8⟩, ⟨f3, c7⟩, -⟩; have b6 : vs 11 = .tuple #[.agg #[sV a8 d5 d6, sV a9 d7 d8, sV b0 d9 e0], iV q4, iV p8] := by refine Eq.trans f3 ?_; show vs 10 = _; rw [a4] <;> rfl
         refine Zn (D := [(69, vs 10), (58, vs 11)]) rfl ?_; rw [a4, b6]; refine Xi (H := _ ++ ((es 10 ++ (es 11 ++ ([]))) ++ _)) rfl ?_; rw [b5, c7]; refine TO.extract Zd (Zf ?_); exact Zr rfl ⟨rfl, rfl⟩ (by show Pick (_ ++ (_ ++ ((es 10 ++ (es 11 ++ ([]))) ++ _))) _; rw [b5, c7]; exact Yu (by repeat constructor)) (by show [(69, vs 10), (58, vs 11)] = _; rw [a4, b6])
        ·
         rintro vs es Es Hx ⟨⟨a8, d5, d6, i5, a9, d7, d8, i6, b0, d9, e0, i7, a4, b5, g7, g8, g9, h0, h1, h2, h3, h4, h5, h6, h7, h8⟩, ⟨f3, c7⟩, -⟩; have b6 : vs 11 = .tuple #[.agg #[sV a8 d5 d6, sV a9 d7 d8, sV b0 d9 e0], iV q4, iV p8] := by refine Eq.trans f3 ?_; show vs 10 = _; rw [a4] <;> rfl
         refine Zn (D := [(69, vs 10), (58, vs 11)]) rfl ?_; rw [a4, b6]; refine Xi (H := _ ++ ((es 10 ++ (es 11 ++ ([]))) ++ _)) rfl ?_; rw [b5, c7]; refine TO.extract Zd (Zf ?_); exact Zr rfl ⟨rfl, rfl⟩ (by show Pick (_ ++ (_ ++ ((es 10 ++ (es 11 ++ ([]))) ++ _))) _; rw [b5, c7]; exact Yu (by repeat constructor)) (by show [(69, vs 10), (58, vs 11)] = _; rw [a4, b6])
        ·
         rintro vs es Es Hx hb ⟨⟨a8, d5, d6, i5, a9, d7, d8, i6, b0, d9, e0, i7, a4, b5, g7, g8, g9, h0, h1, h2, h3, h4, h5, h6, h7, h8⟩, ⟨f3, c7⟩, ⟨m0, j4⟩, -⟩ hHR; obtain rfl : hb = [(eC g3 #[sV a5 i9 d1, sV a6 d2 c110, sV a7 d4 c120] 77)] := hHR; have b6 : vs 11 = .tuple #[.agg #[sV a8 d5 d6, sV a9 d7 d8, sV b0 d9 e0], iV q4, iV p8] := by refine Eq.trans f3 ?_; show vs 10 = _; rw [a4] <;> rfl
         have f4 : vs 12 = .agg #[sV a8 d5 d6, sV a9 d7 d8, sV b0 d9 e0] := by refine Eq.trans m0 ?_; show (Jj (vs 11) 0) = _; rw [b6] <;> rfl
         refine Zn (D := [(69, vs 10), (58, vs 11), (70, vs 12)]) rfl ?_; rw [a4, b6, f4]; refine Xi (H := _ ++ (_ ++ ((es 10 ++ (es 11 ++ (es 12 ++ ([])))) ++ _))) rfl ?_; rw [b5, c7, j4]; refine Xq Za Ze Ks Ya ?_; rw [show (sV a8 d5 d6 : Value) = Va (vs 12) 0 from (by rw [f4] <;> rfl)]; rw [show (sV a9 d7 d8 : Value) = Va (vs 12) 1 from (by rw [f4] <;> rfl)]; rw [show (sV b0 d9 e0 : Value) = Va (vs 12) 2 from (by rw [f4] <;> rfl)]; refine Zf ?_; exact Gi (hb' := [(eC g3 #[(Va (vs 12) 0), (Va (vs 12) 1), (Va (vs 12) 2)] 77)]) rfl rfl rfl (by show Pick (_ ++ (_ ++ ((es 10 ++ (es 11 ++ (es 12 ++ ([])))) ++ _))) _; rw [b5, c7, j4]; exact Yu (by repeat constructor)) (by show [(69, vs 10), (58, vs 11), (70, vs 12)] = _; rw [a4, b6, f4] <;> rfl)
       ·
        rintro vs es hb ⟨⟨v4, A1⟩, ⟨v5, w2⟩, ⟨o6, w4⟩, ⟨u6, z6⟩, ⟨u9, z8⟩, ⟨u7, z7⟩, ⟨v2, z9⟩, ⟨o7, w5⟩, ⟨v3, A0⟩, ⟨v6, A2⟩, ⟨a8, d5, d6, i5, a9, d7, d8, i6, b0, d9, e0, i7, a4, b5, g7, g8, g9, h0, h1, h2, h3, h4, h5, h6, h7, h8⟩, ⟨f3, c7⟩, ⟨m0, j4⟩, ⟨v7, v8⟩, ⟨A9, v9⟩, B0, -⟩ hHR; obtain rfl : hb = [(eC g3 #[(Va (vs 12) 0), (Va (vs 12) 1), (Va (vs 12) 2)] 77)] := hHR; have b6 : vs 11 = .tuple #[.agg #[sV a8 d5 d6, sV a9 d7 d8, sV b0 d9 e0], iV q4, iV p8] := by refine Eq.trans f3 ?_; show vs 10 = _; rw [a4] <;> rfl
        have f4 : vs 12 = .agg #[sV a8 d5 d6, sV a9 d7 d8, sV b0 d9 e0] := by refine Eq.trans m0 ?_; show (Jj (vs 11) 0) = _; rw [b6] <;> rfl
        refine Zn (D := [(59, vs 0), (60, vs 1), (61, vs 2), (62, vs 3), (63, vs 4), (64, vs 5), (65, vs 6), (66, vs 7), (67, vs 8), (68, vs 9), (69, vs 10), (58, vs 11), (70, vs 12), (71, vs 13), (72, vs 14)]) rfl ?_; refine Xi (H := _ ++ (_ ++ (es 0 ++ (es 1 ++ (es 2 ++ (es 3 ++ (es 4 ++ (es 5 ++ (es 6 ++ (es 7 ++ (es 8 ++ (es 9 ++ (es 10 ++ (es 11 ++ (es 12 ++ (es 13 ++ (es 14 ++ (es 15 ++ ([]))))))))))))))))))) rfl ?_; rw [A1, w2, w4, z6, z8, z7, z9, w5, A0, A2, b5, c7, j4, v8, v9, B0]; rw [v4, v5, o6, u6, u9, u7, v2, o7, v3, v6, a4, b6, f4, v7, A9]; refine Xi (H := [(eC g3 #[sV a8 d5 d6, sV a9 d7 d8, sV b0 d9 e0] 77), (eC b1 #[iV n0.N, iV n0.S, iV n0.T, .slice c8 d0 c9] 24), (eC b3 #[iV 0, iV 0, iV 0, .slice none 0 0] 24), (eC q6 #[iV r5.N, iV r5.S, iV r5.T, sV o8 n9 w6, sV f5 w8 w9, sV f6 x3 x4, sV f7 x6 c22, sV f8 x8 c26, sV f9 n29 c30] 64), (eI o8 r5.First w7 3), (eI f5 r5.Head x2 3), (eI f6 r5.Rev x5 3), (eI f7 r5.Cap x7 2), (eI f8 r5.Arc x9 3), (eA f9 boolC r5.Back y0 4), (eI a5 c3 g4 2), (eI a6 c4 g5 2), (eI a7 f2 g6 3), (eI l7 h9 t9 3), (eI l8 i2 u3 3), (eI a8 i4.Res i5 2), (eI a9 i4.Ex i6 2), (eI b0 i4.H i7 3)]) rfl ?_; clear A9 v7 f4 b6 a4 v6 v3 o7 v2 u7 u9 u6 o6 v5 v4 f3 m0 A1 w2 w4 z6 z8 z7 z9 w5 A0 A2 b5 c7 j4 v8 v9 B0; refine Ye Za (Zf (Yv ?_)); exact Zc8 p8 i4.Res d5 d6 a8 i5 i4.Ex d7 d8 a9 i6 i4.H d9 e0 b0 i7 ⟨H, g7, g8, g9, h0, h1, h2, h3, h4, h5, h6, h7, h8⟩ (aF rfl) (Zb Zt (Zb Zt (Zb Zt (Zb Zt (Zb Zt (Zb Zt (Zb Zt (Zb Zt (Zb Zt (Zb Ze (Zb Xu (Zb Xu (Zb Xu Zg)))))))))))))
      ·
       refine Xx rfl (Bool.eq_false_iff.2 z5) (sR Y4 rfl (Zc Za (Xm (xs := i2) n6 Zd Yg (Zw Zu (aN Za ?_))))); rcases Zy H with ⟨A3, H⟩ | ⟨A3, H⟩
       ·
        refine Xb rfl A3 ?_; obtain ⟨G1, G2, B1, H⟩ := Uy H; obtain ⟨⟨i8, q5⟩, G3, H⟩ := Zv H; apply Jb [rV [] _, ⟨[], true, [], relV _⟩, rV [] _, rV [] _, rV [3] _, rV [] _, rV [5] _, rV [4, 6] _, rV [2, 7] _, rV [2, 7, 8] _, ⟨[0, 1, 9], false, [], fun _ v e => ∃ (b7 : Option Nat) (e2 e3 : Nat) (j5 : List Value) (b8 : Option Nat) (e4 e5 : Nat) (j6 : List Value) (b9 : Option Nat) (e6 e8 : Nat) (j7 : List Value), v = .tuple #[.agg #[sV b7 e2 e3, sV b8 e4 e5, sV b9 e6 e8], iV q5] ∧ e = [(eI b7 i8.Res j5 2), (eI b8 i8.Ex j6 2), (eI b9 i8.H j7 3)] ∧ i8.Res.length = e2 ∧ e2 ≤ e3 ∧ j5.length = (e3 - e2) * 1 ∧ (b7 = none → e3 = 0) ∧ i8.Ex.length = e4 ∧ e4 ≤ e5 ∧ j6.length = (e5 - e4) * 1 ∧ (b8 = none → e5 = 0) ∧ i8.H.length = e6 ∧ e6 ≤ e8 ∧ j7.length = (e8 - e6) * 1 ∧ (b9 = none → e8 = 0)⟩, ⟨[10], false, [], fun vl v e => v = (vl.getD 0 undef) ∧ e = []⟩, ⟨[10, 11], false, [], fun vl v e => v = (Jj (vl.getD 1 undef) 0) ∧ e = []⟩, rV [10, 11] _, ⟨[10, 11, 12], true, [], Jq⟩] [78, 79, 80, 81, 82, 83, 84, 85, 86, 87, 88, 77, 89, 90] 15 (HRv [fun vl => [(eC g3 #[sV a5 i9 d1, sV a6 d2 c110, sV a7 d4 c120] 77)], fun vl => [(eC g3 #[sV a5 i9 d1, sV a6 d2 c110, sV a7 d4 c120] 77)], fun vl => [(eC g3 #[(Va (vl.getD 0 undef) 0), (Va (vl.getD 0 undef) 1), (Va (vl.getD 0 undef) 2)] 77)]]) [[], [], [12]] [(eC g3 #[sV a5 i9 d1, sV a6 d2 c110, sV a7 d4 c120] 77)] [(eC b1 #[iV n0.N, iV n0.S, iV n0.T, .slice c8 d0 c9] 24), (eC b3 #[iV 0, iV 0, iV 0, .slice none 0 0] 24), (eC q6 #[iV r5.N, iV r5.S, iV r5.T, sV o8 n9 w6, sV f5 w8 w9, sV f6 x3 x4, sV f7 x6 c22, sV f8 x8 c26, sV f9 n29 c30] 64), (eI o8 r5.First w7 3), (eI f5 r5.Head x2 3), (eI f6 r5.Rev x5 3), (eI f7 r5.Cap x7 2), (eI f8 r5.Arc x9 3), (eA f9 boolC r5.Back y0 4), (eI a5 c3 g4 2), (eI a6 c4 g5 2), (eI a7 f2 g6 3), (eI l7 h9 t9 3), (eI l8 i2 u3 3)]
        · exact Xy
        · exact rfl
        · kernel_rfl
        · kernel_rfl
        · kernel_rfl
        · exact rfl
        · exact rfl
        · exact rfl
        · exact rfl
        · exact Yu (by repeat constructor)
        ·
         refine ⟨?_, ?_, ?_, ?_, ?_, ?_, ?_, ?_, ?_, ?_, ?_, ?_, ?_, ?_, ?_, trivial⟩
         · rintro vs es Es Hx -; refine Zn (D := []) rfl ?_; exact Yl Za Wr Yx rfl (Zf (Zr rfl ⟨rfl, rfl⟩ (Zh _) rfl))
         · rintro vs es Es Hx hb - hHR; obtain rfl : hb = [(eC g3 #[sV a5 i9 d1, sV a6 d2 c110, sV a7 d4 c120] 77)] := hHR; refine Zn (D := []) rfl ?_; refine Yl Za Vx Zk rfl (Zf ?_); exact X.obEd (hb' := [(eC g3 #[sV a5 i9 d1, sV a6 d2 c110, sV a7 d4 c120] 77)]) rfl ⟨rfl, rfl⟩ rfl (Yu (by repeat constructor)) rfl
         · rintro vs es Es Hx -; refine Zn (D := []) rfl ?_; exact Zc Za (Zf (Zr rfl ⟨rfl, rfl⟩ (Zh _) rfl))
         · rintro vs es Es Hx -; refine Zn (D := []) rfl ?_; exact Zc Za (Zf (Zr rfl ⟨rfl, rfl⟩ (Zh _) rfl))
         · rintro vs es Es Hx ⟨⟨u6, z6⟩, -⟩; refine Zn (D := [(81, vs 3)]) rfl ?_; rw [u6]; refine Zdj G1 Zd (Zf ?_); exact Zr rfl ⟨rfl, rfl⟩ (Zh _) (by show [(81, vs 3)] = _; rw [u6])
         · rintro vs es Es Hx -; refine Zn (D := []) rfl ?_; exact Zc Za (Zf (Zr rfl ⟨rfl, rfl⟩ (Zh _) rfl))
         · rintro vs es Es Hx ⟨⟨u7, z7⟩, -⟩; refine Zn (D := [(83, vs 5)]) rfl ?_; rw [u7]; refine Xm (xs := i2) n6 Zd Yg (Zf ?_); exact Zr rfl ⟨rfl, rfl⟩ (Zh _) (by show [(83, vs 5)] = _; rw [u7])
         · rintro vs es Es Hx ⟨⟨u9, z8⟩, ⟨v2, z9⟩, -⟩; refine Zn (D := [(82, vs 4), (84, vs 6)]) rfl ?_; rw [u9, v2]; refine TO.rem Zd G2 (Zf ?_); exact Zr rfl ⟨rfl, rfl⟩ (Zh _) (by show [(82, vs 4), (84, vs 6)] = _; rw [u9, v2])
         · rintro vs es Es Hx ⟨⟨o6, w4⟩, ⟨o7, w5⟩, -⟩; refine Zn (D := [(80, vs 2), (85, vs 7)]) rfl ?_; rw [o6, o7]; refine Xs y8 y7 n6 B1 Zd Yg Yj (Zf ?_); exact Zr rfl ⟨rfl, rfl⟩ (Zh _) (by show [(80, vs 2), (85, vs 7)] = _; rw [o6, o7])
         · rintro vs es Es Hx ⟨⟨o6, w4⟩, ⟨o7, w5⟩, ⟨v3, A0⟩, -⟩; refine Zn (D := [(80, vs 2), (85, vs 7), (86, vs 8)]) rfl ?_; rw [o6, o7, v3]; refine Vu y8 y7 n6 B1 Za Zx mm13 (Zf ?_); exact Zr rfl ⟨rfl, rfl⟩ (Zh _) (by show [(80, vs 2), (85, vs 7), (86, vs 8)] = _; rw [o6, o7, v3])
         · rintro vs es Es Hx ⟨⟨v4, A1⟩, ⟨v5, w2⟩, ⟨v6, A2⟩, -⟩; refine Zn (D := [(78, vs 0), (79, vs 1), (87, vs 9)]) rfl ?_; rw [v4, v5, v6]; refine Yf Zkr Za (fun wc hwc => Zip (c0 := r5) (p1 := (Pre.mk c3 c4 f2)) (u2 := (i2.getD ((((moves1.take (min (moves1.length : Int) 80).toNat).getD g1.toNat 0).tdiv 2).tmod (i2.length : Int)).toNat 0)) wc (Yr hwc Wa q7 q8 q9) (Yr hwc Wt r3 r4 r7) (Yr hwc Ui r8 r9 s6) (Yr hwc Ur s7 s8 s9) (Yr hwc Jz t0 t1 t2) (Ky hwc Nx t3 t4 t5) (Yr hwc mm9 m1 m2 m3) (Yr hwc mm10 m4 m5 m6) (Yr hwc mm11 m7 m8 m9) G3) ?_; rintro _ _ ⟨b7, e2, e3, j5, b8, e4, e5, j6, b9, e6, e8, j7, rfl, rfl, j8, j9, k1, k2, k3, k4, k5, k6, k7, k8, k9, l0⟩; refine Zf ?_; exact Zr rfl ⟨b7, e2, e3, j5, b8, e4, e5, j6, b9, e6, e8, j7, rfl, rfl, j8, j9, k1, k2, k3, k4, k5, k6, k7, k8, k9, l0⟩ (Yu (by repeat constructor)) (by show [(78, vs 0), (79, vs 1), (87, vs 9)] = _; rw [v4, v5, v6])
         · rintro vs es Es Hx ⟨⟨b7, e2, e3, j5, b8, e4, e5, j6, b9, e6, e8, j7, a4, b5, j8, j9, k1, k2, k3, k4, k5, k6, k7, k8, k9, l0⟩, -⟩; refine Zn (D := [(88, vs 10)]) rfl ?_; rw [a4]; refine Xi (H := _ ++ ((es 10 ++ ([])) ++ _)) rfl ?_; rw [b5]; refine Zc Za (Zf ?_); exact Zr rfl ⟨by show _ = vs 10; rw [a4] <;> rfl, rfl⟩ (by show Pick (_ ++ (_ ++ ((es 10 ++ ([])) ++ _))) _; rw [b5]; exact Yu (by repeat constructor)) (by show [(88, vs 10)] = _; rw [a4])
         ·
          rintro vs es Es Hx ⟨⟨b7, e2, e3, j5, b8, e4, e5, j6, b9, e6, e8, j7, a4, b5, j8, j9, k1, k2, k3, k4, k5, k6, k7, k8, k9, l0⟩, ⟨f3, c7⟩, -⟩; have b6 : vs 11 = .tuple #[.agg #[sV b7 e2 e3, sV b8 e4 e5, sV b9 e6 e8], iV q5] := by refine Eq.trans f3 ?_; show vs 10 = _; rw [a4] <;> rfl
          refine Zn (D := [(88, vs 10), (77, vs 11)]) rfl ?_; rw [a4, b6]; refine Xi (H := _ ++ ((es 10 ++ (es 11 ++ ([]))) ++ _)) rfl ?_; rw [b5, c7]; refine TO.extract Zd (Zf ?_); exact Zr rfl ⟨by show _ = (Jj (vs 11) 0); rw [b6] <;> rfl, rfl⟩ (by show Pick (_ ++ (_ ++ ((es 10 ++ (es 11 ++ ([]))) ++ _))) _; rw [b5, c7]; exact Yu (by repeat constructor)) (by show [(88, vs 10), (77, vs 11)] = _; rw [a4, b6])
         ·
          rintro vs es Es Hx ⟨⟨b7, e2, e3, j5, b8, e4, e5, j6, b9, e6, e8, j7, a4, b5, j8, j9, k1, k2, k3, k4, k5, k6, k7, k8, k9, l0⟩, ⟨f3, c7⟩, -⟩; have b6 : vs 11 = .tuple #[.agg #[sV b7 e2 e3, sV b8 e4 e5, sV b9 e6 e8], iV q5] := by refine Eq.trans f3 ?_; show vs 10 = _; rw [a4] <;> rfl
          refine Zn (D := [(88, vs 10), (77, vs 11)]) rfl ?_; rw [a4, b6]; refine Xi (H := _ ++ ((es 10 ++ (es 11 ++ ([]))) ++ _)) rfl ?_; rw [b5, c7]; refine TO.extract Zd (Zf ?_); exact Zr rfl ⟨rfl, rfl⟩ (by show Pick (_ ++ (_ ++ ((es 10 ++ (es 11 ++ ([]))) ++ _))) _; rw [b5, c7]; exact Yu (by repeat constructor)) (by show [(88, vs 10), (77, vs 11)] = _; rw [a4, b6])
         ·
          rintro vs es Es Hx hb ⟨⟨b7, e2, e3, j5, b8, e4, e5, j6, b9, e6, e8, j7, a4, b5, j8, j9, k1, k2, k3, k4, k5, k6, k7, k8, k9, l0⟩, ⟨f3, c7⟩, ⟨m0, j4⟩, -⟩ hHR; obtain rfl : hb = [(eC g3 #[sV a5 i9 d1, sV a6 d2 c110, sV a7 d4 c120] 77)] := hHR; have b6 : vs 11 = .tuple #[.agg #[sV b7 e2 e3, sV b8 e4 e5, sV b9 e6 e8], iV q5] := by refine Eq.trans f3 ?_; show vs 10 = _; rw [a4] <;> rfl
          have f4 : vs 12 = .agg #[sV b7 e2 e3, sV b8 e4 e5, sV b9 e6 e8] := by refine Eq.trans m0 ?_; show (Jj (vs 11) 0) = _; rw [b6] <;> rfl
          refine Zn (D := [(88, vs 10), (77, vs 11), (89, vs 12)]) rfl ?_; rw [a4, b6, f4]; refine Xi (H := _ ++ (_ ++ ((es 10 ++ (es 11 ++ (es 12 ++ ([])))) ++ _))) rfl ?_; rw [b5, c7, j4]; refine Xq Za Ze Ks Ya ?_; rw [show (sV b7 e2 e3 : Value) = Va (vs 12) 0 from (by rw [f4] <;> rfl)]; rw [show (sV b8 e4 e5 : Value) = Va (vs 12) 1 from (by rw [f4] <;> rfl)]; rw [show (sV b9 e6 e8 : Value) = Va (vs 12) 2 from (by rw [f4] <;> rfl)]; refine Zf ?_; exact Gi (hb' := [(eC g3 #[(Va (vs 12) 0), (Va (vs 12) 1), (Va (vs 12) 2)] 77)]) rfl rfl rfl (by show Pick (_ ++ (_ ++ ((es 10 ++ (es 11 ++ (es 12 ++ ([])))) ++ _))) _; rw [b5, c7, j4]; exact Yu (by repeat constructor)) (by show [(88, vs 10), (77, vs 11), (89, vs 12)] = _; rw [a4, b6, f4] <;> rfl)
        ·
         rintro vs es hb ⟨⟨v4, A1⟩, ⟨v5, w2⟩, ⟨o6, w4⟩, ⟨u6, z6⟩, ⟨u9, z8⟩, ⟨u7, z7⟩, ⟨v2, z9⟩, ⟨o7, w5⟩, ⟨v3, A0⟩, ⟨v6, A2⟩, ⟨b7, e2, e3, j5, b8, e4, e5, j6, b9, e6, e8, j7, a4, b5, j8, j9, k1, k2, k3, k4, k5, k6, k7, k8, k9, l0⟩, ⟨f3, c7⟩, ⟨m0, j4⟩, ⟨v7, v8⟩, v9, -⟩ hHR; obtain rfl : hb = [(eC g3 #[(Va (vs 12) 0), (Va (vs 12) 1), (Va (vs 12) 2)] 77)] := hHR; have b6 : vs 11 = .tuple #[.agg #[sV b7 e2 e3, sV b8 e4 e5, sV b9 e6 e8], iV q5] := by refine Eq.trans f3 ?_; show vs 10 = _; rw [a4] <;> rfl
         have f4 : vs 12 = .agg #[sV b7 e2 e3, sV b8 e4 e5, sV b9 e6 e8] := by refine Eq.trans m0 ?_; show (Jj (vs 11) 0) = _; rw [b6] <;> rfl
         refine Zn (D := [(78, vs 0), (79, vs 1), (80, vs 2), (81, vs 3), (82, vs 4), (83, vs 5), (84, vs 6), (85, vs 7), (86, vs 8), (87, vs 9), (88, vs 10), (77, vs 11), (89, vs 12), (90, vs 13)]) rfl ?_; refine Xi (H := _ ++ (_ ++ (es 0 ++ (es 1 ++ (es 2 ++ (es 3 ++ (es 4 ++ (es 5 ++ (es 6 ++ (es 7 ++ (es 8 ++ (es 9 ++ (es 10 ++ (es 11 ++ (es 12 ++ (es 13 ++ (es 14 ++ ([])))))))))))))))))) rfl ?_; rw [A1, w2, w4, z6, z8, z7, z9, w5, A0, A2, b5, c7, j4, v8, v9]; rw [v4, v5, o6, u6, u9, u7, v2, o7, v3, v6, a4, b6, f4, v7]; refine Xi (H := [(eC g3 #[sV b7 e2 e3, sV b8 e4 e5, sV b9 e6 e8] 77), (eC b1 #[iV n0.N, iV n0.S, iV n0.T, .slice c8 d0 c9] 24), (eC b3 #[iV 0, iV 0, iV 0, .slice none 0 0] 24), (eC q6 #[iV r5.N, iV r5.S, iV r5.T, sV o8 n9 w6, sV f5 w8 w9, sV f6 x3 x4, sV f7 x6 c22, sV f8 x8 c26, sV f9 n29 c30] 64), (eI o8 r5.First w7 3), (eI f5 r5.Head x2 3), (eI f6 r5.Rev x5 3), (eI f7 r5.Cap x7 2), (eI f8 r5.Arc x9 3), (eA f9 boolC r5.Back y0 4), (eI a5 c3 g4 2), (eI a6 c4 g5 2), (eI a7 f2 g6 3), (eI l7 h9 t9 3), (eI l8 i2 u3 3), (eI b7 i8.Res j5 2), (eI b8 i8.Ex j6 2), (eI b9 i8.H j7 3)]) rfl ?_; clear v7 f4 b6 a4 v6 v3 o7 v2 u7 u9 u6 o6 v5 v4 f3 m0 A1 w2 w4 z6 z8 z7 z9 w5 A0 A2 b5 c7 j4 v8 v9; refine Ye Za (Zf (Yv ?_)); exact Zc8 q5 i8.Res e2 e3 b7 j5 i8.Ex e4 e5 b8 j6 i8.H e6 e8 b9 j7 ⟨H, j8, j9, k1, k2, k3, k4, k5, k6, k7, k8, k9, l0⟩ (aF rfl) (Zb Zt (Zb Zt (Zb Zt (Zb Zt (Zb Zt (Zb Zt (Zb Zt (Zb Zt (Zb Zt (Zb Ze (Zb Xu (Zb Xu (Zb Xu Zg)))))))))))))
       · refine Xc rfl A3 (T.skip (Yv ?_)); exact Zc8 w1 c3 i9 d1 a5 g4 c4 d2 c110 a6 g5 f2 d4 c120 a7 g6 ⟨H, m1, m2, y2, m3, m4, m5, y3, m6, m7, m8, y4, m9⟩ (aF rfl) (Zb Ze (Zb Ze (Zb Ze (Zb Ze (Zb Ze (Zb Ze (Zb Ze (Zb Ze (Zb Ze (Zb Ze (Zb Ze (Zb Ze (Zb Ze Zg)))))))))))))
    ·
     rintro q0 g2 n7 n8 j0 q1 j1 o0 o1 j2 q2 p7 o2 o4 j3 q3 ⟨H, B2, B3, B4, B5, B6, B7, B8, B9, C0, C1, C2, C3⟩; unfold Z0s at H; refine sR Y2 rfl (Zc Za (Zw Zu (dN ?_))); rcases Zy H with ⟨A4, H⟩ | ⟨A4, H⟩
     · refine Xb rfl A4 (sR Y4 rfl (Yl Za Xh Zk rfl (Xq Za Zt Z0d Ya (Ye Za (aN Za (Zq (aT [4, 5, 6] rfl) (T.ret (Xd (Yk ?_))))))))); have H := Xl H F3 ▸ H0; refine Yk (Xd (Yk ?_)); obtain ⟨rfl, rfl, rfl⟩ := ret3 H; exact Jg Za (Vv rfl Xh Zk rfl) (Res.tmp rfl) (Res.tmp rfl) (Pick.none Zg) ⟨none, 0, 0, ([]), rfl, rfl, rfl, (Nat.le_refl _), (Yz 0 _), (fun _ => rfl)⟩
     · refine Xc rfl A4 (T.skip (Yv (Yb ?_))); obtain ⟨G4, H⟩ := Zz H; refine rG Y2 rfl (Yy G4 Zd (Zc Za (Zf ?_))); have H := Xp H F3; exact Ziw J6 q0 g2 n7 n8 j0 q1 j1 o0 o1 j2 q2 p7 o2 o4 j3 q3 (g1 + 1) ⟨H, B2, B3, B4, B5, B6, B7, B8, B9, C0, C1, C2, C3⟩ (Nat.lt_succ_self _) (aF rfl) (Zb Ze (Zb Ze (Zb Ze (Zb Ze (Zb Ze (Zb Ze (Zb Ze (Zb Ze (Zb Ze (Zb Ze (Zb Ze (Zb Ze (Zb Ze Zg)))))))))))))
   · refine Xc rfl z0 (T.exit (Yt ?_)); have H := Xl H F3 ▸ H0; refine Yt (Wd ?_); exact X.metE15 c3 i9 d1 a5 g4 c4 d2 c110 a6 g5 f2 d4 c120 a7 g6 ⟨H, m1, m2, y2, m3, m4, m5, y3, m6, m7, m8, y4, m9⟩ (aF rfl) (Zb Ze (Zb Ze (Zb Ze (Zb Ze (Zb Ze (Zb Ze (Zb Ze (Zb Ze (Zb Ze (Zb Ze (Zb Ze (Zb Ze (Zb Ze Zg)))))))))))))
  · rintro g0 o9 p2 l3 t6 l4 p3 p4 l5 t7 p9 p5 p6 l6 t8 ⟨H, C4, C5, H3, C6, H4, H5, H6, H7, H8, H9, I0, I1⟩; unfold Z8j at H; refine Zl ?_; obtain ⟨⟨J7, J8⟩, G5, H⟩ := Zv H; refine rG Y12 rfl (Yl Za Wr Yx rfl (Zp Za Js (Zo Za Wn mm9 rfl (Zp Za Vz (Zo Za Ue Zk rfl (Xm (xs := n0.Arcs) w0.len Zd Vd ?_)))))); refine Yf Z9y Za (fun wc hwc => Zae (c0 := r5) (res1 := g0) (arcs2 := (n0.Arcs.length : Int)) wc (Yr hwc Wa q7 q8 q9) (Yr hwc Wt r3 r4 r7) (Yr hwc Ui r8 r9 s6) (Yr hwc Ur s7 s8 s9) (Yr hwc Jz t0 t1 t2) (Ky hwc Nx t3 t4 t5) (Yr hwc mm10 C4 C5 C6) G5) ?_; rintro _ _ ⟨C7, G6, G7, G8, rfl, rfl, C8, C9, D0, D1⟩; refine Zc Za (TO.extract Zd (TO.extract Zd (Ye Za (aN Za (Zq (aT [2, 4, 15, 8] rfl) (sR Y7 rfl (Yl Za Xh Yi rfl (Zc Za (Zc Za (Zw Zu (Xq Za Zs Z0d Ya (Ye Za (aN Za (T.ret ?_)))))))))))))); obtain ⟨rfl, rfl, rfl⟩ := ret3 H; exact Jg Za (Vv rfl Xh Zk rfl) (Res.tmp rfl) (Res.tmp rfl) (Zb Zt Zg) ⟨C7, G6, G7, G8, rfl, rfl, C8, C9, D0, D1⟩
theorem Zh6 {n0 : Net} {moves1 : List Int} {a7 a6 : Option Addr} {a9 a8 a4 a5 : Nat} (w : World) (b7 : RS w [] Xa 3 a7 a9 a8 n0.Arcs) (b0 : RS w [] (intC .u8) 1 a6 a4 a5 moves1) {r0 : Net} {r1 : List Int} {r2 : Bool} (H : Z4p n0 moves1 = some (r0, r1, r2)) : Fnc Try.prog 39 #[.agg #[iV n0.N, iV n0.S, iV n0.T, .slice a7 a9 a8], .slice a6 a4 a5] w [] (fun v N => ∃ (b5 : Option Nat) (c4 c7 : Nat) (d8 : List Value) (b6 : Option Nat) (c8 d0 : Nat) (d9 : List Value), v = .tuple #[.agg #[iV r0.N, iV r0.S, iV r0.T, sV b5 c4 c7], sV b6 c8 d0, .bool r2] ∧ N = [(eA b5 Xa r0.Arcs d8 35), (eI b6 r1 d9 2)] ∧ r0.Arcs.length = c4 ∧ c4 ≤ c7 ∧ d8.length = (c7 - c4) * 3 ∧ (b5 = none → c7 = 0) ∧ r1.length = c8 ∧ c8 ≤ d0 ∧ d9.length = (d0 - c8) * 1 ∧ (b6 = none → d0 = 0)) := by
 unfold Z4p at H; refine Fnc.enter (vs := [.agg #[iV n0.N, iV n0.S, iV n0.T, .slice a7 a9 a8], .slice a6 a4 a5]) Try.func39 rfl rfl (Inv.refl w) (sR Y4 rfl (Xo Za ?_)); intro b1; refine Wp Ya Z3t ?_; intro b3; refine Ye Za (aN Za (Zl ?_)); obtain ⟨r5, e6, H⟩ := Zv H; obtain ⟨⟨e5, e7, e8⟩, e1, H⟩ := Zv H; refine rG Y10 rfl (Yl Za Xh Yi rfl ?_); refine Yf Ziu Za (fun wc hwc => Zlk (n0 := n0) (verts1 := 12) (arcs2 := 30) wc (b7.mono hwc) e6) ?_; rintro _ _ ⟨e2, n8, c9, e0, rfl, rfl, b8, b9, d1, c3⟩; refine Zc Za ?_; refine Yf Zj3 Za (fun wc hwc => Zlb (n0 := r5) (moves1 := moves1) wc (hwc.rs (f := Xa) (s := 3) (xs := r5.Arcs) (j := e0) (fun _ => rfl) Zk b8 b9 c3) (b0.mono hwc) e1) ?_; rintro _ _ ⟨d2, e3, c22, e4, rfl, rfl, d4, d5, d6, d7⟩; refine TO.extract Zd (TO.extract Zd (TO.extract Zd (Xq Za Zs Z0d Ya (Ye Za (aN Za (Zq (aT [4, 5, 6] rfl) (T.ret ?_))))))); obtain ⟨rfl, rfl, rfl⟩ := ret3 H; exact Jg Za (Vv rfl Xh Zk rfl) (Res.tmp rfl) (Res.tmp rfl) (Zb Zs (Zb Zt Zg)) ⟨e2, n8, c9, e0, d2, e3, c22, e4, rfl, rfl, b8, b9, d1, c3, d4, d5, d6, d7⟩
end Go.Proofs.Ytfdhelnfgfaeaaa.Ax
namespace Go.Proofs.Ytfdhelnfgfaeaaa.Ax
open Go Go.Acq Go.RowKit Go.Proofs
set_option maxHeartbeats 8000000
set_option maxRecDepth 20000
theorem Z0y : Up Try.prog 79 2 = true := by kernel_rfl
theorem Z7j : Up Try.prog 85 3 = true := by kernel_rfl
theorem Zgf : Ys Try.prog 108 = true := by kernel_rfl
theorem Zec : Ys Try.prog 35 = true := by kernel_rfl
theorem Zdt : Ys Try.prog 43 = true := by kernel_rfl
theorem Zdx : Ys Try.prog 77 = true := by kernel_rfl
theorem Zi2 : Ys Try.prog 78 = true := by kernel_rfl
theorem Zgc : Ys Try.prog 79 = true := by kernel_rfl
theorem Rw : Ws Try.prog 128 0 = some 0 := by kernel_rfl
theorem Gt : Ws Try.prog 128 1 = some 9 := by kernel_rfl
theorem Zdv : Ws Try.prog 128 2 = some 12 := by kernel_rfl
theorem Zbr : Ws Try.prog 128 3 = some 13 := by kernel_rfl
theorem Z3r : Ws Try.prog 128 4 = some 14 := by kernel_rfl
theorem Zcd : Ws Try.prog 79 0 = some 0 := by kernel_rfl
theorem Zdp : Ws Try.prog 79 1 = some 1 := by kernel_rfl
theorem Zhr : chanT Try.prog 126 = some 3 := by kernel_rfl
theorem Z06 : Xt Try.prog 79 = some 2 := by kernel_rfl
theorem Z62 : Xt Try.prog 85 = some 3 := by kernel_rfl
theorem Zf2 : Vc Try.prog 126 = true := by kernel_rfl
theorem Z57 : Vj Try.prog 79 = some (.agg #[iV 0, iV 0]) := by kernel_rfl
theorem Zfk : Vj Try.prog 85 = some (.agg #[.slice none 0 0, .slice none 0 0, iV 0]) := by kernel_rfl
theorem Zg0 {r0 : FifoRun} {v1 : Int} {f2 e4 c8 a8 e2 d2 d9 b9 a9 e0 d5 d6 c4 b6 d1 b7 e1 d0 c9 a5 e8 e9 e5 e6 : Nat} {d4 c3 a7 b0 d7 d8 e3 a6 c7 : Option Addr} {a4 : Option Nat} {e7 : List Value} (w : World) (hin : Inv w (([(eC f2 #[iV r0.c.N, iV r0.c.S, iV r0.c.T, .slice d4 e4 c8, .slice c3 a8 e2, .slice a7 d2 d9, .slice b0 b9 a9, .slice d7 e0 d5, .slice d8 d6 c4, .slice e3 b6 d1, .slice a6 b7 e1, .slice c7 d0 c9, .chan (some a5), sV a4 e5 e6, iV r0.work.Pushes, iV r0.work.Lifts] 128), (some a5, chanO .i64 r0.row e8 e9), (eA a4 boolC r0.ins e7 4)] : Heap).filterMap Prod.fst) w [(eC f2 #[iV r0.c.N, iV r0.c.S, iV r0.c.T, .slice d4 e4 c8, .slice c3 a8 e2, .slice a7 d2 d9, .slice b0 b9 a9, .slice d7 e0 d5, .slice d8 d6 c4, .slice e3 b6 d1, .slice a6 b7 e1, .slice c7 d0 c9, .chan (some a5), sV a4 e5 e6, iV r0.work.Pushes, iV r0.work.Lifts] 128), (some a5, chanO .i64 r0.row e8 e9), (eA a4 boolC r0.ins e7 4)]) (g0 : RS w (([(eC f2 #[iV r0.c.N, iV r0.c.S, iV r0.c.T, .slice d4 e4 c8, .slice c3 a8 e2, .slice a7 d2 d9, .slice b0 b9 a9, .slice d7 e0 d5, .slice d8 d6 c4, .slice e3 b6 d1, .slice a6 b7 e1, .slice c7 d0 c9, .chan (some a5), sV a4 e5 e6, iV r0.work.Pushes, iV r0.work.Lifts] 128), (some a5, chanO .i64 r0.row e8 e9), (eA a4 boolC r0.ins e7 4)] : Heap).filterMap Prod.fst) iC 1 d4 e4 c8 r0.c.First) (f6 : RS w (([(eC f2 #[iV r0.c.N, iV r0.c.S, iV r0.c.T, .slice d4 e4 c8, .slice c3 a8 e2, .slice a7 d2 d9, .slice b0 b9 a9, .slice d7 e0 d5, .slice d8 d6 c4, .slice e3 b6 d1, .slice a6 b7 e1, .slice c7 d0 c9, .chan (some a5), sV a4 e5 e6, iV r0.work.Pushes, iV r0.work.Lifts] 128), (some a5, chanO .i64 r0.row e8 e9), (eA a4 boolC r0.ins e7 4)] : Heap).filterMap Prod.fst) iC 1 c3 a8 e2 r0.c.Head) (g3 : RS w (([(eC f2 #[iV r0.c.N, iV r0.c.S, iV r0.c.T, .slice d4 e4 c8, .slice c3 a8 e2, .slice a7 d2 d9, .slice b0 b9 a9, .slice d7 e0 d5, .slice d8 d6 c4, .slice e3 b6 d1, .slice a6 b7 e1, .slice c7 d0 c9, .chan (some a5), sV a4 e5 e6, iV r0.work.Pushes, iV r0.work.Lifts] 128), (some a5, chanO .i64 r0.row e8 e9), (eA a4 boolC r0.ins e7 4)] : Heap).filterMap Prod.fst) iC 1 a7 d2 d9 r0.c.Rev) (g5 : RS w (([(eC f2 #[iV r0.c.N, iV r0.c.S, iV r0.c.T, .slice d4 e4 c8, .slice c3 a8 e2, .slice a7 d2 d9, .slice b0 b9 a9, .slice d7 e0 d5, .slice d8 d6 c4, .slice e3 b6 d1, .slice a6 b7 e1, .slice c7 d0 c9, .chan (some a5), sV a4 e5 e6, iV r0.work.Pushes, iV r0.work.Lifts] 128), (some a5, chanO .i64 r0.row e8 e9), (eA a4 boolC r0.ins e7 4)] : Heap).filterMap Prod.fst) iC 1 b0 b9 a9 r0.c.Cap) (f9 : RS w (([(eC f2 #[iV r0.c.N, iV r0.c.S, iV r0.c.T, .slice d4 e4 c8, .slice c3 a8 e2, .slice a7 d2 d9, .slice b0 b9 a9, .slice d7 e0 d5, .slice d8 d6 c4, .slice e3 b6 d1, .slice a6 b7 e1, .slice c7 d0 c9, .chan (some a5), sV a4 e5 e6, iV r0.work.Pushes, iV r0.work.Lifts] 128), (some a5, chanO .i64 r0.row e8 e9), (eA a4 boolC r0.ins e7 4)] : Heap).filterMap Prod.fst) iC 1 d7 e0 d5 r0.c.Arc) (f8 : RS w (([(eC f2 #[iV r0.c.N, iV r0.c.S, iV r0.c.T, .slice d4 e4 c8, .slice c3 a8 e2, .slice a7 d2 d9, .slice b0 b9 a9, .slice d7 e0 d5, .slice d8 d6 c4, .slice e3 b6 d1, .slice a6 b7 e1, .slice c7 d0 c9, .chan (some a5), sV a4 e5 e6, iV r0.work.Pushes, iV r0.work.Lifts] 128), (some a5, chanO .i64 r0.row e8 e9), (eA a4 boolC r0.ins e7 4)] : Heap).filterMap Prod.fst) boolC 1 d8 d6 c4 r0.c.Back) (f7 : RS w (([(eC f2 #[iV r0.c.N, iV r0.c.S, iV r0.c.T, .slice d4 e4 c8, .slice c3 a8 e2, .slice a7 d2 d9, .slice b0 b9 a9, .slice d7 e0 d5, .slice d8 d6 c4, .slice e3 b6 d1, .slice a6 b7 e1, .slice c7 d0 c9, .chan (some a5), sV a4 e5 e6, iV r0.work.Pushes, iV r0.work.Lifts] 128), (some a5, chanO .i64 r0.row e8 e9), (eA a4 boolC r0.ins e7 4)] : Heap).filterMap Prod.fst) iC 1 e3 b6 d1 r0.p.Res) (f5 : RS w (([(eC f2 #[iV r0.c.N, iV r0.c.S, iV r0.c.T, .slice d4 e4 c8, .slice c3 a8 e2, .slice a7 d2 d9, .slice b0 b9 a9, .slice d7 e0 d5, .slice d8 d6 c4, .slice e3 b6 d1, .slice a6 b7 e1, .slice c7 d0 c9, .chan (some a5), sV a4 e5 e6, iV r0.work.Pushes, iV r0.work.Lifts] 128), (some a5, chanO .i64 r0.row e8 e9), (eA a4 boolC r0.ins e7 4)] : Heap).filterMap Prod.fst) iC 1 a6 b7 e1 r0.p.Ex) (g2 : RS w (([(eC f2 #[iV r0.c.N, iV r0.c.S, iV r0.c.T, .slice d4 e4 c8, .slice c3 a8 e2, .slice a7 d2 d9, .slice b0 b9 a9, .slice d7 e0 d5, .slice d8 d6 c4, .slice e3 b6 d1, .slice a6 b7 e1, .slice c7 d0 c9, .chan (some a5), sV a4 e5 e6, iV r0.work.Pushes, iV r0.work.Lifts] 128), (some a5, chanO .i64 r0.row e8 e9), (eA a4 boolC r0.ins e7 4)] : Heap).filterMap Prod.fst) iC 1 c7 d0 c9 r0.p.H) (f0 : r0.ins.length = e5) (f4 : e5 ≤ e6) (g1 : e7.length = (e6 - e5) * 1) (f3 : (a4 = none → e6 = 0)) {o0 : FifoRun} (H : Z1p r0 v1 = some o0) : Fnc Try.prog 77 #[pV f2, iV v1] w (([(eC f2 #[iV r0.c.N, iV r0.c.S, iV r0.c.T, .slice d4 e4 c8, .slice c3 a8 e2, .slice a7 d2 d9, .slice b0 b9 a9, .slice d7 e0 d5, .slice d8 d6 c4, .slice e3 b6 d1, .slice a6 b7 e1, .slice c7 d0 c9, .chan (some a5), sV a4 e5 e6, iV r0.work.Pushes, iV r0.work.Lifts] 128), (some a5, chanO .i64 r0.row e8 e9), (eA a4 boolC r0.ins e7 4)] : Heap).filterMap Prod.fst) (fun v N => ∃ (g8 h0 : Nat), v = .tuple #[] ∧ N = [(eC f2 #[iV r0.c.N, iV r0.c.S, iV r0.c.T, .slice d4 e4 c8, .slice c3 a8 e2, .slice a7 d2 d9, .slice b0 b9 a9, .slice d7 e0 d5, .slice d8 d6 c4, .slice e3 b6 d1, .slice a6 b7 e1, .slice c7 d0 c9, .chan (some a5), sV a4 e5 e6, iV r0.work.Pushes, iV r0.work.Lifts] 128), (some a5, chanO .i64 o0.row g8 h0), (eA a4 boolC o0.ins e7 4)] ∧ o0.ins.length = e5) := by
 unfold Z1p at H; refine Zcx (vs := [pV f2, iV v1]) Try.func77 rfl rfl hin (TK.seq (Lo rfl ?_)); refine Lp (ll := [0, 1, 2, 3, 4, 5, 6, 7, 8, 9, 10, 11, 12, 13, 14, 15, 16, 17, 18, 19, 20, 21, 22, 23, 24, 25, 26, 27, 28, 29, 30, 31, 32, 33, 34, 35, 36]) rfl ?_; refine Zc Za (Zc Za (TO.nilCheck Za (Zp Za Rw (Zp Za Z2g (Zo Za Zx Zk rfl (Zw Zu (Zc Za ?_))))))); refine TO.join [8, 9, 10, 11, 12, 13, 14, 15] [16, 17, 18, 19, 20, 21, 22, 23, 24, 25, 26, 27, 28, 29, 30, 31, 32, 33, 34, 35, 36] rfl 19 (fun b5 => Z4j r0 v1 b5 = some o0) [(0, pV f2), (1, iV v1)] ?_ ?_
 ·
  rcases Zy H with ⟨g4, H⟩ | ⟨g4, H⟩
  · exact Yh (t := 11) (b' := true) rfl (decide_eq_true g4) (Zc Za (Zc Za (TO.nilCheck Za (Zp Za Rw (Zp Za Zaq (Zo Za Zx Zk rfl (Zw Zu (Xe Zd (Zf (Ut (b := (decide (v1 ≠ r0.c.T))) H (aF rfl)))))))))))
  · exact Yh (t := 11) (b' := false) rfl (decide_eq_false g4) (Zi Za (Zi Za (Zi Za (Zi Za (Zi Za (Zi Za (Zi Za (Xf Zd (Zf (Ut (b := false) H (aF rfl)))))))))))
 ·
  rintro b5 H; unfold Z4j at H; refine Zc Za ?_; refine TO.join [17, 18, 19, 20, 21, 22, 23, 24, 25, 26] [27, 28, 29, 30, 31, 32, 33, 34, 35, 36] rfl 30 (fun b8 => Z26 r0 v1 b8 = some o0) [(0, pV f2), (1, iV v1)] ?_ ?_
  ·
   rcases Zy H with ⟨g6, H⟩ | ⟨g6, H⟩
   · obtain ⟨g7, H⟩ := Zz H; exact Yh (t := 20) (b' := true) rfl g6 (Zc Za (TO.nilCheck Za (Zp Za Gt (TO.fieldAddr Za Lc (Zo Za Wn Zk rfl (Zc Za (Xg f5 g7 Zd Yq Yp (Wg f5 g7 Za Xj (Zw Zu (Xe Zd (Zf (Ut (b := (decide (0 < (r0.p.Ex.getD v1.toNat 0)))) H (aF rfl)))))))))))))
   · exact Yh (t := 20) (b' := false) rfl (Bool.eq_false_iff.2 g6) (Zi Za (Zi Za (Zi Za (Zi Za (Zi Za (Zi Za (Zi Za (Zi Za (Zi Za (Xf Zd (Zf (Ut (b := false) H (aF rfl)))))))))))))
  ·
   rintro b8 H; unfold Z26 at H; refine Zc Za ?_; refine TO.join [28, 29, 30, 31, 32, 33, 34, 35, 36] [] rfl 40 (fun h2 => Z2q r0 v1 h2 = some o0) [(0, pV f2), (1, iV v1)] ?_ ?_
   ·
    rcases Zy H with ⟨g9, H⟩ | ⟨g9, H⟩
    · obtain ⟨h3, H⟩ := Zz H; exact Yh (t := 31) (b' := true) rfl g9 (Zc Za (TO.nilCheck Za (Zp Za Zbr (Zo Za Kh Zk rfl (Zc Za (Xs f3 f4 f0 h3 Zd Vi Wq (Z0e f3 f4 f0 h3 Za Kn Yx (TO.not Za (Xe Zd (Zf (Ut (b := (!(r0.ins.getD v1.toNat false))) H (aF rfl))))))))))))
    · exact Yh (t := 31) (b' := false) rfl (Bool.eq_false_iff.2 g9) (Zi Za (Zi Za (Zi Za (Zi Za (Zi Za (Zi Za (Zi Za (Zi Za (Xf Zd (Zf (Ut (b := false) H (aF rfl))))))))))))
   ·
    rintro h2 H; unfold Z2q at H; refine Zf (Lt ?_); rcases Zy H with ⟨h1, H⟩ | ⟨h1, H⟩
    · refine Zal rfl h1 (TK.seq ?_); obtain ⟨h4, H⟩ := Zz H; refine Lo rfl (Lp (ll := [0, 1, 2, 3, 4, 5, 6]) rfl (Zc Za (TO.nilCheck Za (Zp Za Zbr (Zo Za Kh Zk rfl (Zc Za (Xs f3 f4 f0 h4 Zd Vi Wq (Rd f3 f4 f0 h4 Za Zs Wq (Zf (Lt ?_)))))))))); obtain ⟨h5, H⟩ := Zz H; refine TK.region (ll := [0, 1, 2, 3, 4, 5]) rfl (TOK.pre [0, 1, 2, 3, 4] [5] rfl (TQ.move Za (TQ.nilCheck Za (Ww Za Zdv (Wv Za Zf2 Yi rfl (TQ.move Za (TQ.doneK (TOK.send (u := r0.row) h5 rfl rfl rfl rfl Zs (Zc9 rfl (Zf (Lg ?_))))))))))); obtain rfl := ret1 H; exact Jx Za  (Zb Zs (Zb Ze (Zb Ze Zg))) ⟨(e8 + 1), e9, rfl, rfl, (List.length_set.trans f0)⟩
    · refine Zac rfl (Bool.eq_false_iff.2 h1) (TK.skip rfl (Lg ?_)); obtain rfl := ret1 H; exact Jx Za  (Zb Ze (Zb Ze (Zb Ze Zg))) ⟨e8, e9, rfl, rfl, f0⟩
theorem Zij {pr0 : FifoRun} {e8 a9 d9 b5 d2 b9 a6 d6 d7 e0 b6 c7 d1 c9 e1 d4 a7 e2 c3 a5 e7 e5 e3 e4 : Nat} {d8 b0 a8 b7 b8 c4 d5 d0 c8 : Option Addr} {a4 : Option Nat} {e6 : List Value} (w : World) (hin : Inv w (([(eC e8 #[iV pr0.c.N, iV pr0.c.S, iV pr0.c.T, .slice d8 a9 d9, .slice b0 b5 d2, .slice a8 b9 a6, .slice b7 d6 d7, .slice b8 e0 b6, .slice c4 c7 d1, .slice d5 c9 e1, .slice d0 d4 a7, .slice c8 e2 c3, .chan (some a5), sV a4 e3 e4, iV pr0.work.Pushes, iV pr0.work.Lifts] 128), (some a5, chanO .i64 pr0.row e7 e5), (eA a4 boolC pr0.ins e6 4)] : Heap).filterMap Prod.fst) w [(eC e8 #[iV pr0.c.N, iV pr0.c.S, iV pr0.c.T, .slice d8 a9 d9, .slice b0 b5 d2, .slice a8 b9 a6, .slice b7 d6 d7, .slice b8 e0 b6, .slice c4 c7 d1, .slice d5 c9 e1, .slice d0 d4 a7, .slice c8 e2 c3, .chan (some a5), sV a4 e3 e4, iV pr0.work.Pushes, iV pr0.work.Lifts] 128), (some a5, chanO .i64 pr0.row e7 e5), (eA a4 boolC pr0.ins e6 4)]) (f8 : RS w (([(eC e8 #[iV pr0.c.N, iV pr0.c.S, iV pr0.c.T, .slice d8 a9 d9, .slice b0 b5 d2, .slice a8 b9 a6, .slice b7 d6 d7, .slice b8 e0 b6, .slice c4 c7 d1, .slice d5 c9 e1, .slice d0 d4 a7, .slice c8 e2 c3, .chan (some a5), sV a4 e3 e4, iV pr0.work.Pushes, iV pr0.work.Lifts] 128), (some a5, chanO .i64 pr0.row e7 e5), (eA a4 boolC pr0.ins e6 4)] : Heap).filterMap Prod.fst) iC 1 d8 a9 d9 pr0.c.First) (f6 : RS w (([(eC e8 #[iV pr0.c.N, iV pr0.c.S, iV pr0.c.T, .slice d8 a9 d9, .slice b0 b5 d2, .slice a8 b9 a6, .slice b7 d6 d7, .slice b8 e0 b6, .slice c4 c7 d1, .slice d5 c9 e1, .slice d0 d4 a7, .slice c8 e2 c3, .chan (some a5), sV a4 e3 e4, iV pr0.work.Pushes, iV pr0.work.Lifts] 128), (some a5, chanO .i64 pr0.row e7 e5), (eA a4 boolC pr0.ins e6 4)] : Heap).filterMap Prod.fst) iC 1 b0 b5 d2 pr0.c.Head) (f4 : RS w (([(eC e8 #[iV pr0.c.N, iV pr0.c.S, iV pr0.c.T, .slice d8 a9 d9, .slice b0 b5 d2, .slice a8 b9 a6, .slice b7 d6 d7, .slice b8 e0 b6, .slice c4 c7 d1, .slice d5 c9 e1, .slice d0 d4 a7, .slice c8 e2 c3, .chan (some a5), sV a4 e3 e4, iV pr0.work.Pushes, iV pr0.work.Lifts] 128), (some a5, chanO .i64 pr0.row e7 e5), (eA a4 boolC pr0.ins e6 4)] : Heap).filterMap Prod.fst) iC 1 a8 b9 a6 pr0.c.Rev) (g0 : RS w (([(eC e8 #[iV pr0.c.N, iV pr0.c.S, iV pr0.c.T, .slice d8 a9 d9, .slice b0 b5 d2, .slice a8 b9 a6, .slice b7 d6 d7, .slice b8 e0 b6, .slice c4 c7 d1, .slice d5 c9 e1, .slice d0 d4 a7, .slice c8 e2 c3, .chan (some a5), sV a4 e3 e4, iV pr0.work.Pushes, iV pr0.work.Lifts] 128), (some a5, chanO .i64 pr0.row e7 e5), (eA a4 boolC pr0.ins e6 4)] : Heap).filterMap Prod.fst) iC 1 b7 d6 d7 pr0.c.Cap) (f5 : RS w (([(eC e8 #[iV pr0.c.N, iV pr0.c.S, iV pr0.c.T, .slice d8 a9 d9, .slice b0 b5 d2, .slice a8 b9 a6, .slice b7 d6 d7, .slice b8 e0 b6, .slice c4 c7 d1, .slice d5 c9 e1, .slice d0 d4 a7, .slice c8 e2 c3, .chan (some a5), sV a4 e3 e4, iV pr0.work.Pushes, iV pr0.work.Lifts] 128), (some a5, chanO .i64 pr0.row e7 e5), (eA a4 boolC pr0.ins e6 4)] : Heap).filterMap Prod.fst) iC 1 b8 e0 b6 pr0.c.Arc) (f9 : RS w (([(eC e8 #[iV pr0.c.N, iV pr0.c.S, iV pr0.c.T, .slice d8 a9 d9, .slice b0 b5 d2, .slice a8 b9 a6, .slice b7 d6 d7, .slice b8 e0 b6, .slice c4 c7 d1, .slice d5 c9 e1, .slice d0 d4 a7, .slice c8 e2 c3, .chan (some a5), sV a4 e3 e4, iV pr0.work.Pushes, iV pr0.work.Lifts] 128), (some a5, chanO .i64 pr0.row e7 e5), (eA a4 boolC pr0.ins e6 4)] : Heap).filterMap Prod.fst) boolC 1 c4 c7 d1 pr0.c.Back) (f7 : RS w (([(eC e8 #[iV pr0.c.N, iV pr0.c.S, iV pr0.c.T, .slice d8 a9 d9, .slice b0 b5 d2, .slice a8 b9 a6, .slice b7 d6 d7, .slice b8 e0 b6, .slice c4 c7 d1, .slice d5 c9 e1, .slice d0 d4 a7, .slice c8 e2 c3, .chan (some a5), sV a4 e3 e4, iV pr0.work.Pushes, iV pr0.work.Lifts] 128), (some a5, chanO .i64 pr0.row e7 e5), (eA a4 boolC pr0.ins e6 4)] : Heap).filterMap Prod.fst) iC 1 d5 c9 e1 pr0.p.Res) (g2 : RS w (([(eC e8 #[iV pr0.c.N, iV pr0.c.S, iV pr0.c.T, .slice d8 a9 d9, .slice b0 b5 d2, .slice a8 b9 a6, .slice b7 d6 d7, .slice b8 e0 b6, .slice c4 c7 d1, .slice d5 c9 e1, .slice d0 d4 a7, .slice c8 e2 c3, .chan (some a5), sV a4 e3 e4, iV pr0.work.Pushes, iV pr0.work.Lifts] 128), (some a5, chanO .i64 pr0.row e7 e5), (eA a4 boolC pr0.ins e6 4)] : Heap).filterMap Prod.fst) iC 1 d0 d4 a7 pr0.p.Ex) (g1 : RS w (([(eC e8 #[iV pr0.c.N, iV pr0.c.S, iV pr0.c.T, .slice d8 a9 d9, .slice b0 b5 d2, .slice a8 b9 a6, .slice b7 d6 d7, .slice b8 e0 b6, .slice c4 c7 d1, .slice d5 c9 e1, .slice d0 d4 a7, .slice c8 e2 c3, .chan (some a5), sV a4 e3 e4, iV pr0.work.Pushes, iV pr0.work.Lifts] 128), (some a5, chanO .i64 pr0.row e7 e5), (eA a4 boolC pr0.ins e6 4)] : Heap).filterMap Prod.fst) iC 1 c8 e2 c3 pr0.p.H) (e9 : pr0.ins.length = e3) (f2 : e3 ≤ e4) (f3 : e6.length = (e4 - e3) * 1) (f0 : (a4 = none → e4 = 0)) {r0 : Int} {r1 : Bool} {o0 : FifoRun} (H : Z90 pr0 = some (r0, r1, o0)) : Fnc Try.prog 78 #[pV e8] w (([(eC e8 #[iV pr0.c.N, iV pr0.c.S, iV pr0.c.T, .slice d8 a9 d9, .slice b0 b5 d2, .slice a8 b9 a6, .slice b7 d6 d7, .slice b8 e0 b6, .slice c4 c7 d1, .slice d5 c9 e1, .slice d0 d4 a7, .slice c8 e2 c3, .chan (some a5), sV a4 e3 e4, iV pr0.work.Pushes, iV pr0.work.Lifts] 128), (some a5, chanO .i64 pr0.row e7 e5), (eA a4 boolC pr0.ins e6 4)] : Heap).filterMap Prod.fst) (fun v N => ∃ (g3 g6 : Nat), v = .tuple #[iV r0, .bool r1] ∧ N = [(eC e8 #[iV pr0.c.N, iV pr0.c.S, iV pr0.c.T, .slice d8 a9 d9, .slice b0 b5 d2, .slice a8 b9 a6, .slice b7 d6 d7, .slice b8 e0 b6, .slice c4 c7 d1, .slice d5 c9 e1, .slice d0 d4 a7, .slice c8 e2 c3, .chan (some a5), sV a4 e3 e4, iV pr0.work.Pushes, iV pr0.work.Lifts] 128), (some a5, chanO .i64 o0.row g3 g6), (eA a4 boolC o0.ins e6 4)] ∧ o0.ins.length = e3) := by
 unfold Z90 at H; refine Zcx (vs := [pV e8]) Try.func78 rfl rfl hin (TK.seq (Lo rfl (Lp (ll := [0, 1]) rfl (Ye Za (Ye Za (Zf (Lt (TK.seq (Lo rfl (Lp (ll := [0, 1, 2, 3]) rfl (Zc Za (TO.nilCheck Za (Zp Za Zdv (Zo Za Zf2 Zk rfl (Zf (Lt ?_)))))))))))))))); refine TK.seq ?_; rcases Zy H with ⟨g4, H⟩ | ⟨g4, H⟩
 · refine TK.region (ll := [0, 1, 2]) rfl (TOK.selD (u := pr0.row) g4 rfl rfl rfl rfl Vw Yi (Zc9 rfl (TO.extract Zd ?_))); refine Ri (b := false) Zu (by first | decide | rfl) ?_; refine Zf (Lt (TK.block (Zac rfl rfl (TK.seq (Lo rfl (Lp (ll := [0, 1]) rfl (Ye Za (Ye Za (Zf (Lt (Z9x (aT [2, 3] rfl) (TK.ret rfl (Xd ?_))))))))))))); obtain ⟨rfl, rfl, rfl⟩ := ret3 H; exact Vt Za (Res.tmp rfl) (Res.tmp rfl) (Zb Ze (Zb Ze (Zb Ze Zg))) ⟨e7, e5, rfl, rfl, e9⟩
 · refine TK.region (ll := [0, 1, 2]) rfl (TOK.selR (u := pr0.row) g4 rfl rfl rfl rfl Vw Zt (Zc9 rfl (TO.extract Zd ?_))); refine Ri (b := true) Zu (by first | decide | rfl) ?_; refine Zf (Lt (TK.block (Zal rfl rfl (TK.seq (Lo rfl (Lp (ll := [0, 1]) rfl (TO.extract Zd (Ye Za (Zf (Lt (Z9x (aT [0, 4] rfl) (TK.seq ?_)))))))))))); obtain ⟨g5, H⟩ := Zz H; refine Lo rfl (Lp (ll := [0, 1, 2, 3, 4, 5, 6]) rfl (Zc Za (TO.nilCheck Za (Zp Za Zbr (Zo Za Kh Yi rfl (Zc Za (Xs f0 f2 e9 g5 Zd Vi Wq (Rd f0 f2 e9 g5 Za Zs Wq (Zf (Lt (TK.seq (Lo rfl (Lp (ll := [0, 1, 2]) rfl (Zc Za (Ye Za (Ye Za ?_)))))))))))))))); refine Zf (Lt (Z9x (aT [2, 3] rfl) (TK.ret rfl (Xd ?_)))); obtain ⟨rfl, rfl, rfl⟩ := ret3 H; exact Vt Za (Res.tmp rfl) (Res.tmp rfl) (Zb Zs (Zb Zt (Zb Ze Zg))) ⟨e7, (e5 + 1), rfl, rfl, (List.length_set.trans e9)⟩
theorem Zhk {r0 : FifoRun} {u1 a2 : Int} {f7 f0 d7 c9 e9 e0 e7 d2 d0 e8 e3 e4 d5 a8 b6 a9 b7 d9 d8 b5 f5 f6 f2 f3 : Nat} {e1 d4 c8 d1 e5 e6 d6 : Option Addr} {a4 a5 b0 : Option Nat} {c7 e2 f4 : List Value} (w : World) (hin : Inv w (([(eC f7 #[iV r0.c.N, iV r0.c.S, iV r0.c.T, .slice e1 f0 d7, .slice d4 c9 e9, .slice c8 e0 e7, .slice d1 d2 d0, .slice e5 e8 e3, .slice e6 e4 d5, sV a4 a8 b6, sV a5 a9 b7, .slice d6 d9 d8, .chan (some b5), sV b0 f2 f3, iV r0.work.Pushes, iV r0.work.Lifts] 128), (eI a4 r0.p.Res c7 2), (eI a5 r0.p.Ex e2 2), (some b5, chanO .i64 r0.row f5 f6), (eA b0 boolC r0.ins f4 4)] : Heap).filterMap Prod.fst) w [(eC f7 #[iV r0.c.N, iV r0.c.S, iV r0.c.T, .slice e1 f0 d7, .slice d4 c9 e9, .slice c8 e0 e7, .slice d1 d2 d0, .slice e5 e8 e3, .slice e6 e4 d5, sV a4 a8 b6, sV a5 a9 b7, .slice d6 d9 d8, .chan (some b5), sV b0 f2 f3, iV r0.work.Pushes, iV r0.work.Lifts] 128), (eI a4 r0.p.Res c7 2), (eI a5 r0.p.Ex e2 2), (some b5, chanO .i64 r0.row f5 f6), (eA b0 boolC r0.ins f4 4)]) (g2 : RS w (([(eC f7 #[iV r0.c.N, iV r0.c.S, iV r0.c.T, .slice e1 f0 d7, .slice d4 c9 e9, .slice c8 e0 e7, .slice d1 d2 d0, .slice e5 e8 e3, .slice e6 e4 d5, sV a4 a8 b6, sV a5 a9 b7, .slice d6 d9 d8, .chan (some b5), sV b0 f2 f3, iV r0.work.Pushes, iV r0.work.Lifts] 128), (eI a4 r0.p.Res c7 2), (eI a5 r0.p.Ex e2 2), (some b5, chanO .i64 r0.row f5 f6), (eA b0 boolC r0.ins f4 4)] : Heap).filterMap Prod.fst) iC 1 e1 f0 d7 r0.c.First) (f8 : RS w (([(eC f7 #[iV r0.c.N, iV r0.c.S, iV r0.c.T, .slice e1 f0 d7, .slice d4 c9 e9, .slice c8 e0 e7, .slice d1 d2 d0, .slice e5 e8 e3, .slice e6 e4 d5, sV a4 a8 b6, sV a5 a9 b7, .slice d6 d9 d8, .chan (some b5), sV b0 f2 f3, iV r0.work.Pushes, iV r0.work.Lifts] 128), (eI a4 r0.p.Res c7 2), (eI a5 r0.p.Ex e2 2), (some b5, chanO .i64 r0.row f5 f6), (eA b0 boolC r0.ins f4 4)] : Heap).filterMap Prod.fst) iC 1 d4 c9 e9 r0.c.Head) (f9 : RS w (([(eC f7 #[iV r0.c.N, iV r0.c.S, iV r0.c.T, .slice e1 f0 d7, .slice d4 c9 e9, .slice c8 e0 e7, .slice d1 d2 d0, .slice e5 e8 e3, .slice e6 e4 d5, sV a4 a8 b6, sV a5 a9 b7, .slice d6 d9 d8, .chan (some b5), sV b0 f2 f3, iV r0.work.Pushes, iV r0.work.Lifts] 128), (eI a4 r0.p.Res c7 2), (eI a5 r0.p.Ex e2 2), (some b5, chanO .i64 r0.row f5 f6), (eA b0 boolC r0.ins f4 4)] : Heap).filterMap Prod.fst) iC 1 c8 e0 e7 r0.c.Rev) (h2 : RS w (([(eC f7 #[iV r0.c.N, iV r0.c.S, iV r0.c.T, .slice e1 f0 d7, .slice d4 c9 e9, .slice c8 e0 e7, .slice d1 d2 d0, .slice e5 e8 e3, .slice e6 e4 d5, sV a4 a8 b6, sV a5 a9 b7, .slice d6 d9 d8, .chan (some b5), sV b0 f2 f3, iV r0.work.Pushes, iV r0.work.Lifts] 128), (eI a4 r0.p.Res c7 2), (eI a5 r0.p.Ex e2 2), (some b5, chanO .i64 r0.row f5 f6), (eA b0 boolC r0.ins f4 4)] : Heap).filterMap Prod.fst) iC 1 d1 d2 d0 r0.c.Cap) (g1 : RS w (([(eC f7 #[iV r0.c.N, iV r0.c.S, iV r0.c.T, .slice e1 f0 d7, .slice d4 c9 e9, .slice c8 e0 e7, .slice d1 d2 d0, .slice e5 e8 e3, .slice e6 e4 d5, sV a4 a8 b6, sV a5 a9 b7, .slice d6 d9 d8, .chan (some b5), sV b0 f2 f3, iV r0.work.Pushes, iV r0.work.Lifts] 128), (eI a4 r0.p.Res c7 2), (eI a5 r0.p.Ex e2 2), (some b5, chanO .i64 r0.row f5 f6), (eA b0 boolC r0.ins f4 4)] : Heap).filterMap Prod.fst) iC 1 e5 e8 e3 r0.c.Arc) (g0 : RS w (([(eC f7 #[iV r0.c.N, iV r0.c.S, iV r0.c.T, .slice e1 f0 d7, .slice d4 c9 e9, .slice c8 e0 e7, .slice d1 d2 d0, .slice e5 e8 e3, .slice e6 e4 d5, sV a4 a8 b6, sV a5 a9 b7, .slice d6 d9 d8, .chan (some b5), sV b0 f2 f3, iV r0.work.Pushes, iV r0.work.Lifts] 128), (eI a4 r0.p.Res c7 2), (eI a5 r0.p.Ex e2 2), (some b5, chanO .i64 r0.row f5 f6), (eA b0 boolC r0.ins f4 4)] : Heap).filterMap Prod.fst) boolC 1 e6 e4 d5 r0.c.Back) (a7 : r0.p.Res.length = a8) (c4 : a8 ≤ b6) (h4 : c7.length = (b6 - a8) * 1) (b8 : (a4 = none → b6 = 0)) (a6 : r0.p.Ex.length = a9) (c3 : a9 ≤ b7) (h3 : e2.length = (b7 - a9) * 1) (b9 : (a5 = none → b7 = 0)) (h0 : RS w (([(eC f7 #[iV r0.c.N, iV r0.c.S, iV r0.c.T, .slice e1 f0 d7, .slice d4 c9 e9, .slice c8 e0 e7, .slice d1 d2 d0, .slice e5 e8 e3, .slice e6 e4 d5, sV a4 a8 b6, sV a5 a9 b7, .slice d6 d9 d8, .chan (some b5), sV b0 f2 f3, iV r0.work.Pushes, iV r0.work.Lifts] 128), (eI a4 r0.p.Res c7 2), (eI a5 r0.p.Ex e2 2), (some b5, chanO .i64 r0.row f5 f6), (eA b0 boolC r0.ins f4 4)] : Heap).filterMap Prod.fst) iC 1 d6 d9 d8 r0.p.H) (h1 : r0.ins.length = f2) (g5 : f2 ≤ f3) (g3 : f4.length = (f3 - f2) * 1) (g4 : (b0 = none → f3 = 0)) {o0 : FifoRun} (H : Z4v r0 u1 a2 = some o0) : Fnc Try.prog 108 #[pV f7, iV u1, iV a2] w (([(eC f7 #[iV r0.c.N, iV r0.c.S, iV r0.c.T, .slice e1 f0 d7, .slice d4 c9 e9, .slice c8 e0 e7, .slice d1 d2 d0, .slice e5 e8 e3, .slice e6 e4 d5, sV a4 a8 b6, sV a5 a9 b7, .slice d6 d9 d8, .chan (some b5), sV b0 f2 f3, iV r0.work.Pushes, iV r0.work.Lifts] 128), (eI a4 r0.p.Res c7 2), (eI a5 r0.p.Ex e2 2), (some b5, chanO .i64 r0.row f5 f6), (eA b0 boolC r0.ins f4 4)] : Heap).filterMap Prod.fst) (fun v N => ∃ (h5 h6 : Nat), v = .tuple #[] ∧ N = [(eC f7 #[iV r0.c.N, iV r0.c.S, iV r0.c.T, .slice e1 f0 d7, .slice d4 c9 e9, .slice c8 e0 e7, .slice d1 d2 d0, .slice e5 e8 e3, .slice e6 e4 d5, sV a4 a8 b6, sV a5 a9 b7, .slice d6 d9 d8, .chan (some b5), sV b0 f2 f3, iV o0.work.Pushes, iV r0.work.Lifts] 128), (eI a4 o0.p.Res c7 2), (eI a5 o0.p.Ex e2 2), (some b5, chanO .i64 o0.row h5 h6), (eA b0 boolC o0.ins f4 4)] ∧ o0.p.Res.length = a8 ∧ o0.p.Ex.length = a9 ∧ o0.ins.length = f2) := by
 unfold Z4v at H; refine Fnc.enter (vs := [pV f7, iV u1, iV a2]) Try.func108 rfl rfl hin (Zl ?_); obtain ⟨g6, g7, H⟩ := Vp H; refine Ug 17 [0, 1, 2, 3, 4, 5, 6, 7, 8, 9, 10, 11, 12, 13, 14, 15, 16] rfl Xy (by kernel_rfl) (by kernel_rfl) rfl (by kernel_rfl) ?_; refine TQ.move Za (TQ.nilCheck Za (Ww Za Rw (Ww Za Rg (Wv Za Xn Zk rfl (TQ.move Za (Ub f9 g6 Zd Yg Yj (Kc f9 g6 Za Zx (TQ.move Za (TQ.nilCheck Za (Ww Za Rw (Ww Za Lm (Wv Za Xn Zk rfl (TQ.move Za (Ub f8 g7 Zd Yg Yj (Kc f8 g7 Za Zx (TQ.assign Za ?_)))))))))))))))); refine TQ.tail [17] Xw (aN Za (Zq (aT [0, 1, 2, 6, 7] rfl) (Zl ?_))); obtain ⟨g8, g9, H⟩ := Vp H; refine Ug 16 [0, 1, 2, 3, 4, 5, 6, 7, 8, 9, 10, 11, 12, 13, 14, 15] rfl Xy (by kernel_rfl) (by kernel_rfl) rfl (by kernel_rfl) ?_; refine TQ.move Za (TQ.nilCheck Za (Ww Za Gt (TQ.fieldAddr Za Lc (Wv Za Wn Zk rfl (TQ.move Za (Nb b9 c3 a6 g8 Zd Yq Yp (Gy b9 c3 a6 g8 Za Xj Yx (TQ.move Za (TQ.nilCheck Za (Ww Za Gt (TQ.fieldAddr Za Js (Wv Za Wn Zk rfl (TQ.move Za (Nb b8 c4 a7 g9 Zd Yq Yp (Gy b8 c4 a7 g9 Za Xj Yi (TQ.tail [16, 17] Xw ?_)))))))))))))))); refine TO.min2 Zd (aN Za (Zq (aT [0, 1, 2, 6, 7, 8] rfl) ?_)); obtain ⟨i2, j1, i4, H⟩ := Uy H; refine sR Y12 rfl (Zc Za (TO.nilCheck Za (Zp Za Gt (TO.fieldAddr Za Js (Zo Za Wn Zk rfl (Zc Za (Xs b8 c4 a7 i2 Zd Yq Yp (Vu b8 c4 a7 i2 Za Xj Yi (Zc Za (Jc j1 Zd (Xs b8 c4 a7 i4 Zd Yq Yp (Ki b8 c4 a7 i4 Za Zt Yp (dN (Zq (aT [0, 1, 6, 7, 8] rfl) ?_)))))))))))))); obtain ⟨i5, j2, i6, H⟩ := Uy H; refine sR Y12 rfl (Zc Za (TO.nilCheck Za (Zp Za Gt (TO.fieldAddr Za Js (Zo Za Wn Yi rfl (Zc Za (Xs b8 c4 (List.length_set.trans a7) i5 Zd Yq Yp (Vu b8 c4 (List.length_set.trans a7) i5 Za Xj Zk (Zc Za (Yy j2 Zd (Xs b8 c4 (List.length_set.trans a7) i6 Zd Yq Yp (Ki b8 c4 (List.length_set.trans a7) i6 Za Ze Yp (dN (Zq (aT [0, 1, 7, 8] rfl) ?_)))))))))))))); obtain ⟨i7, j3, i8, H⟩ := Uy H; refine sR Y12 rfl (Zc Za (TO.nilCheck Za (Zp Za Gt (TO.fieldAddr Za Lc (Zo Za Wn Yi rfl (Zc Za (Xs b9 c3 a6 i7 Zd Yq Yp (Vu b9 c3 a6 i7 Za Xj Yx (Zc Za (Jc j3 Zd (Xs b9 c3 a6 i8 Zd Yq Yp (Ki b9 c3 a6 i8 Za Zs Yp (dN (Zq (aT [0, 7, 8] rfl) ?_)))))))))))))); obtain ⟨i9, j4, j0, H⟩ := Uy H; refine sR Y12 rfl (Zc Za (TO.nilCheck Za (Zp Za Gt (TO.fieldAddr Za Lc (Zo Za Wn Yx rfl (Zc Za (Xs b9 c3 (List.length_set.trans a6) i9 Zd Yq Yp (Vu b9 c3 (List.length_set.trans a6) i9 Za Xj Zk (Zc Za (Yy j4 Zd (Xs b9 c3 (List.length_set.trans a6) j0 Zd Yq Yp (Ki b9 c3 (List.length_set.trans a6) j0 Za Ze Yp (dN (Zq (aT [0, 7] rfl) ?_)))))))))))))); obtain ⟨j5, H⟩ := Zz H; refine sR Y10 rfl (Zc Za (TO.nilCheck Za (Zp Za Z3r (TO.fieldAddr Za Zcd (Zo Za Zx Yx rfl (Yy j5 Zd (TO.nilCheck Za (Zp Za Z3r (TO.fieldAddr Za Zcd ?_))))))))); refine Vr (cs' := [iV r0.c.N, iV r0.c.S, iV r0.c.T, .slice e1 f0 d7, .slice d4 c9 e9, .slice c8 e0 e7, .slice d1 d2 d0, .slice e5 e8 e3, .slice e6 e4 d5, sV a4 a8 b6, sV a5 a9 b7, .slice d6 d9 d8, .chan (some b5), sV b0 f2 f3, iV (r0.work.Pushes + 1), iV r0.work.Lifts]) Za Zs Yj Ya ?_; refine dN (Zq (aT [0, 7] rfl) ?_); obtain ⟨j7, j6, H⟩ := Zv H; refine rG Y3 rfl (Zc Za (Zc Za ?_)); refine Rt Zdx Za (Zj Ze (Zj Zs (Zj Zs (Gone.refl _)))) rfl (fun wc hwc => Zg0 (r0 := (FifoRun.mk r0.c (Pre.mk ((r0.p.Res.set a2.toNat ((r0.p.Res.getD a2.toNat 0) - (min (r0.p.Ex.getD u1.toNat 0) (r0.p.Res.getD a2.toNat 0)))).set (r0.c.Rev.getD a2.toNat 0).toNat (((r0.p.Res.set a2.toNat ((r0.p.Res.getD a2.toNat 0) - (min (r0.p.Ex.getD u1.toNat 0) (r0.p.Res.getD a2.toNat 0)))).getD (r0.c.Rev.getD a2.toNat 0).toNat 0) + (min (r0.p.Ex.getD u1.toNat 0) (r0.p.Res.getD a2.toNat 0)))) ((r0.p.Ex.set u1.toNat ((r0.p.Ex.getD u1.toNat 0) - (min (r0.p.Ex.getD u1.toNat 0) (r0.p.Res.getD a2.toNat 0)))).set (r0.c.Head.getD a2.toNat 0).toNat (((r0.p.Ex.set u1.toNat ((r0.p.Ex.getD u1.toNat 0) - (min (r0.p.Ex.getD u1.toNat 0) (r0.p.Res.getD a2.toNat 0)))).getD (r0.c.Head.getD a2.toNat 0).toNat 0) + (min (r0.p.Ex.getD u1.toNat 0) (r0.p.Res.getD a2.toNat 0)))) r0.p.H) r0.row r0.ins (Work.mk (r0.work.Pushes + 1) r0.work.Lifts))) (v1 := (r0.c.Head.getD a2.toNat 0)) wc (hwc.self (Zb Ze (Zb Zs (Zb Zs Zg))) rfl) (g2.monoM (by decide) hwc (Zj Ze (Zj Zs (Zj Zs (Gone.refl _)))) rfl) (f8.monoM (by decide) hwc (Zj Ze (Zj Zs (Zj Zs (Gone.refl _)))) rfl) (f9.monoM (by decide) hwc (Zj Ze (Zj Zs (Zj Zs (Gone.refl _)))) rfl) (h2.monoM (by decide) hwc (Zj Ze (Zj Zs (Zj Zs (Gone.refl _)))) rfl) (g1.monoM (by decide) hwc (Zj Ze (Zj Zs (Zj Zs (Gone.refl _)))) rfl) (g0.monoM (by decide) hwc (Zj Ze (Zj Zs (Zj Zs (Gone.refl _)))) rfl) (hwc.rsM (f := iC) (s := 1) (xs := ((r0.p.Res.set a2.toNat ((r0.p.Res.getD a2.toNat 0) - (min (r0.p.Ex.getD u1.toNat 0) (r0.p.Res.getD a2.toNat 0)))).set (r0.c.Rev.getD a2.toNat 0).toNat (((r0.p.Res.set a2.toNat ((r0.p.Res.getD a2.toNat 0) - (min (r0.p.Ex.getD u1.toNat 0) (r0.p.Res.getD a2.toNat 0)))).getD (r0.c.Rev.getD a2.toNat 0).toNat 0) + (min (r0.p.Ex.getD u1.toNat 0) (r0.p.Res.getD a2.toNat 0))))) (j := c7) (fun _ => rfl) (Zj Ze (Zj Zs (Zj Zs (Gone.refl _)))) rfl Yi (List.length_set.trans (List.length_set.trans a7)) c4 b8) (hwc.rsM (f := iC) (s := 1) (xs := ((r0.p.Ex.set u1.toNat ((r0.p.Ex.getD u1.toNat 0) - (min (r0.p.Ex.getD u1.toNat 0) (r0.p.Res.getD a2.toNat 0)))).set (r0.c.Head.getD a2.toNat 0).toNat (((r0.p.Ex.set u1.toNat ((r0.p.Ex.getD u1.toNat 0) - (min (r0.p.Ex.getD u1.toNat 0) (r0.p.Res.getD a2.toNat 0)))).getD (r0.c.Head.getD a2.toNat 0).toNat 0) + (min (r0.p.Ex.getD u1.toNat 0) (r0.p.Res.getD a2.toNat 0))))) (j := e2) (fun _ => rfl) (Zj Ze (Zj Zs (Zj Zs (Gone.refl _)))) rfl Zk (List.length_set.trans (List.length_set.trans a6)) c3 b9) (h0.monoM (by decide) hwc (Zj Ze (Zj Zs (Zj Zs (Gone.refl _)))) rfl) h1 g5 g3 g4 j6) ?_; rintro _ _ ⟨h7, h8, rfl, rfl, h9⟩; refine Zf (Lg ?_); obtain rfl := ret1 H; exact Jx Za  (Zb Ze (Zb Wj (Zb Zs (Zb Ze (Zb Ze Zg))))) ⟨h7, h8, rfl, rfl, (List.length_set.trans (List.length_set.trans a7)), (List.length_set.trans (List.length_set.trans a6)), h9⟩
theorem Zix {r0 : FifoRun} {u1 : Int} {f8 e3 d2 c3 e2 d4 e0 c8 c4 e1 d6 d7 d1 a7 b7 a8 b8 a9 b6 b5 f3 f4 e7 e8 : Nat} {d5 d0 b9 c7 d8 d9 : Option Addr} {a4 a6 a5 b0 : Option Nat} {e4 e5 c9 f2 : List Value} (w : World) (hin : Inv w (([(eC f8 #[iV r0.c.N, iV r0.c.S, iV r0.c.T, .slice d5 e3 d2, .slice d0 c3 e2, .slice b9 d4 e0, .slice c7 c8 c4, .slice d8 e1 d6, .slice d9 d7 d1, sV a4 a7 b7, sV a6 a8 b8, sV a5 a9 b6, .chan (some b5), sV b0 e7 e8, iV r0.work.Pushes, iV r0.work.Lifts] 128), (eI a4 r0.p.Res e4 2), (eI a6 r0.p.Ex e5 2), (eI a5 r0.p.H c9 3), (some b5, chanO .i64 r0.row f3 f4), (eA b0 boolC r0.ins f2 4)] : Heap).filterMap Prod.fst) w [(eC f8 #[iV r0.c.N, iV r0.c.S, iV r0.c.T, .slice d5 e3 d2, .slice d0 c3 e2, .slice b9 d4 e0, .slice c7 c8 c4, .slice d8 e1 d6, .slice d9 d7 d1, sV a4 a7 b7, sV a6 a8 b8, sV a5 a9 b6, .chan (some b5), sV b0 e7 e8, iV r0.work.Pushes, iV r0.work.Lifts] 128), (eI a4 r0.p.Res e4 2), (eI a6 r0.p.Ex e5 2), (eI a5 r0.p.H c9 3), (some b5, chanO .i64 r0.row f3 f4), (eA b0 boolC r0.ins f2 4)]) (f7 : RS w (([(eC f8 #[iV r0.c.N, iV r0.c.S, iV r0.c.T, .slice d5 e3 d2, .slice d0 c3 e2, .slice b9 d4 e0, .slice c7 c8 c4, .slice d8 e1 d6, .slice d9 d7 d1, sV a4 a7 b7, sV a6 a8 b8, sV a5 a9 b6, .chan (some b5), sV b0 e7 e8, iV r0.work.Pushes, iV r0.work.Lifts] 128), (eI a4 r0.p.Res e4 2), (eI a6 r0.p.Ex e5 2), (eI a5 r0.p.H c9 3), (some b5, chanO .i64 r0.row f3 f4), (eA b0 boolC r0.ins f2 4)] : Heap).filterMap Prod.fst) iC 1 d5 e3 d2 r0.c.First) (g3 : RS w (([(eC f8 #[iV r0.c.N, iV r0.c.S, iV r0.c.T, .slice d5 e3 d2, .slice d0 c3 e2, .slice b9 d4 e0, .slice c7 c8 c4, .slice d8 e1 d6, .slice d9 d7 d1, sV a4 a7 b7, sV a6 a8 b8, sV a5 a9 b6, .chan (some b5), sV b0 e7 e8, iV r0.work.Pushes, iV r0.work.Lifts] 128), (eI a4 r0.p.Res e4 2), (eI a6 r0.p.Ex e5 2), (eI a5 r0.p.H c9 3), (some b5, chanO .i64 r0.row f3 f4), (eA b0 boolC r0.ins f2 4)] : Heap).filterMap Prod.fst) iC 1 d0 c3 e2 r0.c.Head) (h7 : RS w (([(eC f8 #[iV r0.c.N, iV r0.c.S, iV r0.c.T, .slice d5 e3 d2, .slice d0 c3 e2, .slice b9 d4 e0, .slice c7 c8 c4, .slice d8 e1 d6, .slice d9 d7 d1, sV a4 a7 b7, sV a6 a8 b8, sV a5 a9 b6, .chan (some b5), sV b0 e7 e8, iV r0.work.Pushes, iV r0.work.Lifts] 128), (eI a4 r0.p.Res e4 2), (eI a6 r0.p.Ex e5 2), (eI a5 r0.p.H c9 3), (some b5, chanO .i64 r0.row f3 f4), (eA b0 boolC r0.ins f2 4)] : Heap).filterMap Prod.fst) iC 1 b9 d4 e0 r0.c.Rev) (h8 : RS w (([(eC f8 #[iV r0.c.N, iV r0.c.S, iV r0.c.T, .slice d5 e3 d2, .slice d0 c3 e2, .slice b9 d4 e0, .slice c7 c8 c4, .slice d8 e1 d6, .slice d9 d7 d1, sV a4 a7 b7, sV a6 a8 b8, sV a5 a9 b6, .chan (some b5), sV b0 e7 e8, iV r0.work.Pushes, iV r0.work.Lifts] 128), (eI a4 r0.p.Res e4 2), (eI a6 r0.p.Ex e5 2), (eI a5 r0.p.H c9 3), (some b5, chanO .i64 r0.row f3 f4), (eA b0 boolC r0.ins f2 4)] : Heap).filterMap Prod.fst) iC 1 c7 c8 c4 r0.c.Cap) (h3 : RS w (([(eC f8 #[iV r0.c.N, iV r0.c.S, iV r0.c.T, .slice d5 e3 d2, .slice d0 c3 e2, .slice b9 d4 e0, .slice c7 c8 c4, .slice d8 e1 d6, .slice d9 d7 d1, sV a4 a7 b7, sV a6 a8 b8, sV a5 a9 b6, .chan (some b5), sV b0 e7 e8, iV r0.work.Pushes, iV r0.work.Lifts] 128), (eI a4 r0.p.Res e4 2), (eI a6 r0.p.Ex e5 2), (eI a5 r0.p.H c9 3), (some b5, chanO .i64 r0.row f3 f4), (eA b0 boolC r0.ins f2 4)] : Heap).filterMap Prod.fst) iC 1 d8 e1 d6 r0.c.Arc) (h2 : RS w (([(eC f8 #[iV r0.c.N, iV r0.c.S, iV r0.c.T, .slice d5 e3 d2, .slice d0 c3 e2, .slice b9 d4 e0, .slice c7 c8 c4, .slice d8 e1 d6, .slice d9 d7 d1, sV a4 a7 b7, sV a6 a8 b8, sV a5 a9 b6, .chan (some b5), sV b0 e7 e8, iV r0.work.Pushes, iV r0.work.Lifts] 128), (eI a4 r0.p.Res e4 2), (eI a6 r0.p.Ex e5 2), (eI a5 r0.p.H c9 3), (some b5, chanO .i64 r0.row f3 f4), (eA b0 boolC r0.ins f2 4)] : Heap).filterMap Prod.fst) boolC 1 d9 d7 d1 r0.c.Back) (f6 : r0.p.Res.length = a7) (g0 : a7 ≤ b7) (g6 : e4.length = (b7 - a7) * 1) (f9 : (a4 = none → b7 = 0)) (g2 : r0.p.Ex.length = a8) (h0 : a8 ≤ b8) (g5 : e5.length = (b8 - a8) * 1) (g9 : (a6 = none → b8 = 0)) (e6 : r0.p.H.length = a9) (e9 : a9 ≤ b6) (h9 : c9.length = (b6 - a9) * 1) (f0 : (a5 = none → b6 = 0)) (g4 : r0.ins.length = e7) (h6 : e7 ≤ e8) (h4 : f2.length = (e8 - e7) * 1) (h5 : (b0 = none → e8 = 0)) {o0 : FifoRun} (H : Z4o r0 u1 = some o0) : Fnc Try.prog 79 #[pV f8, iV u1] w (([(eC f8 #[iV r0.c.N, iV r0.c.S, iV r0.c.T, .slice d5 e3 d2, .slice d0 c3 e2, .slice b9 d4 e0, .slice c7 c8 c4, .slice d8 e1 d6, .slice d9 d7 d1, sV a4 a7 b7, sV a6 a8 b8, sV a5 a9 b6, .chan (some b5), sV b0 e7 e8, iV r0.work.Pushes, iV r0.work.Lifts] 128), (eI a4 r0.p.Res e4 2), (eI a6 r0.p.Ex e5 2), (eI a5 r0.p.H c9 3), (some b5, chanO .i64 r0.row f3 f4), (eA b0 boolC r0.ins f2 4)] : Heap).filterMap Prod.fst) (fun v N => ∃ (i5 i6 : Nat), v = .tuple #[] ∧ N = [(eC f8 #[iV r0.c.N, iV r0.c.S, iV r0.c.T, .slice d5 e3 d2, .slice d0 c3 e2, .slice b9 d4 e0, .slice c7 c8 c4, .slice d8 e1 d6, .slice d9 d7 d1, sV a4 a7 b7, sV a6 a8 b8, sV a5 a9 b6, .chan (some b5), sV b0 e7 e8, iV o0.work.Pushes, iV o0.work.Lifts] 128), (eI a4 o0.p.Res e4 2), (eI a6 o0.p.Ex e5 2), (eI a5 o0.p.H c9 3), (some b5, chanO .i64 o0.row i5 i6), (eA b0 boolC o0.ins f2 4)] ∧ o0.p.Res.length = a7 ∧ o0.p.Ex.length = a8 ∧ o0.p.H.length = a9 ∧ o0.ins.length = e7) := by
 unfold Z4o at H; refine Fnc.enter (vs := [pV f8, iV u1]) Try.func79 rfl rfl hin ?_; obtain ⟨g7, H⟩ := Zz H; refine sR Y7 rfl (Zc Za (TO.nilCheck Za (Zp Za Rw (Zp Za Nk (Zo Za Zx Zk rfl (Ze1 g7 Zd (aN Za (Zl ?_)))))))); obtain ⟨g8, H⟩ := Zz H; refine sR Y9 rfl (Zc Za (TO.nilCheck Za (Zp Za Rw (Zp Za Rb (Zo Za Xn Zk rfl (Zc Za (Xg f7 g8 Zd Yg Yj (Wg f7 g8 Za Zx (aN Za (Zq (aT [0, 1, 4, 5] rfl) ?_)))))))))); refine Vb (fun (g1 : Int) => Z89 r0 u1 g1 = some o0) (fun (g1 : Int) => [(0, pV f8), (1, iV u1), (4, iV g1)]) (fun (g1 : Int) => [(eC f8 #[iV r0.c.N, iV r0.c.S, iV r0.c.T, .slice d5 e3 d2, .slice d0 c3 e2, .slice b9 d4 e0, .slice c7 c8 c4, .slice d8 e1 d6, .slice d9 d7 d1, sV a4 a7 b7, sV a6 a8 b8, sV a5 a9 b6, .chan (some b5), sV b0 e7 e8, iV r0.work.Pushes, iV r0.work.Lifts] 128), (eI a4 r0.p.Res e4 2), (eI a6 r0.p.Ex e5 2), (eI a5 r0.p.H c9 3), (some b5, chanO .i64 r0.row f3 f4), (eA b0 boolC r0.ins f2 4)]) ?_ ?_
 ·
  refine T.block ?_; obtain ⟨k4, k5, j5⟩ := Zv H; refine Ji (fun (i2 : Nat) (f5 h1 : Int) => Ym (fun s => Z4m r0 u1 s.1 s.2) i2 (f5, h1) = some k4) (fun (i2 : Nat) (f5 h1 : Int) => [(0, pV f8), (1, iV u1), (4, iV f5), (5, iV h1)]) (fun (i2 : Nat) (f5 h1 : Int) => [(eC f8 #[iV r0.c.N, iV r0.c.S, iV r0.c.T, .slice d5 e3 d2, .slice d0 c3 e2, .slice b9 d4 e0, .slice c7 c8 c4, .slice d8 e1 d6, .slice d9 d7 d1, sV a4 a7 b7, sV a6 a8 b8, sV a5 a9 b6, .chan (some b5), sV b0 e7 e8, iV r0.work.Pushes, iV r0.work.Lifts] 128), (eI a4 r0.p.Res e4 2), (eI a6 r0.p.Ex e5 2), (eI a5 r0.p.H c9 3), (some b5, chanO .i64 r0.row f3 f4), (eA b0 boolC r0.ins f2 4)]) (fun (i2 : Nat) (f5 h1 : Int) => i2) Yc (2 * r0.c.N) (r0.c.First.getD u1.toNat 0) k5 (aF rfl) (Zb Ze (Zb Ze (Zb Ze (Zb Ze (Zb Ze (Zb Ze Zg)))))) ?_; rintro i2 f5 h1 H; obtain ⟨j6, k6, rfl, H, i4⟩ := Wm H; have H : Z4m r0 u1 f5 h1 = some k6 := H; unfold Z4m at H; refine Zl ?_; obtain ⟨k7, j7, H⟩ := Vp H; refine sR Y11 rfl (Zc Za (Zc Za (TO.nilCheck Za (Zp Za Rw (Zp Za Rb (Zo Za Xn Zk rfl (Zc Za (Yy k7 Zd (Xg f7 j7 Zd Yg Yj (Wg f7 j7 Za Zx (Zw Zu (dN (Zq (aT [0, 1, 4, 5, 31] rfl) ?_))))))))))))); rcases Zy H with ⟨i7, H⟩ | ⟨i7, H⟩
  ·
   refine Xb rfl i7 (T.skip (Yb (Zl (T.block (Zl ?_))))); obtain ⟨j8, H⟩ := Zz H; refine sR Y9 rfl (Zc Za (TO.nilCheck Za (Zp Za Gt (TO.fieldAddr Za Js (Zo Za Wn Zk rfl (Zc Za (Xs f9 g0 f6 j8 Zd Yq Yp (Vu f9 g0 f6 j8 Za Xj Yi (Zw Zu (dN (Zq (aT [0, 1, 4, 5, 42] rfl) ?_))))))))))); rcases Zy H with ⟨i8, H⟩ | ⟨i8, H⟩
   · refine Xb rfl i8 (T.exit (Yt (Wd (Yb ?_)))); obtain ⟨k8, H⟩ := Zz H; refine rG Y3 rfl (Zc Za (Yy k8 Zd (Ye Za (Zf ?_)))); have H := Xp H i4; exact Uq j6 f5 (h1 + 1) H (Nat.lt_succ_self _) (aF rfl) (Zb Ze (Zb Ze (Zb Ze (Zb Ze (Zb Ze (Zb Ze Zg))))))
   ·
    refine Xc rfl i8 (T.skip (Yb (Zl ?_))); obtain ⟨j9, k1, H⟩ := Vp H; refine Ug 13 [0, 1, 2, 3, 4, 5, 6, 7, 8, 9, 10, 11, 12] rfl Xy (by kernel_rfl) (by kernel_rfl) rfl (by kernel_rfl) ?_; refine TQ.move Za (TQ.nilCheck Za (Ww Za Gt (TQ.fieldAddr Za Rl (Wv Za Xn Zk rfl (TQ.move Za (TQ.nilCheck Za (Ww Za Rw (Ww Za Lm (Wv Za Xn Zk rfl (TQ.move Za (Ub g3 j9 Zd Yg Yj (Kc g3 j9 Za Zx (TQ.tail [13, 14, 15] Xw (Xs f0 e9 e6 k1 Zd Yg Yj (Vu f0 e9 e6 k1 Za Zx Wa (aN Za ?_)))))))))))))))); refine Zq (aT [0, 1, 4, 5, 6] rfl) (Zl ?_); obtain ⟨k2, k9, H⟩ := Vp H; refine sR Y11 rfl (Zc Za (TO.nilCheck Za (Zp Za Gt (TO.fieldAddr Za Rl (Zo Za Xn Zk rfl (Zc Za (Xs f0 e9 e6 k2 Zd Yg Yj (Vu f0 e9 e6 k2 Za Zx Wa (Zc Za (Yy k9 Zd (Zw Zu (dN (Zq (aT [0, 1, 4, 5, 6, 68] rfl) ?_))))))))))))); rcases Zy H with ⟨i9, H⟩ | ⟨i9, H⟩
    · refine Xb rfl i9 (Zl ?_); obtain ⟨l5, l0, H⟩ := Zv H; refine rG Y4 rfl (Zc Za (Zc Za (Zc Za ?_))); refine Rt Zgf Za (Zj Ze (Zj Ze (Zj Ze (Zj Zt (Zj Zt (Gone.refl _)))))) rfl (fun wc hwc => Zhk (r0 := r0) (u1 := u1) (a2 := h1) wc (hwc.self (Zb Ze (Zb Ze (Zb Ze (Zb Zt (Zb Zt Zg))))) rfl) (f7.monoM (by decide) hwc (Zj Ze (Zj Ze (Zj Ze (Zj Zt (Zj Zt (Gone.refl _)))))) rfl) (g3.monoM (by decide) hwc (Zj Ze (Zj Ze (Zj Ze (Zj Zt (Zj Zt (Gone.refl _)))))) rfl) (h7.monoM (by decide) hwc (Zj Ze (Zj Ze (Zj Ze (Zj Zt (Zj Zt (Gone.refl _)))))) rfl) (h8.monoM (by decide) hwc (Zj Ze (Zj Ze (Zj Ze (Zj Zt (Zj Zt (Gone.refl _)))))) rfl) (h3.monoM (by decide) hwc (Zj Ze (Zj Ze (Zj Ze (Zj Zt (Zj Zt (Gone.refl _)))))) rfl) (h2.monoM (by decide) hwc (Zj Ze (Zj Ze (Zj Ze (Zj Zt (Zj Zt (Gone.refl _)))))) rfl) f6 g0 g6 f9 g2 h0 g5 g9 (hwc.rsM (f := iC) (s := 1) (xs := r0.p.H) (j := c9) (fun _ => rfl) (Zj Ze (Zj Ze (Zj Ze (Zj Zt (Zj Zt (Gone.refl _)))))) rfl Zk e6 e9 f0) g4 h6 h4 h5 l0) ?_; rintro _ _ ⟨j0, j1, rfl, rfl, j2, j3, j4⟩; refine dN (Zq Ni (T.ret (Yk (Xd (Yk ?_))))); have H := Xl H i4 ▸ j5; refine Yk (Xd (Yk ?_)); obtain rfl := ret1 H; exact Jx Za  (Zb Ze (Zb Ze (Zb Ze (Zb Zs (Zb Ze (Zb Ze Zg)))))) ⟨j0, j1, rfl, rfl, j2, j3, e6, j4⟩
    · refine Xc rfl i9 (T.skip (Yb (rG Y4 rfl (Zc Za (Zc Za (TO.min2 Zd (Ye Za (Zf (Yv (Yb ?_)))))))))); obtain ⟨l1, H⟩ := Zz H; refine rG Y3 rfl (Zc Za (Yy l1 Zd (Ye Za (Zf ?_)))); have H := Xp H i4; exact Uq j6 (min f5 (r0.p.H.getD (r0.c.Head.getD h1.toNat 0).toNat 0)) (h1 + 1) H (Nat.lt_succ_self _) (aF rfl) (Zb Ze (Zb Ze (Zb Ze (Zb Ze (Zb Ze (Zb Ze Zg))))))
  · refine Xc rfl i7 (T.exit (Yt ?_)); have H := Xl H i4 ▸ j5; exact Yt (Wd (Xv f5 H (aF rfl) (Zb Ze (Zb Ze (Zb Ze (Zb Ze (Zb Ze (Zb Ze Zg))))))))
 · rintro g1 H; unfold Z89 at H; obtain ⟨l3, k3, H⟩ := Vp H; refine sR Y10 rfl (Zc Za (TO.nilCheck Za (Zp Za Gt (TO.fieldAddr Za Rl (Zo Za Xn Zk rfl (Zc Za (Zc Za (Yy l3 Zd (Xs f0 e9 e6 k3 Zd Yg Yj (Ki f0 e9 e6 k3 Za Wj Yj (dN (Zq (aT [0] rfl) ?_)))))))))))); obtain ⟨l4, H⟩ := Zz H; refine rG Y10 rfl (Zc Za (TO.nilCheck Za (Zp Za Z3r (TO.fieldAddr Za Zdp (Zo Za Zx Yi rfl (Yy l4 Zd (TO.nilCheck Za (Zp Za Z3r (TO.fieldAddr Za Zdp ?_))))))))); refine Vr (cs' := [iV r0.c.N, iV r0.c.S, iV r0.c.T, .slice d5 e3 d2, .slice d0 c3 e2, .slice b9 d4 e0, .slice c7 c8 c4, .slice d8 e1 d6, .slice d9 d7 d1, sV a4 a7 b7, sV a6 a8 b8, sV a5 a9 b6, .chan (some b5), sV b0 e7 e8, iV r0.work.Pushes, iV (r0.work.Lifts + 1)]) Za Zt Yj Ya ?_; refine Zf (Lg ?_); obtain rfl := ret1 H; exact Jx Za  (Zb Ze (Zb Zt (Zb Zt (Zb Ze (Zb Ze (Zb Ze Zg)))))) ⟨f3, f4, rfl, rfl, f6, g2, (List.length_set.trans e6), g4⟩
theorem Ze0 {c0 : Csr} {p1 : Pre} {d5 d4 c9 d1 b9 b6 g2 g4 g1 : Option Addr} {d0 d8 c4 b8 e0 d7 c3 d6 c7 d9 c8 d2 g3 f8 f6 g0 f9 f7 : Nat} (w : World) (h7 : RS w [] iC 1 d5 d0 d8 c0.First) (h9 : RS w [] iC 1 d4 c4 b8 c0.Head) (h6 : RS w [] iC 1 c9 e0 d7 c0.Rev) (h8 : RS w [] iC 1 d1 c3 d6 c0.Cap) (h5 : RS w [] iC 1 b9 c7 d9 c0.Arc) (i2 : RS w [] boolC 1 b6 c8 d2 c0.Back) (n6 : RS w [] iC 1 g2 g3 f8 p1.Res) (m9 : RS w [] iC 1 g4 f6 g0 p1.Ex) (n7 : RS w [] iC 1 g1 f9 f7 p1.H) {r0 : Pre} {r1 : Work} (H : Z29 c0 p1 = some (r0, r1)) : Fnc Try.prog 43 #[.agg #[iV c0.N, iV c0.S, iV c0.T, .slice d5 d0 d8, .slice d4 c4 b8, .slice c9 e0 d7, .slice d1 c3 d6, .slice b9 c7 d9, .slice b6 c8 d2], .agg #[.slice g2 g3 f8, .slice g4 f6 g0, .slice g1 f9 f7]] w [] (fun v N => ∃ (m2 : Option Nat) (q3 q4 : Nat) (s9 : List Value) (m3 : Option Nat) (n8 q5 : Nat) (t0 : List Value) (m4 : Option Nat) (q6 q7 : Nat) (t1 : List Value), v = .tuple #[.agg #[sV m2 q3 q4, sV m3 n8 q5, sV m4 q6 q7], .agg #[iV r1.Pushes, iV r1.Lifts]] ∧ N = [(eI m2 r0.Res s9 2), (eI m3 r0.Ex t0 2), (eI m4 r0.H t1 3)] ∧ r0.Res.length = q3 ∧ q3 ≤ q4 ∧ s9.length = (q4 - q3) * 1 ∧ (m2 = none → q4 = 0) ∧ r0.Ex.length = n8 ∧ n8 ≤ q5 ∧ t0.length = (q5 - n8) * 1 ∧ (m3 = none → q5 = 0) ∧ r0.H.length = q6 ∧ q6 ≤ q7 ∧ t1.length = (q7 - q6) * 1 ∧ (m4 = none → q7 = 0)) := by
 unfold Z29 at H; refine Fnc.enter (vs := [.agg #[iV c0.N, iV c0.S, iV c0.T, .slice d5 d0 d8, .slice d4 c4 b8, .slice c9 e0 d7, .slice d1 c3 d6, .slice b9 c7 d9, .slice b6 c8 d2], .agg #[.slice g2 g3 f8, .slice g4 f6 g0, .slice g1 f9 f7]]) Try.func43 rfl rfl (Inv.refl w) ?_; refine sR Y4 rfl (Xo Za ?_); intro b1; refine Xo Za ?_; intro b3; refine Wp Ya No ?_; intro b5; refine Wp Ya Z57 ?_; intro b7; refine dS ?_; obtain ⟨r9, t8, H⟩ := Zv H; obtain ⟨t9, u3, H⟩ := Vp H; apply Jb [rV [] _, rV [] _, ⟨[1], false, [], fun _ v e => ∃ (a6 : Option Nat) (e9 g5 : Nat) (i4 : List Value) (a7 : Option Nat) (f0 g6 : Nat) (i5 : List Value) (a8 : Option Nat) (f2 g7 : Nat) (i6 : List Value), v = .agg #[sV a6 e9 g5, sV a7 f0 g6, sV a8 f2 g7] ∧ e = [(eI a6 r9.Res i4 2), (eI a7 r9.Ex i5 2), (eI a8 r9.H i6 3)] ∧ r9.Res.length = e9 ∧ e9 ≤ g5 ∧ i4.length = (g5 - e9) * 1 ∧ (a6 = none → g5 = 0) ∧ r9.Ex.length = f0 ∧ f0 ≤ g6 ∧ i5.length = (g6 - f0) * 1 ∧ (a7 = none → g6 = 0) ∧ r9.H.length = f2 ∧ f2 ≤ g7 ∧ i6.length = (g7 - f2) * 1 ∧ (a8 = none → g7 = 0)⟩, rV [] _, rV [3] _, ⟨[4], false, [], fun _ v e => ∃ (h1 : Nat), v = .chan (some h1) ∧ e = [(some h1, chanO .i64 (Chan.mk c0.N.toNat []) 0 0)]⟩, rV [] _, rV [6] _, ⟨[7], false, [], fun _ v e => ∃ (h2 : Nat), v = nV h2 c0.N.toNat c0.N.toNat ∧ e = [(eA (some h2) boolC (List.replicate c0.N.toNat (false : Bool)) ([]) 4)]⟩] [10, 11, 12, 13, 14, 15, 16, 17, 18] 9 (Je [[]]) [[]] [] [(eC b7 #[iV 0, iV 0] 79), (eC b5 #[.slice none 0 0, .slice none 0 0, .slice none 0 0] 77), (eC b3 #[.slice g2 g3 f8, .slice g4 f6 g0, .slice g1 f9 f7] 77), (eC b1 #[iV c0.N, iV c0.S, iV c0.T, .slice d5 d0 d8, .slice d4 c4 b8, .slice c9 e0 d7, .slice d1 c3 d6, .slice b9 c7 d9, .slice b6 c8 d2] 64)]
 · exact Xy
 · exact rfl
 · kernel_rfl
 · kernel_rfl
 · kernel_rfl
 · exact rfl
 · exact rfl
 · exact rfl
 · exact rfl
 · exact Yu (by repeat constructor)
 ·
  refine ⟨?_, ?_, ?_, ?_, ?_, ?_, ?_, ?_, ?_, trivial⟩
  · rintro vs es Es Hx -; refine Zn (D := []) rfl ?_; exact Yl Za Wr Wa rfl (Zf (Zr rfl ⟨rfl, rfl⟩ (Zh _) rfl))
  · rintro vs es Es Hx -; refine Zn (D := []) rfl ?_; exact Yl Za Vx Yx rfl (Zf (Zr rfl ⟨rfl, rfl⟩ (Zh _) rfl))
  · rintro vs es Es Hx ⟨⟨j6, k5⟩, -⟩; refine Zn (D := [(11, vs 1)]) rfl ?_; rw [j6]; refine Yf Za8 Za (fun wc hwc => Zbc (p0 := p1) wc (n6.mono hwc) (m9.mono hwc) (n7.mono hwc) t8) ?_; rintro _ _ ⟨a6, e9, g5, i4, a7, f0, g6, i5, a8, f2, g7, i6, rfl, rfl, k6, i7, k7, i8, k8, g8, k9, g9, l0, i9, l1, j0⟩; refine Zf ?_; exact Zr rfl ⟨a6, e9, g5, i4, a7, f0, g6, i5, a8, f2, g7, i6, rfl, rfl, k6, i7, k7, i8, k8, g8, k9, g9, l0, i9, l1, j0⟩ (Yu (by repeat constructor)) (by show [(11, vs 1)] = _; rw [j6])
  · rintro vs es Es Hx -; refine Zn (D := []) rfl ?_; exact Zp Za Nk (Zf (Zr rfl ⟨rfl, rfl⟩ (Zh _) rfl))
  · rintro vs es Es Hx ⟨⟨j7, l3⟩, -⟩; refine Zn (D := [(13, vs 3)]) rfl ?_; rw [j7]; refine Zo Za Zx Wa rfl (Zf ?_); exact Zr rfl ⟨rfl, rfl⟩ (Zh _) (by show [(13, vs 3)] = _; rw [j7])
  · rintro vs es Es Hx ⟨⟨j8, l4⟩, -⟩; refine Zn (D := [(14, vs 4)]) rfl ?_; rw [j8]; refine Zho (q := 0) (kq := .i64) t9 Za Zhr Gq ?_; intro h1; refine Zf ?_; exact Zr rfl ⟨h1, rfl, rfl⟩ (Yu (by repeat constructor)) (by show [(14, vs 4)] = _; rw [j8])
  · rintro vs es Es Hx -; refine Zn (D := []) rfl ?_; exact Zp Za Nk (Zf (Zr rfl ⟨rfl, rfl⟩ (Zh _) rfl))
  · rintro vs es Es Hx ⟨⟨j9, m5⟩, -⟩; refine Zn (D := [(16, vs 6)]) rfl ?_; rw [j9]; refine Zo Za Zx Wa rfl (Zf ?_); exact Zr rfl ⟨rfl, rfl⟩ (Zh _) (by show [(16, vs 6)] = _; rw [j9])
  · rintro vs es Es Hx ⟨⟨l8, n9⟩, -⟩; refine Zn (D := [(17, vs 7)]) rfl ?_; rw [l8]; refine Z5h u3 Zd Vi Wq Z14 Z53 rfl ?_; intro h2; refine Zf ?_; exact Zr rfl ⟨h2, rfl, rfl⟩ (Yu (by repeat constructor)) (by show [(17, vs 7)] = _; rw [l8])
 ·
  rintro vs es hb ⟨⟨l9, o0⟩, ⟨j6, k5⟩, ⟨a6, e9, g5, i4, a7, f0, g6, i5, a8, f2, g7, i6, m0, o1, k6, i7, k7, i8, k8, g8, k9, g9, l0, i9, l1, j0⟩, ⟨j7, l3⟩, ⟨j8, l4⟩, ⟨h1, m1, o2⟩, ⟨j9, m5⟩, ⟨l8, n9⟩, ⟨h2, t2, o8⟩, -⟩ hHR; obtain rfl : hb = [] := hHR; refine Zn (D := [(10, vs 0), (11, vs 1), (12, vs 2), (13, vs 3), (14, vs 4), (15, vs 5), (16, vs 6), (17, vs 7), (18, vs 8)]) rfl ?_; refine Xi (H := _ ++ (_ ++ (es 0 ++ (es 1 ++ (es 2 ++ (es 3 ++ (es 4 ++ (es 5 ++ (es 6 ++ (es 7 ++ (es 8 ++ ([])))))))))))) rfl ?_; rw [o0, k5, o1, l3, l4, o2, m5, n9, o8]; rw [l9, j6, m0, j7, j8, m1, j9, l8, t2]; clear t2 l8 j9 m1 j8 j7 m0 j6 l9 o0 k5 o1 l3 l4 o2 m5 n9 o8; refine Vs (t := 128) [iV 0, iV 0, iV 0, .slice none 0 0, .slice none 0 0, .slice none 0 0, .slice none 0 0, .slice none 0 0, .slice none 0 0, .slice none 0 0, .slice none 0 0, .slice none 0 0, .chan none, .slice none 0 0, iV 0, iV 0] [0, 9, 12, 13, 14] Za (by simp only [Wh, setCells, Value.cells, List.toList_toArray, List.getD_cons_zero, List.getD_cons_succ, List.set_cons_zero, List.set_cons_succ]; rfl) (by kernel_rfl) ?_; refine Xo Za ?_; intro l5; refine aN Za (Zq (aT [2, 4, 5, 6] rfl) (Zl (sR Y3 rfl (Zp Za Nk (Zo Za Zx Wt rfl (Zc Za (dN ?_))))))); refine Zla (fun (j1 : Chan) (k1 k2 : Nat) (h3 : List Bool) => Z8t c0 r9 j1 h3 = some (r0, r1) ∧ h3.length = c0.N.toNat) (fun (j1 : Chan) (k1 k2 : Nat) (h3 : List Bool) => [(4, pV b5), (5, pV b7), (6, pV l5)]) (fun (j1 : Chan) (k1 k2 : Nat) (h3 : List Bool) => [(eC b5 #[.slice none 0 0, .slice none 0 0, .slice none 0 0] 77), (eC b7 #[iV 0, iV 0] 79), (eC l5 #[iV c0.N, iV c0.S, iV c0.T, .slice d5 d0 d8, .slice d4 c4 b8, .slice c9 e0 d7, .slice d1 c3 d6, .slice b9 c7 d9, .slice b6 c8 d2, sV a6 e9 g5, sV a7 f0 g6, sV a8 f2 g7, .chan (some h1), nV h2 c0.N.toNat c0.N.toNat, iV 0, iV 0] 128), (eI a6 r9.Res i4 2), (eI a7 r9.Ex i5 2), (eI a8 r9.H i6 3), (some h1, chanO .i64 j1 k1 k2), (eA (some h2) boolC h3 ([]) 4)]) ?_ ?_
  ·
   refine T.block ?_; obtain ⟨u5, k5, u6⟩ := Zv H; refine T.loopE6 (fun (o4 : Nat) (f3 : Chan) (j2 j3 : Nat) (e4 : List Bool) (l6 : Int) => Ym (fun s => Z3j c0 r9 s.1 s.2.1 s.2.2) o4 (f3, e4, l6) = some u5 ∧ e4.length = c0.N.toNat) (fun (o4 : Nat) (f3 : Chan) (j2 j3 : Nat) (e4 : List Bool) (l6 : Int) => [(4, pV b5), (5, pV b7), (6, pV l5), (22, iV c0.N), (23, iV l6)]) (fun (o4 : Nat) (f3 : Chan) (j2 j3 : Nat) (e4 : List Bool) (l6 : Int) => [(eC b5 #[.slice none 0 0, .slice none 0 0, .slice none 0 0] 77), (eC b7 #[iV 0, iV 0] 79), (eC l5 #[iV c0.N, iV c0.S, iV c0.T, .slice d5 d0 d8, .slice d4 c4 b8, .slice c9 e0 d7, .slice d1 c3 d6, .slice b9 c7 d9, .slice b6 c8 d2, sV a6 e9 g5, sV a7 f0 g6, sV a8 f2 g7, .chan (some h1), nV h2 c0.N.toNat c0.N.toNat, iV 0, iV 0] 128), (eI a6 r9.Res i4 2), (eI a7 r9.Ex i5 2), (eI a8 r9.H i6 3), (some h1, chanO .i64 f3 j2 j3), (eA (some h2) boolC e4 ([]) 4)]) (fun (o4 : Nat) (f3 : Chan) (j2 j3 : Nat) (e4 : List Bool) (l6 : Int) => o4) Yc (Chan.mk c0.N.toNat []) 0 0 (List.replicate c0.N.toNat (false : Bool)) 0 ⟨k5, List.length_replicate⟩ (aF rfl) (Zb Zs (Zb Zt (Zb Ze (Zb Zs (Zb Zs (Zb Zs (Zb Zs (Zb Zs Zg)))))))) ?_; rintro o4 f3 j2 j3 e4 l6 ⟨H, o9⟩; obtain ⟨u7, u8, rfl, H, t3⟩ := Wm H; have H : Z3j c0 r9 f3 e4 l6 = some u8 := H; unfold Z3j at H; refine sR Y1 rfl (Zw Zu (dS ?_)); rcases Zy H with ⟨r2, H⟩ | ⟨r2, H⟩
   · refine Xb rfl r2 (T.skip (Yb (Zl (T.block (sR Y2 rfl (Zc Za (aN Za ?_))))))); obtain ⟨t4, u9, H⟩ := Zv H; refine rG Y3 rfl (Zc Za (Zc Za ?_)); refine Rt Zdx Za (Zj Zs (Zj Xu (Zj Xu (Gone.refl _)))) rfl (fun wc hwc => Zg0 (r0 := (FifoRun.mk c0 r9 f3 e4 (Work.mk 0 0))) (v1 := l6) wc (hwc.self (Zb Zs (Zb Xu (Zb Xu Zg))) rfl) (h7.monoM (by decide) hwc (Zj Zs (Zj Xu (Zj Xu (Gone.refl _)))) rfl) (h9.monoM (by decide) hwc (Zj Zs (Zj Xu (Zj Xu (Gone.refl _)))) rfl) (h6.monoM (by decide) hwc (Zj Zs (Zj Xu (Zj Xu (Gone.refl _)))) rfl) (h8.monoM (by decide) hwc (Zj Zs (Zj Xu (Zj Xu (Gone.refl _)))) rfl) (h5.monoM (by decide) hwc (Zj Zs (Zj Xu (Zj Xu (Gone.refl _)))) rfl) (i2.monoM (by decide) hwc (Zj Zs (Zj Xu (Zj Xu (Gone.refl _)))) rfl) (hwc.rsM (f := iC) (s := 1) (xs := r9.Res) (j := i4) (fun _ => rfl) (Zj Zs (Zj Xu (Zj Xu (Gone.refl _)))) rfl Yx k6 i7 i8) (hwc.rsM (f := iC) (s := 1) (xs := r9.Ex) (j := i5) (fun _ => rfl) (Zj Zs (Zj Xu (Zj Xu (Gone.refl _)))) rfl Wa k8 g8 g9) (hwc.rsM (f := iC) (s := 1) (xs := r9.H) (j := i6) (fun _ => rfl) (Zj Zs (Zj Xu (Zj Xu (Gone.refl _)))) rfl Wt l0 i9 j0) o9 (Nat.le_refl _) (Yz _ _) Wf u9) ?_; rintro _ _ ⟨r3, r4, rfl, rfl, r5⟩; refine Zf (Yv (Yb ?_)); obtain ⟨v2, H⟩ := Zz H; refine rG Y2 rfl (Yy v2 Zd (Zc Za (Zf ?_))); have H := Xp H t3; exact Zlr u7 t4.row r3 r4 t4.ins (l6 + 1) ⟨H, r5⟩ (Nat.lt_succ_self _) (aF rfl) (Zb Wj (Zb Wj (Zb Ze (Zb Zs (Zb Zs (Zb Zs (Zb Ze (Zb Ze Zg))))))))
   · refine Xc rfl r2 (T.exit (Yt ?_)); have H := Xl H t3 ▸ u6; refine Yt (Wd ?_); exact X.metE4 f3 j2 j3 e4 ⟨H, o9⟩ (aF rfl) (Zb Ze (Zb Ze (Zb Ze (Zb Ze (Zb Ze (Zb Ze (Zb Ze (Zb Ze Zg))))))))
  ·
   rintro j1 k1 k2 h3 ⟨H, r6⟩; unfold Z8t at H; refine T.block ?_; obtain ⟨v3, l3, v4⟩ := Zv H; refine Z7f (fun (o6 : Nat) (e1 e2 e3 : List Int) (h0 : Chan) (k3 k4 : Nat) (f4 : List Bool) (a4 a5 : Int) => Ym (fun s => Z41 c0 s.1 s.2.1 s.2.2.1 s.2.2.2.1 s.2.2.2.2.1 s.2.2.2.2.2.1 s.2.2.2.2.2.2) o6 (e1, e2, e3, h0, f4, a4, a5) = some v3 ∧ e1.length = e9 ∧ e2.length = f0 ∧ e3.length = f2 ∧ f4.length = c0.N.toNat) (fun (o6 : Nat) (e1 e2 e3 : List Int) (h0 : Chan) (k3 k4 : Nat) (f4 : List Bool) (a4 a5 : Int) => [(4, pV b5), (5, pV b7), (6, pV l5)]) (fun (o6 : Nat) (e1 e2 e3 : List Int) (h0 : Chan) (k3 k4 : Nat) (f4 : List Bool) (a4 a5 : Int) => [(eC b5 #[.slice none 0 0, .slice none 0 0, .slice none 0 0] 77), (eC b7 #[iV 0, iV 0] 79), (eC l5 #[iV c0.N, iV c0.S, iV c0.T, .slice d5 d0 d8, .slice d4 c4 b8, .slice c9 e0 d7, .slice d1 c3 d6, .slice b9 c7 d9, .slice b6 c8 d2, sV a6 e9 g5, sV a7 f0 g6, sV a8 f2 g7, .chan (some h1), nV h2 c0.N.toNat c0.N.toNat, iV a4, iV a5] 128), (eI a6 e1 i4 2), (eI a7 e2 i5 2), (eI a8 e3 i6 3), (some h1, chanO .i64 h0 k3 k4), (eA (some h2) boolC f4 ([]) 4)]) (fun (o6 : Nat) (e1 e2 e3 : List Int) (h0 : Chan) (k3 k4 : Nat) (f4 : List Bool) (a4 a5 : Int) => o6) Yc r9.Res r9.Ex r9.H j1 k1 k2 h3 0 0 ⟨l3, k6, k8, l0, r6⟩ (aF rfl) (Zb Ze (Zb Ze (Zb Ze (Zb Ze (Zb Ze (Zb Ze (Zb Ze (Zb Ze Zg)))))))) ?_; rintro o6 e1 e2 e3 h0 k3 k4 f4 a4 a5 ⟨H, m6, m7, m8, r7⟩; obtain ⟨v5, v6, rfl, H, t5⟩ := Wm H; have H : Z41 c0 e1 e2 e3 h0 f4 a4 a5 = some v6 := H; unfold Z41 at H; refine T.block (Zl ?_); obtain ⟨⟨q8, w1, q9⟩, v7, H⟩ := Zv H; refine rG Y7 rfl (Zc Za ?_); refine Rt Zi2 Za (Zj Zs (Zj Xu (Zj Xu (Gone.refl _)))) rfl (fun wc hwc => Zij (pr0 := (FifoRun.mk c0 (Pre.mk e1 e2 e3) h0 f4 (Work.mk a4 a5))) wc (hwc.self (Zb Zs (Zb Xu (Zb Xu Zg))) rfl) (h7.monoM (by decide) hwc (Zj Zs (Zj Xu (Zj Xu (Gone.refl _)))) rfl) (h9.monoM (by decide) hwc (Zj Zs (Zj Xu (Zj Xu (Gone.refl _)))) rfl) (h6.monoM (by decide) hwc (Zj Zs (Zj Xu (Zj Xu (Gone.refl _)))) rfl) (h8.monoM (by decide) hwc (Zj Zs (Zj Xu (Zj Xu (Gone.refl _)))) rfl) (h5.monoM (by decide) hwc (Zj Zs (Zj Xu (Zj Xu (Gone.refl _)))) rfl) (i2.monoM (by decide) hwc (Zj Zs (Zj Xu (Zj Xu (Gone.refl _)))) rfl) (hwc.rsM (f := iC) (s := 1) (xs := e1) (j := i4) (fun _ => rfl) (Zj Zs (Zj Xu (Zj Xu (Gone.refl _)))) rfl Yx m6 i7 i8) (hwc.rsM (f := iC) (s := 1) (xs := e2) (j := i5) (fun _ => rfl) (Zj Zs (Zj Xu (Zj Xu (Gone.refl _)))) rfl Wa m7 g8 g9) (hwc.rsM (f := iC) (s := 1) (xs := e3) (j := i6) (fun _ => rfl) (Zj Zs (Zj Xu (Zj Xu (Gone.refl _)))) rfl Wt m8 i9 j0) r7 (Nat.le_refl _) (Yz _ _) Wf v7) ?_; rintro _ _ ⟨p2, p3, rfl, rfl, r8⟩; refine Zc Za (TO.extract Zd (TO.extract Zd (Ye Za (aN Za (Zl (sR Y2 rfl (Zc Za (TO.not Za (dN ?_))))))))); rcases Zy H with ⟨s6, H⟩ | ⟨s6, H⟩
   ·
    refine Xr rfl s6 (Zl ?_); apply Jb [rV [] _, rV [0] _, rV [1] _, rV [2] _, rV [] _, rV [4] _, rV [5] _, rV [6] _, ⟨[3], true, [], Jq⟩] [37, 38, 39, 40, 41, 42, 43, 44] 9 (Je [[(eC b5 #[.slice none 0 0, .slice none 0 0, .slice none 0 0] 77)], [(eC b5 #[sV a6 e9 g5, sV a7 f0 g6, sV a8 f2 g7] 77)]]) [[], []] [(eC b5 #[.slice none 0 0, .slice none 0 0, .slice none 0 0] 77)] [(eC l5 #[iV c0.N, iV c0.S, iV c0.T, .slice d5 d0 d8, .slice d4 c4 b8, .slice c9 e0 d7, .slice d1 c3 d6, .slice b9 c7 d9, .slice b6 c8 d2, sV a6 e9 g5, sV a7 f0 g6, sV a8 f2 g7, .chan (some h1), nV h2 c0.N.toNat c0.N.toNat, iV a4, iV a5] 128), (some h1, chanO .i64 q9.row p2 p3), (eA (some h2) boolC q9.ins ([]) 4), (eC b7 #[iV 0, iV 0] 79), (eI a6 e1 i4 2), (eI a7 e2 i5 2), (eI a8 e3 i6 3)]
    · exact Xy
    · exact rfl
    · kernel_rfl
    · kernel_rfl
    · kernel_rfl
    · exact rfl
    · exact rfl
    · exact rfl
    · exact rfl
    · exact Yu (by repeat constructor)
    ·
     refine ⟨?_, ?_, ?_, ?_, ?_, ?_, ?_, ?_, ?_, trivial⟩
     · rintro vs es Es Hx -; refine Zn (D := []) rfl ?_; exact Zc Za (Zf (Zr rfl ⟨rfl, rfl⟩ (Zh _) rfl))
     · rintro vs es Es Hx ⟨⟨l9, o0⟩, -⟩; refine Zn (D := [(37, vs 0)]) rfl ?_; rw [l9]; refine TO.nilCheck Za (Zf ?_); exact Zr rfl ⟨rfl, rfl⟩ (Zh _) (by show [(37, vs 0)] = _; rw [l9])
     · rintro vs es Es Hx ⟨⟨j6, k5⟩, -⟩; refine Zn (D := [(38, vs 1)]) rfl ?_; rw [j6]; refine Zp Za Gt (Zf ?_); exact Zr rfl ⟨rfl, rfl⟩ (Zh _) (by show [(38, vs 1)] = _; rw [j6])
     · rintro vs es Es Hx ⟨⟨m0, o1⟩, -⟩; refine Zn (D := [(39, vs 2)]) rfl ?_; rw [m0]; refine Zeo (vs := [sV a6 e9 g5, sV a7 f0 g6, sV a8 f2 g7]) Za Vx Zk Xw (Zf ?_); exact Zr rfl ⟨rfl, rfl⟩ (Zh _) (by show [(39, vs 2)] = _; rw [m0])
     · rintro vs es Es Hx -; refine Zn (D := []) rfl ?_; exact Zc Za (Zf (Zr rfl ⟨rfl, rfl⟩ (Zh _) rfl))
     · rintro vs es Es Hx ⟨⟨j8, l4⟩, -⟩; refine Zn (D := [(41, vs 4)]) rfl ?_; rw [j8]; refine TO.nilCheck Za (Zf ?_); exact Zr rfl ⟨rfl, rfl⟩ (Zh _) (by show [(41, vs 4)] = _; rw [j8])
     · rintro vs es Es Hx ⟨⟨m1, o2⟩, -⟩; refine Zn (D := [(42, vs 5)]) rfl ?_; rw [m1]; refine Zp Za Z3r (Zf ?_); exact Zr rfl ⟨rfl, rfl⟩ (Zh _) (by show [(42, vs 5)] = _; rw [m1])
     · rintro vs es Es Hx ⟨⟨j9, m5⟩, -⟩; refine Zn (D := [(43, vs 6)]) rfl ?_; rw [j9]; refine Zeo (vs := [iV a4, iV a5]) Za Z0y Zk Xw (Zf ?_); exact Zr rfl ⟨rfl, rfl⟩ (Zh _) (by show [(43, vs 6)] = _; rw [j9])
     · rintro vs es Es Hx hb ⟨⟨j7, l3⟩, -⟩ hHR; obtain rfl : hb = [(eC b5 #[.slice none 0 0, .slice none 0 0, .slice none 0 0] 77)] := hHR; refine Zn (D := [(40, vs 3)]) rfl ?_; rw [j7]; refine Xq Za Ze Ks Ya (Zf ?_); exact Gi (hb' := [(eC b5 #[sV a6 e9 g5, sV a7 f0 g6, sV a8 f2 g7] 77)]) rfl rfl rfl (Yu (by repeat constructor)) (by show [(40, vs 3)] = _; rw [j7])
    · rintro vs es hb ⟨⟨l9, o0⟩, ⟨j6, k5⟩, ⟨m0, o1⟩, ⟨j7, l3⟩, ⟨j8, l4⟩, ⟨m1, o2⟩, ⟨j9, m5⟩, ⟨l8, n9⟩, o8, -⟩ hHR; obtain rfl : hb = [(eC b5 #[sV a6 e9 g5, sV a7 f0 g6, sV a8 f2 g7] 77)] := hHR; refine Zn (D := [(37, vs 0), (38, vs 1), (39, vs 2), (40, vs 3), (41, vs 4), (42, vs 5), (43, vs 6), (44, vs 7)]) rfl ?_; refine Xi (H := _ ++ (_ ++ (es 0 ++ (es 1 ++ (es 2 ++ (es 3 ++ (es 4 ++ (es 5 ++ (es 6 ++ (es 7 ++ (es 8 ++ ([])))))))))))) rfl ?_; rw [o0, k5, o1, l3, l4, o2, m5, n9, o8]; rw [l9, j6, m0, j7, j8, m1, j9, l8]; clear l8 j9 m1 j8 j7 m0 j6 l9 o0 k5 o1 l3 l4 o2 m5 n9 o8; refine Xq Za Vk Z06 Ya (dN (Zq (aT [4, 5] rfl) (T.ret (Yk (Xd ?_))))); have H := Xl H t5 ▸ v4; refine Yk (Xd ?_); obtain ⟨rfl, rfl⟩ := ret2 H; exact Vt Za (Vv rfl Vx Yi rfl) (Vv rfl Z0y Zk rfl) (Zb Xu (Zb Xu (Zb Xu Zg))) ⟨a6, e9, g5, i4, a7, f0, g6, i5, a8, f2, g7, i6, rfl, rfl, m6, i7, k7, i8, m7, g8, k9, g9, m8, i9, l1, j0⟩
   ·
    refine Xx rfl (Bool.eq_false_iff.2 s6) (T.skip (Yb (Zq (aT [4, 5, 6, 8] rfl) (T.block ?_)))); obtain ⟨v8, l4, v9⟩ := Zv H; refine Z7f (fun (o7 : Nat) (e5 e6 e7 : List Int) (f5 : Chan) (j4 j5 : Nat) (e8 : List Bool) (a9 b0 : Int) => Ym (fun s => Z19 c0 q8 s.1 s.2.1 s.2.2.1 s.2.2.2.1 s.2.2.2.2.1 s.2.2.2.2.2.1 s.2.2.2.2.2.2) o7 (e5, e6, e7, f5, e8, a9, b0) = some v8 ∧ e5.length = e9 ∧ e6.length = f0 ∧ e7.length = f2 ∧ e8.length = c0.N.toNat) (fun (o7 : Nat) (e5 e6 e7 : List Int) (f5 : Chan) (j4 j5 : Nat) (e8 : List Bool) (a9 b0 : Int) => [(4, pV b5), (5, pV b7), (6, pV l5), (8, iV q8)]) (fun (o7 : Nat) (e5 e6 e7 : List Int) (f5 : Chan) (j4 j5 : Nat) (e8 : List Bool) (a9 b0 : Int) => [(eC b5 #[.slice none 0 0, .slice none 0 0, .slice none 0 0] 77), (eC b7 #[iV 0, iV 0] 79), (eC l5 #[iV c0.N, iV c0.S, iV c0.T, .slice d5 d0 d8, .slice d4 c4 b8, .slice c9 e0 d7, .slice d1 c3 d6, .slice b9 c7 d9, .slice b6 c8 d2, sV a6 e9 g5, sV a7 f0 g6, sV a8 f2 g7, .chan (some h1), nV h2 c0.N.toNat c0.N.toNat, iV a9, iV b0] 128), (eI a6 e5 i4 2), (eI a7 e6 i5 2), (eI a8 e7 i6 3), (some h1, chanO .i64 f5 j4 j5), (eA (some h2) boolC e8 ([]) 4)]) (fun (o7 : Nat) (e5 e6 e7 : List Int) (f5 : Chan) (j4 j5 : Nat) (e8 : List Bool) (a9 b0 : Int) => o7) Yc e1 e2 e3 q9.row p2 p3 q9.ins a4 a5 ⟨l4, m6, m7, m8, r8⟩ (aF rfl) (Zb Wj (Zb Wj (Zb Ze (Zb Zs (Zb Zs (Zb Zs (Zb Ze (Zb Ze Zg)))))))) ?_; rintro o7 e5 e6 e7 f5 j4 j5 e8 a9 b0 ⟨H, p4, l7, p5, p6⟩; obtain ⟨n8, w0, rfl, H, t6⟩ := Wm H; have H : Z19 c0 q8 e5 e6 e7 f5 e8 a9 b0 = some w0 := H; unfold Z19 at H; refine Zl ?_; obtain ⟨t7, H⟩ := Zz H; refine sR Y9 rfl (Zc Za (TO.nilCheck Za (Zp Za Gt (TO.fieldAddr Za Lc (Zo Za Wn Yx rfl (Zc Za (Xs g9 g8 l7 t7 Zd Yq Yp (Vu g9 g8 l7 t7 Za Xj Wt (Zw Zu (dN (Zq (aT [4, 5, 6, 8, 53] rfl) ?_))))))))))); rcases Zy H with ⟨s7, H⟩ | ⟨s7, H⟩
    · refine Xb rfl s7 (T.skip (Yb (T.block ?_))); obtain ⟨h4, s8, H⟩ := Zv H; refine rG Y3 rfl (Zc Za (Zc Za ?_)); refine Rt Zgc Za (Zj Zs (Zj Zs (Zj Zs (Zj Zs (Zj Zs (Zj Zs (Gone.refl _))))))) rfl (fun wc hwc => Zix (r0 := (FifoRun.mk c0 (Pre.mk e5 e6 e7) f5 e8 (Work.mk a9 b0))) (u1 := q8) wc (hwc.self (Zb Zs (Zb Zs (Zb Zs (Zb Zs (Zb Zs (Zb Zs Zg)))))) rfl) (h7.monoM (by decide) hwc (Zj Zs (Zj Zs (Zj Zs (Zj Zs (Zj Zs (Zj Zs (Gone.refl _))))))) rfl) (h9.monoM (by decide) hwc (Zj Zs (Zj Zs (Zj Zs (Zj Zs (Zj Zs (Zj Zs (Gone.refl _))))))) rfl) (h6.monoM (by decide) hwc (Zj Zs (Zj Zs (Zj Zs (Zj Zs (Zj Zs (Zj Zs (Gone.refl _))))))) rfl) (h8.monoM (by decide) hwc (Zj Zs (Zj Zs (Zj Zs (Zj Zs (Zj Zs (Zj Zs (Gone.refl _))))))) rfl) (h5.monoM (by decide) hwc (Zj Zs (Zj Zs (Zj Zs (Zj Zs (Zj Zs (Zj Zs (Gone.refl _))))))) rfl) (i2.monoM (by decide) hwc (Zj Zs (Zj Zs (Zj Zs (Zj Zs (Zj Zs (Zj Zs (Gone.refl _))))))) rfl) p4 i7 k7 i8 l7 g8 k9 g9 p5 i9 l1 j0 p6 (Nat.le_refl _) (Yz _ _) Wf s8) ?_; rintro _ _ ⟨p7, p8, rfl, rfl, p9, q0, q1, q2⟩; refine Zf (Yv ?_); have H := Xp H t6; exact Z20 n8 h4.p.Res h4.p.Ex h4.p.H h4.row p7 p8 h4.ins h4.work.Pushes h4.work.Lifts ⟨H, p9, q0, q1, q2⟩ (Nat.lt_succ_self _) (aF rfl) (Zb Ja (Zb Ja (Zb Ze (Zb Ze (Zb Ze (Zb Ze (Zb Ze (Zb Ze Zg))))))))
    · refine Xc rfl s7 (T.exit (Yt ?_)); have H := Xl H t6 ▸ v9; refine Yt (Wd (Yv ?_)); have H := Xp H t5; exact Z20 v5 e5 e6 e7 f5 j4 j5 e8 a9 b0 ⟨H, p4, l7, p5, p6⟩ (Nat.lt_succ_self _) (aF rfl) (Zb Ze (Zb Ze (Zb Ze (Zb Ze (Zb Ze (Zb Ze (Zb Ze (Zb Ze Zg))))))))
theorem Zj1 {n0 : Net} {b7 : Option Addr} {b8 b6 : Nat} (w : World) (g2 : RS w [] Xa 3 b7 b8 b6 n0.Arcs) {r0 : Answer} {r1 : Work} {r2 : Int} (H : Z4k n0 = some (r0, r1, r2)) : Fnc Try.prog 46 #[.agg #[iV n0.N, iV n0.S, iV n0.T, .slice b7 b8 b6]] w [] (fun v N => ∃ (j9 : Option Nat) (q9 r3 : Nat) (s9 : List Value) (k1 : Option Nat) (r4 r5 : Nat) (t0 : List Value), v = .tuple #[.agg #[sV j9 q9 r3, sV k1 r4 r5, iV r0.Value], .agg #[iV r1.Pushes, iV r1.Lifts], iV r2] ∧ N = [(eI j9 r0.Flow s9 2), (eA k1 boolC r0.Side t0 4)] ∧ r0.Flow.length = q9 ∧ q9 ≤ r3 ∧ s9.length = (r3 - q9) * 1 ∧ (j9 = none → r3 = 0) ∧ r0.Side.length = r4 ∧ r4 ≤ r5 ∧ t0.length = (r5 - r4) * 1 ∧ (k1 = none → r5 = 0)) := by
 unfold Z4k at H; refine Fnc.enter (vs := [.agg #[iV n0.N, iV n0.S, iV n0.T, .slice b7 b8 b6]]) Try.func46 rfl rfl (Inv.refl w) (sR Y4 rfl (Xo Za ?_)); intro b1; refine Wp Ya Zfk ?_; intro b3; refine Wp Ya Z57 ?_; intro b5; refine aN Za (Zl ?_); obtain ⟨⟨r7, r8⟩, e9, H⟩ := Zv H; refine rG Y8 rfl (Yl Za Xh Yx rfl ?_); refine Yf Z9m Za (fun wc hwc => Z6o (n0 := n0) wc (g2.mono hwc) e9) ?_; rintro _ _ ⟨d6, n6, n7, n8, d7, n9, o0, o1, d8, o2, o4, o6, d9, o7, o8, o9, e0, p2, c28, p3, e1, p4, p5, p6, rfl, rfl, k2, k3, t2, k4, k5, k6, t3, k7, k8, k9, t4, l0, l1, l3, t5, l4, l5, l6, t6, l7, l8, l9, t7, m0⟩; refine Zc Za (TO.extract Zd (TO.extract Zd (Wp Ya Rz ?_))); intro p7; refine Xq Za Ze Nr Ya (aN Za (Zl (sR Y2 rfl (Zc Za (Zw Zu (dN (Zq (aT [1, 2, 3, 5, 6, 17] rfl) ?_))))))); rcases Zy H with ⟨r9, H⟩ | ⟨r9, H⟩
 · refine Xb rfl r9 (sR Y6 rfl ?_); refine Vs (t := 85) [.slice none 0 0, .slice none 0 0, iV 0] [0, 1, 2] Za (by simp only [Wh, setCells, Value.cells, List.toList_toArray, List.getD_cons_zero, List.getD_cons_succ, List.set_cons_zero, List.set_cons_succ]; rfl) (by kernel_rfl) ?_; refine Vs (t := 79) [iV 0, iV 0] [0, 1] Za (by simp only [Wh, setCells, Value.cells, List.toList_toArray, List.getD_cons_zero, List.getD_cons_succ, List.set_cons_zero, List.set_cons_succ]; rfl) (by kernel_rfl) ?_; refine Zc Za (Xq Za tk8 Z62 Ya (Xq Za tk8 Z06 Ya (aN Za (T.ret (Yk ?_))))); obtain ⟨rfl, rfl, rfl⟩ := ret3 H; exact Jg Za (Vv rfl Z7j Yi rfl) (Vv rfl Z0y Zk rfl) (Res.tmp rfl) (Pick.none (Pick.none Zg)) ⟨none, 0, 0, ([]), none, 0, 0, ([]), rfl, rfl, rfl, (Nat.le_refl _), (Yz 0 _), (fun _ => rfl), rfl, (Nat.le_refl _), (Yz 0 _), (fun _ => rfl)⟩
 ·
  refine Xc rfl r9 (T.skip (Yb (Zl ?_))); obtain ⟨f9, t8, H⟩ := Zv H; obtain ⟨⟨d5, g3⟩, t9, H⟩ := Zv H; apply Jb [rV [] _, rV [] _, ⟨[1], false, [], fun _ v e => ∃ (e2 : Option Nat) (j0 c71 : Nat) (g9 : List Value) (e3 : Option Nat) (j1 c75 : Nat) (h0 : List Value) (e4 : Option Nat) (j2 c79 : Nat) (h1 : List Value), v = .agg #[sV e2 j0 c71, sV e3 j1 c75, sV e4 j2 c79] ∧ e = [(eI e2 f9.Res g9 2), (eI e3 f9.Ex h0 2), (eI e4 f9.H h1 3)] ∧ f9.Res.length = j0 ∧ j0 ≤ c71 ∧ g9.length = (c71 - j0) * 1 ∧ (e2 = none → c71 = 0) ∧ f9.Ex.length = j1 ∧ j1 ≤ c75 ∧ h0.length = (c75 - j1) * 1 ∧ (e3 = none → c75 = 0) ∧ f9.H.length = j2 ∧ j2 ≤ c79 ∧ h1.length = (c79 - j2) * 1 ∧ (e4 = none → c79 = 0)⟩, ⟨[0, 2], false, [], fun _ v e => ∃ (a6 : Option Nat) (a7 a8 : Nat) (c3 : List Value) (a4 : Option Nat) (a9 c105 : Nat) (c4 : List Value) (a5 : Option Nat) (b0 c109 : Nat) (c7 : List Value), v = .tuple #[.agg #[sV a6 a7 a8, sV a4 a9 c105, sV a5 b0 c109], .agg #[iV g3.Pushes, iV g3.Lifts]] ∧ e = [(eI a6 d5.Res c3 2), (eI a4 d5.Ex c4 2), (eI a5 d5.H c7 3)] ∧ d5.Res.length = a7 ∧ a7 ≤ a8 ∧ c3.length = (a8 - a7) * 1 ∧ (a6 = none → a8 = 0) ∧ d5.Ex.length = a9 ∧ a9 ≤ c105 ∧ c4.length = (c105 - a9) * 1 ∧ (a4 = none → c105 = 0) ∧ d5.H.length = b0 ∧ b0 ≤ c109 ∧ c7.length = (c109 - b0) * 1 ∧ (a5 = none → c109 = 0)⟩, ⟨[3], false, [], fun vl v e => v = (vl.getD 0 undef) ∧ e = []⟩, ⟨[3, 4], false, [], fun vl v e => v = (Jj (vl.getD 1 undef) 0) ∧ e = []⟩, rV [3, 4] _, ⟨[], false, [], fun _ v e => ∃ (f5 : Nat), v = pV f5 ∧ e = [(eC f5 #[.slice none 0 0, .slice none 0 0, .slice none 0 0] 77)]⟩, ⟨[], false, [], fun _ v e => ∃ (f6 : Nat), v = pV f6 ∧ e = [(eC f6 #[iV 0, iV 0] 79)]⟩, ⟨[3, 4, 5, 7], false, [7], fun vl _ e => e = [(some (Z27 (vl.getD 3 undef)), .cells #[(Va (vl.getD 2 undef) 0), (Va (vl.getD 2 undef) 1), (Va (vl.getD 2 undef) 2)] 77 (0, 0))]⟩] [22, 23, 24, 25, 21, 26, 27, 7, 8] 10 (Je [[]]) [[]] [] [(eC p7 #[iV r7.N, iV r7.S, iV r7.T, sV d6 n6 n7, sV d7 n9 o0, sV d8 o2 o4, sV d9 o7 o8, sV e0 p2 c28, sV e1 p4 p5] 64), (eI d6 r7.First n8 3), (eI d7 r7.Head o1 3), (eI d8 r7.Rev o6 3), (eI d9 r7.Cap o9 2), (eI e0 r7.Arc p3 3), (eA e1 boolC r7.Back p6 4), (eC b5 #[iV 0, iV 0] 79), (eC b3 #[.slice none 0 0, .slice none 0 0, iV 0] 85), (eC b1 #[iV n0.N, iV n0.S, iV n0.T, .slice b7 b8 b6] 24)]
  · exact Xy
  · exact rfl
  · kernel_rfl
  · kernel_rfl
  · kernel_rfl
  · exact rfl
  · exact rfl
  · exact rfl
  · exact rfl
  · exact Yu (by repeat constructor)
  ·
   refine ⟨?_, ?_, ?_, ?_, ?_, ?_, ?_, ?_, ?_, ?_, trivial⟩
   · rintro vs es Es Hx -; refine Zn (D := []) rfl ?_; exact Yl Za Wr Zk rfl (Zf (Zr rfl ⟨rfl, rfl⟩ (Zh _) rfl))
   · rintro vs es Es Hx -; refine Zn (D := []) rfl ?_; exact Yl Za Wr Zk rfl (Zf (Zr rfl ⟨rfl, rfl⟩ (Zh _) rfl))
   · rintro vs es Es Hx ⟨⟨g5, m1⟩, -⟩; refine Zn (D := [(23, vs 1)]) rfl ?_; rw [g5]; refine Yf Zbl Za (fun wc hwc => Zb0 (c0 := r7) wc (Yr hwc Yi k2 k3 k4) (Yr hwc Yx k5 k6 k7) (Yr hwc Wa k8 k9 l0) (Yr hwc Wt l1 l3 l4) (Yr hwc Ui l5 l6 l7) (Ky hwc Ur l8 l9 m0) t8) ?_; rintro _ _ ⟨e2, j0, c71, g9, e3, j1, c75, h0, e4, j2, c79, h1, rfl, rfl, h2, h3, m2, h4, h5, h6, m3, h7, h8, h9, m4, i2⟩; refine Zf ?_; exact Zr rfl ⟨e2, j0, c71, g9, e3, j1, c75, h0, e4, j2, c79, h1, rfl, rfl, h2, h3, m2, h4, h5, h6, m3, h7, h8, h9, m4, i2⟩ (Yu (by repeat constructor)) (by show [(23, vs 1)] = _; rw [g5])
   · rintro vs es Es Hx ⟨⟨g6, i4⟩, ⟨e2, j0, c71, g9, e3, j1, c75, h0, e4, j2, c79, h1, g7, i5, h2, h3, m2, h4, h5, h6, m3, h7, h8, h9, m4, i2⟩, -⟩; refine Zn (D := [(22, vs 0), (24, vs 2)]) rfl ?_; rw [g6, g7]; refine Xi (H := _ ++ ((es 0 ++ (es 2 ++ ([]))) ++ _)) rfl ?_; rw [i4, i5]; refine Yf Zdt Za (fun wc hwc => Ze0 (c0 := r7) (p1 := f9) wc (Yr hwc Yi k2 k3 k4) (Yr hwc Yx k5 k6 k7) (Yr hwc Wa k8 k9 l0) (Yr hwc Wt l1 l3 l4) (Yr hwc Ui l5 l6 l7) (Ky hwc Ur l8 l9 m0) (Yr hwc mm10 h2 h3 h4) (Yr hwc mm11 h5 h6 h7) (Yr hwc mm12 h8 h9 i2) t9) ?_; rintro _ _ ⟨a6, a7, a8, c3, a4, a9, c105, c4, a5, b0, c109, c7, rfl, rfl, d1, d2, e5, d4, c8, c9, e6, d0, e7, e8, f0, f2⟩; refine Zf ?_; exact Zr rfl ⟨a6, a7, a8, c3, a4, a9, c105, c4, a5, b0, c109, c7, rfl, rfl, d1, d2, e5, d4, c8, c9, e6, d0, e7, e8, f0, f2⟩ (by show Pick (_ ++ (_ ++ ((es 0 ++ (es 2 ++ ([]))) ++ _))) _; rw [i4, i5]; exact Yu (by repeat constructor)) (by show [(22, vs 0), (24, vs 2)] = _; rw [g6, g7])
   · rintro vs es Es Hx ⟨⟨a6, a7, a8, c3, a4, a9, c105, c4, a5, b0, c109, c7, b9, f4, d1, d2, e5, d4, c8, c9, e6, d0, e7, e8, f0, f2⟩, -⟩; refine Zn (D := [(25, vs 3)]) rfl ?_; rw [b9]; refine Xi (H := _ ++ ((es 3 ++ ([])) ++ _)) rfl ?_; rw [f4]; refine Zc Za (Zf ?_); exact Zr rfl ⟨by show _ = vs 3; rw [b9] <;> rfl, rfl⟩ (by show Pick (_ ++ (_ ++ ((es 3 ++ ([])) ++ _))) _; rw [f4]; exact Yu (by repeat constructor)) (by show [(25, vs 3)] = _; rw [b9])
   ·
    rintro vs es Es Hx ⟨⟨a6, a7, a8, c3, a4, a9, c105, c4, a5, b0, c109, c7, b9, f4, d1, d2, e5, d4, c8, c9, e6, d0, e7, e8, f0, f2⟩, ⟨j3, g0⟩, -⟩; have f3 : vs 4 = .tuple #[.agg #[sV a6 a7 a8, sV a4 a9 c105, sV a5 b0 c109], .agg #[iV g3.Pushes, iV g3.Lifts]] := by refine Eq.trans j3 ?_; show vs 3 = _; rw [b9] <;> rfl
    refine Zn (D := [(25, vs 3), (21, vs 4)]) rfl ?_; rw [b9, f3]; refine Xi (H := _ ++ ((es 3 ++ (es 4 ++ ([]))) ++ _)) rfl ?_; rw [f4, g0]; refine TO.extract Zd (Zf ?_); exact Zr rfl ⟨by show _ = (Jj (vs 4) 0); rw [f3] <;> rfl, rfl⟩ (by show Pick (_ ++ (_ ++ ((es 3 ++ (es 4 ++ ([]))) ++ _))) _; rw [f4, g0]; exact Yu (by repeat constructor)) (by show [(25, vs 3), (21, vs 4)] = _; rw [b9, f3])
   ·
    rintro vs es Es Hx ⟨⟨a6, a7, a8, c3, a4, a9, c105, c4, a5, b0, c109, c7, b9, f4, d1, d2, e5, d4, c8, c9, e6, d0, e7, e8, f0, f2⟩, ⟨j3, g0⟩, -⟩; have f3 : vs 4 = .tuple #[.agg #[sV a6 a7 a8, sV a4 a9 c105, sV a5 b0 c109], .agg #[iV g3.Pushes, iV g3.Lifts]] := by refine Eq.trans j3 ?_; show vs 3 = _; rw [b9] <;> rfl
    refine Zn (D := [(25, vs 3), (21, vs 4)]) rfl ?_; rw [b9, f3]; refine Xi (H := _ ++ ((es 3 ++ (es 4 ++ ([]))) ++ _)) rfl ?_; rw [f4, g0]; refine TO.extract Zd (Zf ?_); exact Zr rfl ⟨rfl, rfl⟩ (by show Pick (_ ++ (_ ++ ((es 3 ++ (es 4 ++ ([]))) ++ _))) _; rw [f4, g0]; exact Yu (by repeat constructor)) (by show [(25, vs 3), (21, vs 4)] = _; rw [b9, f3])
   · rintro vs es Es Hx -; refine Zn (D := []) rfl ?_; refine Wp Ya No ?_; intro f5; refine Zf ?_; exact Zr rfl ⟨f5, rfl, rfl⟩ (Yu (by repeat constructor)) rfl
   · rintro vs es Es Hx -; refine Zn (D := []) rfl ?_; refine Wp Ya Z57 ?_; intro f6; refine Zf ?_; exact Zr rfl ⟨f6, rfl, rfl⟩ (Yu (by repeat constructor)) rfl
   ·
    rintro vs es Es Hx ⟨⟨a6, a7, a8, c3, a4, a9, c105, c4, a5, b0, c109, c7, b9, f4, d1, d2, e5, d4, c8, c9, e6, d0, e7, e8, f0, f2⟩, ⟨j3, g0⟩, ⟨r6, g8⟩, ⟨f5, g4, m5⟩, -⟩; have f3 : vs 4 = .tuple #[.agg #[sV a6 a7 a8, sV a4 a9 c105, sV a5 b0 c109], .agg #[iV g3.Pushes, iV g3.Lifts]] := by refine Eq.trans j3 ?_; show vs 3 = _; rw [b9] <;> rfl
    have g1 : vs 5 = .agg #[sV a6 a7 a8, sV a4 a9 c105, sV a5 b0 c109] := by refine Eq.trans r6 ?_; show (Jj (vs 4) 0) = _; rw [f3] <;> rfl
    refine Zn (D := [(25, vs 3), (21, vs 4), (26, vs 5), (7, vs 7)]) rfl ?_; rw [b9, f3, g1, g4]; refine Xi (H := _ ++ ((es 3 ++ (es 4 ++ (es 5 ++ (es 7 ++ ([]))))) ++ _)) rfl ?_; rw [f4, g0, g8, m5]; refine Xq Za tk13 Ks Ya ?_; refine Xi (H := [(some (Z27 (vs 7)), .cells #[(Va (vs 5) 0), (Va (vs 5) 1), (Va (vs 5) 2)] 77 (0, 0)), (eC p7 #[iV r7.N, iV r7.S, iV r7.T, sV d6 n6 n7, sV d7 n9 o0, sV d8 o2 o4, sV d9 o7 o8, sV e0 p2 c28, sV e1 p4 p5] 64), (eI d6 r7.First n8 3), (eI d7 r7.Head o1 3), (eI d8 r7.Rev o6 3), (eI d9 r7.Cap o9 2), (eI e0 r7.Arc p3 3), (eA e1 boolC r7.Back p6 4), (eC b5 #[iV 0, iV 0] 79), (eC b3 #[.slice none 0 0, .slice none 0 0, iV 0] 85), (eC b1 #[iV n0.N, iV n0.S, iV n0.T, .slice b7 b8 b6] 24), (eI a6 d5.Res c3 2), (eI a4 d5.Ex c4 2), (eI a5 d5.H c7 3)] ++ Hx) (by rw [g1, g4] <;> rfl) ?_; refine Zf ?_; exact X.obQn rfl rfl (by show Pick (_ ++ (_ ++ ((es 3 ++ (es 4 ++ (es 5 ++ ([])))) ++ _))) _; rw [f4, g0, g8]; exact Yu (by repeat constructor)) (by show [(25, vs 3), (21, vs 4), (26, vs 5), (7, vs 7)] = _; rw [b9, f3, g1, g4])
  ·
   rintro vs es hb ⟨⟨g6, i4⟩, ⟨g5, m1⟩, ⟨e2, j0, c71, g9, e3, j1, c75, h0, e4, j2, c79, h1, g7, i5, h2, h3, m2, h4, h5, h6, m3, h7, h8, h9, m4, i2⟩, ⟨a6, a7, a8, c3, a4, a9, c105, c4, a5, b0, c109, c7, b9, f4, d1, d2, e5, d4, c8, c9, e6, d0, e7, e8, f0, f2⟩, ⟨j3, g0⟩, ⟨r6, g8⟩, ⟨j4, m8⟩, ⟨f5, g4, m5⟩, ⟨f6, j5, m9⟩, p8, -⟩ hHR; obtain rfl : hb = [] := hHR; have f3 : vs 4 = .tuple #[.agg #[sV a6 a7 a8, sV a4 a9 c105, sV a5 b0 c109], .agg #[iV g3.Pushes, iV g3.Lifts]] := by refine Eq.trans j3 ?_; show vs 3 = _; rw [b9] <;> rfl
   have g1 : vs 5 = .agg #[sV a6 a7 a8, sV a4 a9 c105, sV a5 b0 c109] := by refine Eq.trans r6 ?_; show (Jj (vs 4) 0) = _; rw [f3] <;> rfl
   refine Zn (D := [(22, vs 0), (23, vs 1), (24, vs 2), (25, vs 3), (21, vs 4), (26, vs 5), (27, vs 6), (7, vs 7), (8, vs 8)]) rfl ?_; refine Xi (H := [(eC p7 #[iV r7.N, iV r7.S, iV r7.T, sV d6 n6 n7, sV d7 n9 o0, sV d8 o2 o4, sV d9 o7 o8, sV e0 p2 c28, sV e1 p4 p5] 64), (eI d6 r7.First n8 3), (eI d7 r7.Head o1 3), (eI d8 r7.Rev o6 3), (eI d9 r7.Cap o9 2), (eI e0 r7.Arc p3 3), (eA e1 boolC r7.Back p6 4), (eC b5 #[iV 0, iV 0] 79), (eC b3 #[.slice none 0 0, .slice none 0 0, iV 0] 85), (eC b1 #[iV n0.N, iV n0.S, iV n0.T, .slice b7 b8 b6] 24), (eI e2 f9.Res g9 2), (eI e3 f9.Ex h0 2), (eI e4 f9.H h1 3), (eI a6 d5.Res c3 2), (eI a4 d5.Ex c4 2), (eI a5 d5.H c7 3), (eC f6 #[iV 0, iV 0] 79), (some (Z27 (vs 7)), .cells #[(Va (vs 5) 0), (Va (vs 5) 1), (Va (vs 5) 2)] 77 (0, 0))]) (by show _ ++ (_ ++ (es 0 ++ (es 1 ++ (es 2 ++ (es 3 ++ (es 4 ++ (es 5 ++ (es 6 ++ (es 8 ++ (es 9 ++ ([]))))))))))) = _; rw [i4, m1, i5, f4, g0, g8, m8, m9, p8]; rfl) ?_; rw [g6, g5, g7, b9, f3, g1, j4, g4, j5]; refine Xi (H := [(eC p7 #[iV r7.N, iV r7.S, iV r7.T, sV d6 n6 n7, sV d7 n9 o0, sV d8 o2 o4, sV d9 o7 o8, sV e0 p2 c28, sV e1 p4 p5] 64), (eI d6 r7.First n8 3), (eI d7 r7.Head o1 3), (eI d8 r7.Rev o6 3), (eI d9 r7.Cap o9 2), (eI e0 r7.Arc p3 3), (eA e1 boolC r7.Back p6 4), (eC b5 #[iV 0, iV 0] 79), (eC b3 #[.slice none 0 0, .slice none 0 0, iV 0] 85), (eC b1 #[iV n0.N, iV n0.S, iV n0.T, .slice b7 b8 b6] 24), (eI e2 f9.Res g9 2), (eI e3 f9.Ex h0 2), (eI e4 f9.H h1 3), (eI a6 d5.Res c3 2), (eI a4 d5.Ex c4 2), (eI a5 d5.H c7 3), (eC f6 #[iV 0, iV 0] 79), (eC f5 #[sV a6 a7 a8, sV a4 a9 c105, sV a5 b0 c109] 77)]) rfl ?_; clear j5 g4 j4 g1 f3 b9 g7 g5 g6 j3 r6 i4 m1 i5 f4 g0 g8 m8 m5 m9 p8; refine Xq Za tk16 Z06 Ya (dN (Zq (aT [1, 2, 3, 5, 7, 8] rfl) (Zl ?_))); obtain ⟨⟨p9, u3⟩, s6, H⟩ := Zv H; refine rG Y12 rfl (Yl Za Wr Yi rfl (Zp Za Js (Zo Za Wn mm17 rfl (Zp Za Vz (Zo Za Ue mm10 rfl (Xm (xs := n0.Arcs) g2.len Zd Vd ?_)))))); refine Yf Z9y Za (fun wc hwc => Zae (c0 := r7) (res1 := d5.Res) (arcs2 := (n0.Arcs.length : Int)) wc (Yr hwc Yx k2 k3 k4) (Yr hwc Wa k5 k6 k7) (Yr hwc Wt k8 k9 l0) (Yr hwc Ui l1 l3 l4) (Yr hwc Ur l5 l6 l7) (Ky hwc Jz l8 l9 m0) (Yr hwc mm14 d1 d2 d4) s6) ?_; rintro _ _ ⟨f7, i6, i7, q0, rfl, rfl, j6, j7, q1, j8⟩; refine Zc Za (TO.extract Zd (TO.extract Zd (Ye Za (aN Za (Zq (aT [1, 2, 3, 7, 8, 9, 6] rfl) (Zl (sR Y2 rfl (Zc Za (Zw Zu (dN ?_)))))))))); rcases Zy H with ⟨m6, H⟩ | ⟨m6, H⟩
   · refine Xb rfl m6 (sR Y6 rfl ?_); refine Vs (t := 85) [.slice none 0 0, .slice none 0 0, iV 0] [0, 1, 2] Za (by simp only [Wh, setCells, Value.cells, List.toList_toArray, List.getD_cons_zero, List.getD_cons_succ, List.set_cons_zero, List.set_cons_succ]; rfl) (by kernel_rfl) ?_; refine Vs (t := 79) [iV 0, iV 0] [0, 1] Za (by simp only [Wh, setCells, Value.cells, List.toList_toArray, List.getD_cons_zero, List.getD_cons_succ, List.set_cons_zero, List.set_cons_succ]; rfl) (by kernel_rfl) ?_; refine Zc Za (Xq Za tk10 Z62 Ya (Xq Za tk10 Z06 Ya (aN Za (Zq (aT [2, 3, 4] rfl) (T.ret (Yk ?_)))))); obtain ⟨rfl, rfl, rfl⟩ := ret3 H; exact Jg Za (Vv rfl Z7j Yi rfl) (Vv rfl Z0y Zk rfl) (Res.tmp rfl) (Pick.none (Pick.none Zg)) ⟨none, 0, 0, ([]), none, 0, 0, ([]), rfl, rfl, rfl, (Nat.le_refl _), (Yz 0 _), (fun _ => rfl), rfl, (Nat.le_refl _), (Yz 0 _), (fun _ => rfl)⟩
   ·
    refine Xc rfl m6 (T.skip (Yb (Zl ?_))); obtain ⟨⟨s7, u5⟩, s8, H⟩ := Zv H; refine rG Y8 rfl (Yl Za Xh mm11 rfl (Zc Za ?_)); refine Yf Zec Za (fun wc hwc => Zcp (n0 := n0) (f1 := p9) wc (g2.mono hwc) (Yr hwc Zk j6 j7 j8) s8) ?_; rintro _ _ ⟨f8, i8, i9, q2, rfl, rfl, q3, q4, q5, q6⟩; refine Zc Za (TO.extract Zd (TO.extract Zd (Ye Za (aN Za (Zq (aT [1, 2, 3, 7, 8, 9, 6, 10] rfl) (Zl (sR Y2 rfl (Zc Za (Zw Zu (dN ?_)))))))))); rcases Zy H with ⟨m7, H⟩ | ⟨m7, H⟩
    · refine Xb rfl m7 (sR Y6 rfl ?_); refine Vs (t := 85) [.slice none 0 0, .slice none 0 0, iV 0] [0, 1, 2] Za (by simp only [Wh, setCells, Value.cells, List.toList_toArray, List.getD_cons_zero, List.getD_cons_succ, List.set_cons_zero, List.set_cons_succ]; rfl) (by kernel_rfl) ?_; refine Vs (t := 79) [iV 0, iV 0] [0, 1] Za (by simp only [Wh, setCells, Value.cells, List.toList_toArray, List.getD_cons_zero, List.getD_cons_succ, List.set_cons_zero, List.set_cons_succ]; rfl) (by kernel_rfl) ?_; refine Zc Za (Xq Za tk11 Z62 Ya (Xq Za tk11 Z06 Ya (aN Za (Zq (aT [2, 3, 4] rfl) (T.ret (Yk ?_)))))); obtain ⟨rfl, rfl, rfl⟩ := ret3 H; exact Jg Za (Vv rfl Z7j Yi rfl) (Vv rfl Z0y Zk rfl) (Res.tmp rfl) (Pick.none (Pick.none Zg)) ⟨none, 0, 0, ([]), none, 0, 0, ([]), rfl, rfl, rfl, (Nat.le_refl _), (Yz 0 _), (fun _ => rfl), rfl, (Nat.le_refl _), (Yz 0 _), (fun _ => rfl)⟩
    ·
     refine Xc rfl m7 (T.skip (Yb (Zl ?_))); obtain ⟨q7, H⟩ := Zz H; apply Jb [rV [] _, rV [] _, rV [] _, rV [2] _, rV [] _, rV [4] _, rV [3, 5] _, rV [3, 5, 6] _, rV [0, 1, 7] _, rV [] _, ⟨[8], true, [], Jq⟩] [54, 55, 56, 57, 58, 59, 60, 61, 62, 63] 11 (Je [[(eC b3 #[.slice none 0 0, .slice none 0 0, iV 0] 85)], [(eC b3 #[sV f7 i6 i7, sV f8 i8 i9, iV (d5.Ex.getD n0.T.toNat 0)] 85)]]) [[], []] [(eC b3 #[.slice none 0 0, .slice none 0 0, iV 0] 85)] [(eA f8 boolC s7 q2 4), (eI f7 p9 q0 2), (eC f6 #[iV g3.Pushes, iV g3.Lifts] 79), (eC p7 #[iV r7.N, iV r7.S, iV r7.T, sV d6 n6 n7, sV d7 n9 o0, sV d8 o2 o4, sV d9 o7 o8, sV e0 p2 c28, sV e1 p4 p5] 64), (eI d6 r7.First n8 3), (eI d7 r7.Head o1 3), (eI d8 r7.Rev o6 3), (eI d9 r7.Cap o9 2), (eI e0 r7.Arc p3 3), (eA e1 boolC r7.Back p6 4), (eC b5 #[iV 0, iV 0] 79), (eC b1 #[iV n0.N, iV n0.S, iV n0.T, .slice b7 b8 b6] 24), (eI e2 f9.Res g9 2), (eI e3 f9.Ex h0 2), (eI e4 f9.H h1 3), (eI a6 d5.Res c3 2), (eI a4 d5.Ex c4 2), (eI a5 d5.H c7 3), (eC f5 #[sV a6 a7 a8, sV a4 a9 c105, sV a5 b0 c109] 77)]
     · exact Xy
     · exact rfl
     · kernel_rfl
     · kernel_rfl
     · kernel_rfl
     · exact rfl
     · exact rfl
     · exact rfl
     · exact rfl
     · exact Yu (by repeat constructor)
     ·
      refine ⟨?_, ?_, ?_, ?_, ?_, ?_, ?_, ?_, ?_, ?_, ?_, trivial⟩
      · rintro vs es Es Hx -; refine Zn (D := []) rfl ?_; exact Zc Za (Zf (Zr rfl ⟨rfl, rfl⟩ (Zh _) rfl))
      · rintro vs es Es Hx -; refine Zn (D := []) rfl ?_; exact Zc Za (Zf (Zr rfl ⟨rfl, rfl⟩ (Zh _) rfl))
      · rintro vs es Es Hx -; refine Zn (D := []) rfl ?_; exact Zp Za Lc (Zf (Zr rfl ⟨rfl, rfl⟩ (Zh _) rfl))
      · rintro vs es Es Hx ⟨⟨g7, i5⟩, -⟩; refine Zn (D := [(56, vs 2)]) rfl ?_; rw [g7]; refine Zo Za Wn mm18 rfl (Zf ?_); exact Zr rfl ⟨rfl, rfl⟩ (Zh _) (by show [(56, vs 2)] = _; rw [g7])
      · rintro vs es Es Hx -; refine Zn (D := []) rfl ?_; exact Zp Za Kw (Zf (Zr rfl ⟨rfl, rfl⟩ (Zh _) rfl))
      · rintro vs es Es Hx ⟨⟨f3, g0⟩, -⟩; refine Zn (D := [(58, vs 4)]) rfl ?_; rw [f3]; refine Zo Za Zx mm11 rfl (Zf ?_); exact Zr rfl ⟨rfl, rfl⟩ (Zh _) (by show [(58, vs 4)] = _; rw [f3])
      · rintro vs es Es Hx ⟨⟨b9, f4⟩, ⟨g1, g8⟩, -⟩; refine Zn (D := [(57, vs 3), (59, vs 5)]) rfl ?_; rw [b9, g1]; refine Xs d0 c9 c8 q7 Zd Yq Yp (Zf ?_); exact Zr rfl ⟨rfl, rfl⟩ (Zh _) (by show [(57, vs 3), (59, vs 5)] = _; rw [b9, g1])
      · rintro vs es Es Hx ⟨⟨b9, f4⟩, ⟨g1, g8⟩, ⟨j4, m8⟩, -⟩; refine Zn (D := [(57, vs 3), (59, vs 5), (60, vs 6)]) rfl ?_; rw [b9, g1, j4]; refine Vu d0 c9 c8 q7 Za Xj mm16 (Zf ?_); exact Zr rfl ⟨rfl, rfl⟩ (Zh _) (by show [(57, vs 3), (59, vs 5), (60, vs 6)] = _; rw [b9, g1, j4])
      · rintro vs es Es Hx ⟨⟨g6, i4⟩, ⟨g5, m1⟩, ⟨g4, m5⟩, -⟩; refine Zn (D := [(54, vs 0), (55, vs 1), (61, vs 7)]) rfl ?_; rw [g6, g5, g4]; refine Vs (t := 85) [.slice none 0 0, .slice none 0 0, iV 0] [0, 1, 2] Za (by simp only [Wh, setCells, Value.cells, List.toList_toArray, List.getD_cons_zero, List.getD_cons_succ, List.set_cons_zero, List.set_cons_succ]; rfl) (by kernel_rfl) ?_; refine Zf ?_; exact Zr rfl ⟨rfl, rfl⟩ (Zh _) (by show [(54, vs 0), (55, vs 1), (61, vs 7)] = _; rw [g6, g5, g4])
      · rintro vs es Es Hx -; refine Zn (D := []) rfl ?_; exact Yl Za Z0y Yx rfl (Zf (Zr rfl ⟨rfl, rfl⟩ (Zh _) rfl))
      · rintro vs es Es Hx hb ⟨⟨j5, m9⟩, -⟩ hHR; obtain rfl : hb = [(eC b3 #[.slice none 0 0, .slice none 0 0, iV 0] 85)] := hHR; refine Zn (D := [(62, vs 8)]) rfl ?_; rw [j5]; refine Xq Za Ze Z62 Ya (Zf ?_); exact Gi (hb' := [(eC b3 #[sV f7 i6 i7, sV f8 i8 i9, iV (d5.Ex.getD n0.T.toNat 0)] 85)]) rfl rfl rfl (Yu (by repeat constructor)) (by show [(62, vs 8)] = _; rw [j5])
     · rintro vs es hb ⟨⟨g6, i4⟩, ⟨g5, m1⟩, ⟨g7, i5⟩, ⟨b9, f4⟩, ⟨f3, g0⟩, ⟨g1, g8⟩, ⟨j4, m8⟩, ⟨g4, m5⟩, ⟨j5, m9⟩, ⟨t1, p8⟩, q8, -⟩ hHR; obtain rfl : hb = [(eC b3 #[sV f7 i6 i7, sV f8 i8 i9, iV (d5.Ex.getD n0.T.toNat 0)] 85)] := hHR; refine Zn (D := [(54, vs 0), (55, vs 1), (56, vs 2), (57, vs 3), (58, vs 4), (59, vs 5), (60, vs 6), (61, vs 7), (62, vs 8), (63, vs 9)]) rfl ?_; refine Xi (H := _ ++ (_ ++ (es 0 ++ (es 1 ++ (es 2 ++ (es 3 ++ (es 4 ++ (es 5 ++ (es 6 ++ (es 7 ++ (es 8 ++ (es 9 ++ (es 10 ++ ([])))))))))))))) rfl ?_; rw [i4, m1, i5, f4, g0, g8, m8, m5, m9, p8, q8]; rw [g6, g5, g7, b9, f3, g1, j4, g4, j5, t1]; clear t1 j5 g4 j4 g1 f3 b9 g7 g5 g6 i4 m1 i5 f4 g0 g8 m8 m5 m9 p8 q8; refine Xq Za tk11 Z06 Ya (aN Za (Zq (aT [2, 3, 4] rfl) (T.ret ?_))); obtain ⟨rfl, rfl, rfl⟩ := ret3 H; exact Jg Za (Vv rfl Z7j Yi rfl) (Vv rfl Z0y Zk rfl) (Res.tmp rfl) (Zb Wj (Zb Zs Zg)) ⟨f7, i6, i7, q0, f8, i8, i9, q2, rfl, rfl, j6, j7, q1, j8, q3, q4, q5, q6⟩
end Go.Proofs.Ytfdhelnfgfaeaaa.Ax
namespace Go.Proofs.Ytfdhelnfgfaeaaa.Ax
open Go Go.Acq Go.RowKit Go.Proofs
set_option maxHeartbeats 8000000
set_option maxRecDepth 20000
theorem Zjs : Ys Try.prog 30 = true := by kernel_rfl
theorem Zdf : Ys Try.prog 38 = true := by kernel_rfl
theorem Ziv : Ys Try.prog 39 = true := by kernel_rfl
theorem Zje : Ys Try.prog 46 = true := by kernel_rfl
theorem Zjb : Ys Try.prog 47 = true := by kernel_rfl
theorem Zif : Ws Try.prog 85 2 = some 2 := by kernel_rfl
theorem w_acequialaw23_BackCut {n0 : Net} {moves1 : List Int} {whole2 : Bool} {i5 e2 : Option Addr} {i6 i4 e3 e4 : Nat} (w : World) (t5 : RS w [] Xa 3 i5 i6 i4 n0.Arcs) (k3 : RS w [] (intC .u8) 1 e2 e3 e4 moves1) {r0 : Bool} (H : Z92 n0 moves1 whole2 = some r0) : Fnc Try.prog 14 #[.agg #[iV n0.N, iV n0.S, iV n0.T, .slice i5 i6 i4], .slice e2 e3 e4, .bool whole2] w [] (fun v N => v = .bool r0 ∧ N = []) := by
 unfold Z92 at H; refine Fnc.enter (vs := [.agg #[iV n0.N, iV n0.S, iV n0.T, .slice i5 i6 i4], .slice e2 e3 e4, .bool whole2]) Try.func14 rfl rfl (Inv.refl w) ?_; refine sR Y2 rfl (Xo Za ?_); intro b1; refine aN Za (Zl ?_); obtain ⟨⟨r3, r4, r5⟩, e6, H⟩ := Zv H; refine rG Y10 rfl (Yl Za Xh Zk rfl (Zc Za ?_)); refine Yf Ziv Za (fun wc hwc => Zh6 (n0 := n0) (moves1 := moves1) wc (t5.mono hwc) (k3.mono hwc) e6) ?_; rintro _ _ ⟨h5, n8, c9, h6, k4, D8, D9, t9, rfl, rfl, g6, h7, E0, h8, z0, z1, z5, z6⟩; refine Zc Za (TO.extract Zd (TO.extract Zd (TO.extract Zd (Xq Za Zs Z0d Ya (Ye Za (aN Za (Zq (aT [2, 3, 7, 8] rfl) (Zl (sR Y2 rfl (Zc Za (TO.not Za (dN ?_)))))))))))); rcases Zy H with ⟨z7, H⟩ | ⟨z7, H⟩
 · refine Xr rfl z7 (sR Y1 rfl (aN Za (T.ret (Yk ?_)))); obtain rfl := ret1 H; exact Yn Za (Res.tmp rfl) Zg ⟨rfl, rfl⟩
 ·
  refine Xx rfl (Bool.eq_false_iff.2 z7) (T.skip (Yb (Zl (sR Y1 rfl (Zc Za (dN ?_)))))); refine Z2t (fun (b8 : List Int) (c4 c7 : Nat) (a7 : Option Nat) (g7 : List Value) => Z2l whole2 r3 b8 = some r0 ∧ b8.length = c4 ∧ c4 ≤ c7 ∧ g7.length = (c7 - c4) * 1 ∧ (a7 = none → c7 = 0)) (fun (b8 : List Int) (c4 c7 : Nat) (a7 : Option Nat) (g7 : List Value) => [(2, .bool whole2), (3, pV b1), (7, sV a7 c4 c7)]) (fun (b8 : List Int) (c4 c7 : Nat) (a7 : Option Nat) (g7 : List Value) => [(eC b1 #[iV r3.N, iV r3.S, iV r3.T, sV h5 n8 c9] 24), (eA h5 Xa r3.Arcs h6 35), (eI a7 b8 g7 2)]) ?_ ?_
  ·
   rcases Zy H with ⟨z8, H⟩ | ⟨z8, H⟩
   ·
    refine Xr rfl z8 (Zl ?_); obtain ⟨⟨a9, F8⟩, E1, H⟩ := Zv H; refine rG Y8 rfl (Yl Za Xh Zk rfl ?_); refine Yf Z9m Za (fun wc hwc => Z6o (n0 := r3) wc (hwc.rs (f := Xa) (s := 3) (xs := r3.Arcs) (j := h6) (fun _ => rfl) Yi g6 h7 h8) E1) ?_; rintro _ _ ⟨g8, x2, x3, x4, g9, n35, c36, x5, h0, x6, c40, x7, h1, x8, c44, x9, h2, y0, c48, y2, h3, y3, y4, y5, rfl, rfl, o0, o1, E2, o2, o4, o6, E3, o7, o8, o9, E4, p2, p3, p4, E5, p5, p6, p7, E6, p8, p9, q0, E7, q1⟩; refine Zc Za (TO.extract Zd (TO.extract Zd (Wp Ya Rz ?_))); intro y6; refine Xq Za Ze Nr Ya (aN Za (Zq (aT [2, 3, 9] rfl) (Zl ?_))); obtain ⟨j8, E8, H⟩ := Zv H; obtain ⟨⟨b9, e5⟩, z9, H⟩ := Zv H; apply Jb [rV [] _, rV [] _, ⟨[1], false, [], fun _ v e => ∃ (g2 : Option Nat) (l9 m0 : Nat) (m1 : List Value) (g3 : Option Nat) (m2 m3 : Nat) (m4 : List Value) (g4 : Option Nat) (m5 m6 : Nat) (m7 : List Value), v = .agg #[sV g2 l9 m0, sV g3 m2 m3, sV g4 m5 m6] ∧ e = [(eI g2 j8.Res m1 2), (eI g3 j8.Ex m4 2), (eI g4 j8.H m7 3)] ∧ j8.Res.length = l9 ∧ l9 ≤ m0 ∧ m1.length = (m0 - l9) * 1 ∧ (g2 = none → m0 = 0) ∧ j8.Ex.length = m2 ∧ m2 ≤ m3 ∧ m4.length = (m3 - m2) * 1 ∧ (g3 = none → m3 = 0) ∧ j8.H.length = m5 ∧ m5 ≤ m6 ∧ m7.length = (m6 - m5) * 1 ∧ (g4 = none → m6 = 0)⟩, ⟨[0, 2], false, [], fun _ v e => ∃ (a4 : Option Nat) (b0 c120 : Nat) (d0 : List Value) (a5 : Option Nat) (b5 c124 : Nat) (d1 : List Value) (a6 : Option Nat) (b6 c128 : Nat) (d2 : List Value), v = .tuple #[.agg #[sV a4 b0 c120, sV a5 b5 c124, sV a6 b6 c128], .agg #[iV e5.Pushes, iV e5.Lifts]] ∧ e = [(eI a4 b9.Res d0 2), (eI a5 b9.Ex d1 2), (eI a6 b9.H d2 3)] ∧ b9.Res.length = b0 ∧ b0 ≤ c120 ∧ d0.length = (c120 - b0) * 1 ∧ (a4 = none → c120 = 0) ∧ b9.Ex.length = b5 ∧ b5 ≤ c124 ∧ d1.length = (c124 - b5) * 1 ∧ (a5 = none → c124 = 0) ∧ b9.H.length = b6 ∧ b6 ≤ c128 ∧ d2.length = (c128 - b6) * 1 ∧ (a6 = none → c128 = 0)⟩, ⟨[3], false, [], fun vl v e => v = (vl.getD 0 undef) ∧ e = []⟩, ⟨[3, 4], false, [], fun vl v e => v = (Jj (vl.getD 1 undef) 0) ∧ e = []⟩, rV [3, 4] _, ⟨[], false, [], fun _ v e => ∃ (h9 : Nat), v = pV h9 ∧ e = [(eC h9 #[.slice none 0 0, .slice none 0 0, .slice none 0 0] 77)]⟩, ⟨[], false, [], fun _ v e => ∃ (i2 : Nat), v = pV i2 ∧ e = [(eC i2 #[iV 0, iV 0] 79)]⟩, ⟨[3, 4, 5, 7], false, [7], fun vl _ e => e = [(some (Z27 (vl.getD 3 undef)), .cells #[(Va (vl.getD 2 undef) 0), (Va (vl.getD 2 undef) 1), (Va (vl.getD 2 undef) 2)] 77 (0, 0))]⟩] [42, 43, 44, 45, 41, 46, 47, 11, 12] 10 (Je [[]]) [[]] [] [(eC y6 #[iV a9.N, iV a9.S, iV a9.T, sV g8 x2 x3, sV g9 n35 c36, sV h0 x6 c40, sV h1 x8 c44, sV h2 y0 c48, sV h3 y3 y4] 64), (eI g8 a9.First x4 3), (eI g9 a9.Head x5 3), (eI h0 a9.Rev x7 3), (eI h1 a9.Cap x9 2), (eI h2 a9.Arc y2 3), (eA h3 boolC a9.Back y5 4), (eC b1 #[iV r3.N, iV r3.S, iV r3.T, sV h5 n8 c9] 24), (eA h5 Xa r3.Arcs h6 35), (eI k4 r4 t9 2)]
    · exact Xy
    · exact rfl
    · kernel_rfl
    · kernel_rfl
    · kernel_rfl
    · exact rfl
    · exact rfl
    · exact rfl
    · exact rfl
    · exact Yu (by repeat constructor)
    ·
     refine ⟨?_, ?_, ?_, ?_, ?_, ?_, ?_, ?_, ?_, ?_, trivial⟩
     · rintro vs es Es Hx -; refine Zn (D := []) rfl ?_; exact Yl Za Wr Zk rfl (Zf (Zr rfl ⟨rfl, rfl⟩ (Zh _) rfl))
     · rintro vs es Es Hx -; refine Zn (D := []) rfl ?_; exact Yl Za Wr Zk rfl (Zf (Zr rfl ⟨rfl, rfl⟩ (Zh _) rfl))
     · rintro vs es Es Hx ⟨⟨u3, A0⟩, -⟩; refine Zn (D := [(43, vs 1)]) rfl ?_; rw [u3]; refine Yf Zbl Za (fun wc hwc => Zb0 (c0 := a9) wc (Yr hwc Yi o0 o1 o2) (Yr hwc Yx o4 o6 o7) (Yr hwc Wa o8 o9 p2) (Yr hwc Wt p3 p4 p5) (Yr hwc Ui p6 p7 p8) (Ky hwc Ur p9 q0 q1) E8) ?_; rintro _ _ ⟨g2, l9, m0, m1, g3, m2, m3, m4, g4, m5, m6, m7, rfl, rfl, i7, i8, k5, i9, j0, j1, k6, j2, j3, j4, k7, j5⟩; refine Zf ?_; exact Zr rfl ⟨g2, l9, m0, m1, g3, m2, m3, m4, g4, m5, m6, m7, rfl, rfl, i7, i8, k5, i9, j0, j1, k6, j2, j3, j4, k7, j5⟩ (Yu (by repeat constructor)) (by show [(43, vs 1)] = _; rw [u3])
     · rintro vs es Es Hx ⟨⟨u5, u6⟩, ⟨g2, l9, m0, m1, g3, m2, m3, m4, g4, m5, m6, m7, u7, u9, i7, i8, k5, i9, j0, j1, k6, j2, j3, j4, k7, j5⟩, -⟩; refine Zn (D := [(42, vs 0), (44, vs 2)]) rfl ?_; rw [u5, u7]; refine Xi (H := _ ++ ((es 0 ++ (es 2 ++ ([]))) ++ _)) rfl ?_; rw [u6, u9]; refine Yf Zdt Za (fun wc hwc => Ze0 (c0 := a9) (p1 := j8) wc (Yr hwc Yi o0 o1 o2) (Yr hwc Yx o4 o6 o7) (Yr hwc Wa o8 o9 p2) (Yr hwc Wt p3 p4 p5) (Yr hwc Ui p6 p7 p8) (Ky hwc Ur p9 q0 q1) (Yr hwc mm10 i7 i8 i9) (Yr hwc mm11 j0 j1 j2) (Yr hwc mm12 j3 j4 j5) z9) ?_; rintro _ _ ⟨a4, b0, c120, d0, a5, b5, c124, d1, a6, b6, c128, d2, rfl, rfl, d5, d6, e8, d7, e9, f0, f2, f3, f4, f5, f6, f7⟩; refine Zf ?_; exact Zr rfl ⟨a4, b0, c120, d0, a5, b5, c124, d1, a6, b6, c128, d2, rfl, rfl, d5, d6, e8, d7, e9, f0, f2, f3, f4, f5, f6, f7⟩ (by show Pick (_ ++ (_ ++ ((es 0 ++ (es 2 ++ ([]))) ++ _))) _; rw [u6, u9]; exact Yu (by repeat constructor)) (by show [(42, vs 0), (44, vs 2)] = _; rw [u5, u7])
     · rintro vs es Es Hx ⟨⟨a4, b0, c120, d0, a5, b5, c124, d1, a6, b6, c128, d2, g5, j6, d5, d6, e8, d7, e9, f0, f2, f3, f4, f5, f6, f7⟩, -⟩; refine Zn (D := [(45, vs 3)]) rfl ?_; rw [g5]; refine Xi (H := _ ++ ((es 3 ++ ([])) ++ _)) rfl ?_; rw [j6]; refine Zc Za (Zf ?_); exact Zr rfl ⟨by show _ = vs 3; rw [g5] <;> rfl, rfl⟩ (by show Pick (_ ++ (_ ++ ((es 3 ++ ([])) ++ _))) _; rw [j6]; exact Yu (by repeat constructor)) (by show [(45, vs 3)] = _; rw [g5])
     ·
      rintro vs es Es Hx ⟨⟨a4, b0, c120, d0, a5, b5, c124, d1, a6, b6, c128, d2, g5, j6, d5, d6, e8, d7, e9, f0, f2, f3, f4, f5, f6, f7⟩, ⟨m8, k8⟩, -⟩; have j7 : vs 4 = .tuple #[.agg #[sV a4 b0 c120, sV a5 b5 c124, sV a6 b6 c128], .agg #[iV e5.Pushes, iV e5.Lifts]] := by refine Eq.trans m8 ?_; show vs 3 = _; rw [g5] <;> rfl
      refine Zn (D := [(45, vs 3), (41, vs 4)]) rfl ?_; rw [g5, j7]; refine Xi (H := _ ++ ((es 3 ++ (es 4 ++ ([]))) ++ _)) rfl ?_; rw [j6, k8]; refine TO.extract Zd (Zf ?_); exact Zr rfl ⟨by show _ = (Jj (vs 4) 0); rw [j7] <;> rfl, rfl⟩ (by show Pick (_ ++ (_ ++ ((es 3 ++ (es 4 ++ ([]))) ++ _))) _; rw [j6, k8]; exact Yu (by repeat constructor)) (by show [(45, vs 3), (41, vs 4)] = _; rw [g5, j7])
     ·
      rintro vs es Es Hx ⟨⟨a4, b0, c120, d0, a5, b5, c124, d1, a6, b6, c128, d2, g5, j6, d5, d6, e8, d7, e9, f0, f2, f3, f4, f5, f6, f7⟩, ⟨m8, k8⟩, -⟩; have j7 : vs 4 = .tuple #[.agg #[sV a4 b0 c120, sV a5 b5 c124, sV a6 b6 c128], .agg #[iV e5.Pushes, iV e5.Lifts]] := by refine Eq.trans m8 ?_; show vs 3 = _; rw [g5] <;> rfl
      refine Zn (D := [(45, vs 3), (41, vs 4)]) rfl ?_; rw [g5, j7]; refine Xi (H := _ ++ ((es 3 ++ (es 4 ++ ([]))) ++ _)) rfl ?_; rw [j6, k8]; refine TO.extract Zd (Zf ?_); exact Zr rfl ⟨rfl, rfl⟩ (by show Pick (_ ++ (_ ++ ((es 3 ++ (es 4 ++ ([]))) ++ _))) _; rw [j6, k8]; exact Yu (by repeat constructor)) (by show [(45, vs 3), (41, vs 4)] = _; rw [g5, j7])
     · rintro vs es Es Hx -; refine Zn (D := []) rfl ?_; refine Wp Ya No ?_; intro h9; refine Zf ?_; exact Zr rfl ⟨h9, rfl, rfl⟩ (Yu (by repeat constructor)) rfl
     · rintro vs es Es Hx -; refine Zn (D := []) rfl ?_; refine Wp Ya Z57 ?_; intro i2; refine Zf ?_; exact Zr rfl ⟨i2, rfl, rfl⟩ (Yu (by repeat constructor)) rfl
     ·
      rintro vs es Es Hx ⟨⟨a4, b0, c120, d0, a5, b5, c124, d1, a6, b6, c128, d2, g5, j6, d5, d6, e8, d7, e9, f0, f2, f3, f4, f5, f6, f7⟩, ⟨m8, k8⟩, ⟨y7, v2⟩, ⟨h9, t6, A1⟩, -⟩; have j7 : vs 4 = .tuple #[.agg #[sV a4 b0 c120, sV a5 b5 c124, sV a6 b6 c128], .agg #[iV e5.Pushes, iV e5.Lifts]] := by refine Eq.trans m8 ?_; show vs 3 = _; rw [g5] <;> rfl
      have t7 : vs 5 = .agg #[sV a4 b0 c120, sV a5 b5 c124, sV a6 b6 c128] := by refine Eq.trans y7 ?_; show (Jj (vs 4) 0) = _; rw [j7] <;> rfl
      refine Zn (D := [(45, vs 3), (41, vs 4), (46, vs 5), (11, vs 7)]) rfl ?_; rw [g5, j7, t7, t6]; refine Xi (H := _ ++ ((es 3 ++ (es 4 ++ (es 5 ++ (es 7 ++ ([]))))) ++ _)) rfl ?_; rw [j6, k8, v2, A1]; refine Xq Za tk13 Ks Ya ?_; refine Xi (H := [(some (Z27 (vs 7)), .cells #[(Va (vs 5) 0), (Va (vs 5) 1), (Va (vs 5) 2)] 77 (0, 0)), (eC y6 #[iV a9.N, iV a9.S, iV a9.T, sV g8 x2 x3, sV g9 n35 c36, sV h0 x6 c40, sV h1 x8 c44, sV h2 y0 c48, sV h3 y3 y4] 64), (eI g8 a9.First x4 3), (eI g9 a9.Head x5 3), (eI h0 a9.Rev x7 3), (eI h1 a9.Cap x9 2), (eI h2 a9.Arc y2 3), (eA h3 boolC a9.Back y5 4), (eC b1 #[iV r3.N, iV r3.S, iV r3.T, sV h5 n8 c9] 24), (eA h5 Xa r3.Arcs h6 35), (eI k4 r4 t9 2), (eI a4 b9.Res d0 2), (eI a5 b9.Ex d1 2), (eI a6 b9.H d2 3)] ++ Hx) (by rw [t7, t6] <;> rfl) ?_; refine Zf ?_; exact X.obQn rfl rfl (by show Pick (_ ++ (_ ++ ((es 3 ++ (es 4 ++ (es 5 ++ ([])))) ++ _))) _; rw [j6, k8, v2]; exact Yu (by repeat constructor)) (by show [(45, vs 3), (41, vs 4), (46, vs 5), (11, vs 7)] = _; rw [g5, j7, t7, t6])
    ·
     rintro vs es hb ⟨⟨u5, u6⟩, ⟨u3, A0⟩, ⟨g2, l9, m0, m1, g3, m2, m3, m4, g4, m5, m6, m7, u7, u9, i7, i8, k5, i9, j0, j1, k6, j2, j3, j4, k7, j5⟩, ⟨a4, b0, c120, d0, a5, b5, c124, d1, a6, b6, c128, d2, g5, j6, d5, d6, e8, d7, e9, f0, f2, f3, f4, f5, f6, f7⟩, ⟨m8, k8⟩, ⟨y7, v2⟩, ⟨C1, y8⟩, ⟨h9, t6, A1⟩, ⟨i2, C2, C3⟩, C4, -⟩ hHR; obtain rfl : hb = [] := hHR; have j7 : vs 4 = .tuple #[.agg #[sV a4 b0 c120, sV a5 b5 c124, sV a6 b6 c128], .agg #[iV e5.Pushes, iV e5.Lifts]] := by refine Eq.trans m8 ?_; show vs 3 = _; rw [g5] <;> rfl
     have t7 : vs 5 = .agg #[sV a4 b0 c120, sV a5 b5 c124, sV a6 b6 c128] := by refine Eq.trans y7 ?_; show (Jj (vs 4) 0) = _; rw [j7] <;> rfl
     refine Zn (D := [(42, vs 0), (43, vs 1), (44, vs 2), (45, vs 3), (41, vs 4), (46, vs 5), (47, vs 6), (11, vs 7), (12, vs 8)]) rfl ?_; refine Xi (H := [(eC y6 #[iV a9.N, iV a9.S, iV a9.T, sV g8 x2 x3, sV g9 n35 c36, sV h0 x6 c40, sV h1 x8 c44, sV h2 y0 c48, sV h3 y3 y4] 64), (eI g8 a9.First x4 3), (eI g9 a9.Head x5 3), (eI h0 a9.Rev x7 3), (eI h1 a9.Cap x9 2), (eI h2 a9.Arc y2 3), (eA h3 boolC a9.Back y5 4), (eC b1 #[iV r3.N, iV r3.S, iV r3.T, sV h5 n8 c9] 24), (eA h5 Xa r3.Arcs h6 35), (eI k4 r4 t9 2), (eI g2 j8.Res m1 2), (eI g3 j8.Ex m4 2), (eI g4 j8.H m7 3), (eI a4 b9.Res d0 2), (eI a5 b9.Ex d1 2), (eI a6 b9.H d2 3), (eC i2 #[iV 0, iV 0] 79), (some (Z27 (vs 7)), .cells #[(Va (vs 5) 0), (Va (vs 5) 1), (Va (vs 5) 2)] 77 (0, 0))]) (by show _ ++ (_ ++ (es 0 ++ (es 1 ++ (es 2 ++ (es 3 ++ (es 4 ++ (es 5 ++ (es 6 ++ (es 8 ++ (es 9 ++ ([]))))))))))) = _; rw [u6, A0, u9, j6, k8, v2, y8, C3, C4]; rfl) ?_; rw [u5, u3, u7, g5, j7, t7, C1, t6, C2]; refine Xi (H := [(eC y6 #[iV a9.N, iV a9.S, iV a9.T, sV g8 x2 x3, sV g9 n35 c36, sV h0 x6 c40, sV h1 x8 c44, sV h2 y0 c48, sV h3 y3 y4] 64), (eI g8 a9.First x4 3), (eI g9 a9.Head x5 3), (eI h0 a9.Rev x7 3), (eI h1 a9.Cap x9 2), (eI h2 a9.Arc y2 3), (eA h3 boolC a9.Back y5 4), (eC b1 #[iV r3.N, iV r3.S, iV r3.T, sV h5 n8 c9] 24), (eA h5 Xa r3.Arcs h6 35), (eI k4 r4 t9 2), (eI g2 j8.Res m1 2), (eI g3 j8.Ex m4 2), (eI g4 j8.H m7 3), (eI a4 b9.Res d0 2), (eI a5 b9.Ex d1 2), (eI a6 b9.H d2 3), (eC i2 #[iV 0, iV 0] 79), (eC h9 #[sV a4 b0 c120, sV a5 b5 c124, sV a6 b6 c128] 77)]) rfl ?_; clear C2 t6 C1 t7 j7 g5 u7 u3 u5 m8 y7 u6 A0 u9 j6 k8 v2 y8 A1 C3 C4; refine Xq Za tk16 Z06 Ya (dN (Zq (aT [2, 3, 9, 11] rfl) ?_)); obtain ⟨⟨A2, E9⟩, A3, H⟩ := Zv H; refine rG Y11 rfl (Yl Za Wr Yi rfl (Zp Za Js (Zo Za Wn mm17 rfl (Zp Za Vz (Zo Za Ue Nx rfl (Xm (xs := r3.Arcs) g6 Zd Vd ?_)))))); refine Yf Z9y Za (fun wc hwc => Zae (c0 := a9) (res1 := b9.Res) (arcs2 := (r3.Arcs.length : Int)) wc (Yr hwc Yx o0 o1 o2) (Yr hwc Wa o4 o6 o7) (Yr hwc Wt o8 o9 p2) (Yr hwc Ui p3 p4 p5) (Yr hwc Ur p6 p7 p8) (Ky hwc Jz p9 q0 q1) (Yr hwc mm14 d5 d6 d7) A3) ?_; rintro _ _ ⟨v3, A4, A5, A6, rfl, rfl, v4, v5, v6, v7⟩; exact Zc Za (TO.extract Zd (TO.extract Zd (Ye Za (Zf (Z0m A2 A4 A5 v3 A6 ⟨H, v4, v5, v6, v7⟩ (aF rfl) (Zb Gd (Zb Gd (Zb Ze Zg))))))))
   · exact Xx rfl (Bool.eq_false_iff.2 z8) (T.skip (Z0m r4 D8 D9 k4 t9 ⟨H, z0, z1, z5, z6⟩ (aF rfl) (Zb Ze (Zb Ze (Zb Ze Zg)))))
  ·
   rintro b8 c4 c7 a7 g7 ⟨H, k9, l0, C5, l1⟩; unfold Z2l at H; refine Zl ?_; obtain ⟨⟨b7, F0⟩, A7, H⟩ := Zv H; refine rG Y8 rfl (Yl Za Xh Zk rfl (Zc Za ?_)); refine Yf Zec Za (fun wc hwc => Zcp (n0 := r3) (f1 := b8) wc (hwc.rs (f := Xa) (s := 3) (xs := r3.Arcs) (j := h6) (fun _ => rfl) Yi g6 h7 h8) (Yr hwc Yx k9 l0 l1) A7) ?_; rintro _ _ ⟨a8, d8, d9, q2, rfl, rfl, h4, l3, C6, l4⟩; refine Zc Za (TO.extract Zd (TO.extract Zd (Ye Za (aN Za (Zl ?_))))); obtain ⟨⟨e7, A8⟩, A9, H⟩ := Zv H; refine rG Y8 rfl (Yl Za Xh Yi rfl (Zc Za ?_)); refine Yf Z1l Za (fun wc hwc => Z28 (n0 := r3) (f1 := b8) wc (hwc.rs (f := Xa) (s := 3) (xs := r3.Arcs) (j := h6) (fun _ => rfl) Yx g6 h7 h8) (Yr hwc Wa k9 l0 l1) A9) ?_; rintro _ _ ⟨c8, j9, k1, v8, rfl, rfl, e0, f8, C7, f9⟩; refine Zc Za (TO.extract Zd (TO.extract Zd (Ye Za (aN Za (Zq (aT [2, 3, 7, 13, 14, 15, 16] rfl) (Zl ?_)))))); obtain ⟨⟨c3, F1, q3⟩, B0, H⟩ := Zv H; refine rG Y11 rfl (Yl Za Xh Yx rfl ?_); refine Yf Zje Za (fun wc hwc => Zj1 (n0 := r3) wc (hwc.rs (f := Xa) (s := 3) (xs := r3.Arcs) (j := h6) (fun _ => rfl) Wa g6 h7 h8) B0) ?_; rintro _ _ ⟨g0, q4, q5, q6, g1, q7, q8, q9, rfl, rfl, C8, C9, D0, D1, D2, D3, D4, D5⟩; refine Zc Za (TO.extract Zd (TO.extract Zd (TO.extract Zd (Wp Ya Zfk ?_)))); intro e1; refine Wp Ya Z57 ?_; intro F2; refine Xq Za Zt Z62 Ya (Xq Za Zt Z06 Ya (aN Za (Zl (sR Y24 rfl (Zc Za (Zw Zu (Zc Za ?_))))))); refine TO.join [3, 4, 5] [6, 7, 8, 9, 10, 11, 12, 13, 14, 15, 16, 17, 18, 19, 20, 21, 22, 23] rfl 81 (fun v9 => Z5r whole2 r3 b8 b7 e7 c3 q3 v9 = some r0) [(2, .bool whole2), (3, pV b1), (7, sV a7 c4 c7), (13, sV a8 d8 d9), (15, sV c8 j9 k1), (17, pV e1), (19, iV q3)] ?_ ?_
   ·
    rcases Zy H with ⟨r1, H⟩ | ⟨r1, H⟩
    · exact Yh (t := 78) (b' := true) rfl (decide_eq_true r1) (Zi Za (Zi Za (Xe Zd (Zf (Ut (b := true) H (aF rfl))))))
    · exact Yh (t := 78) (b' := false) rfl (decide_eq_false r1) (Zc Za (Zw Zu (Xf Zd (Zf (Ut (b := (decide (A8 ≠ 0))) H (aF rfl))))))
   ·
    rintro v9 H; unfold Z5r at H; refine Zc Za ?_; refine TO.join [7, 8, 9] [10, 11, 12, 13, 14, 15, 16, 17, 18, 19, 20, 21, 22, 23] rfl 85 (fun w0 => Z5g whole2 r3 b8 b7 e7 c3 w0 = some r0) [(2, .bool whole2), (3, pV b1), (7, sV a7 c4 c7), (13, sV a8 d8 d9), (15, sV c8 j9 k1), (17, pV e1)] ?_ ?_
    ·
     rcases Zy H with ⟨r2, H⟩ | ⟨r2, H⟩
     · exact Yh (t := 82) (b' := true) rfl r2 (Zi Za (Zi Za (Xe Zd (Zf (Ut (b := true) H (aF rfl))))))
     · exact Yh (t := 82) (b' := false) rfl (Bool.eq_false_iff.2 r2) (Zc Za (Zw Zu (Xf Zd (Zf (Ut (b := (decide (q3 ≠ 0))) H (aF rfl))))))
    ·
     rintro w0 H; unfold Z5g at H; refine Zc Za ?_; refine TO.join [11, 12, 13, 14, 15, 16] [17, 18, 19, 20, 21, 22, 23] rfl 92 (fun w1 => Z55 whole2 r3 b8 b7 e7 c3 w1 = some r0) [(2, .bool whole2), (3, pV b1), (7, sV a7 c4 c7), (13, sV a8 d8 d9), (15, sV c8 j9 k1), (17, pV e1)] ?_ ?_
     ·
      rcases Zy H with ⟨r6, H⟩ | ⟨r6, H⟩
      · exact Yh (t := 86) (b' := true) rfl r6 (Zi Za (Zi Za (Zi Za (Zi Za (Zi Za (Xe Zd (Zf (Ut (b := true) H (aF rfl)))))))))
      · exact Yh (t := 86) (b' := false) rfl (Bool.eq_false_iff.2 r6) (Zc Za (Xm (xs := b7) h4 Zd Vi (Zp Za Vy (Zo Za Zx Ur rfl (Zw Zu (Xf Zd (Zf (Ut (b := (decide ((b7.length : Int) ≠ r3.N))) H (aF rfl)))))))))
     ·
      rintro w1 H; unfold Z55 at H; refine Zc Za ?_; refine TO.join [18, 19, 20, 21, 22, 23] [] rfl 99 (fun w2 => Z67 whole2 r3 b8 b7 e7 c3 w2 = some r0) [(2, .bool whole2), (3, pV b1), (7, sV a7 c4 c7), (13, sV a8 d8 d9), (15, sV c8 j9 k1), (17, pV e1)] ?_ ?_
      ·
       rcases Zy H with ⟨r7, H⟩ | ⟨r7, H⟩
       · exact Yh (t := 93) (b' := true) rfl r7 (Zi Za (Zi Za (Zi Za (Zi Za (Zi Za (Xe Zd (Zf (Ut (b := true) H (aF rfl)))))))))
       · exact Yh (t := 93) (b' := false) rfl (Bool.eq_false_iff.2 r7) (Zc Za (Xm (xs := e7) e0 Zd Yq (Zp Za Vy (Zo Za Zx Ur rfl (Zw Zu (Xf Zd (Zf (Ut (b := (decide ((e7.length : Int) ≠ r3.N))) H (aF rfl)))))))))
      ·
       rintro w2 H; unfold Z67 at H; refine dN ?_; rcases Zy H with ⟨r8, H⟩ | ⟨r8, H⟩
       · refine Xr rfl r8 (sR Y1 rfl (aN Za (T.ret (Yk ?_)))); obtain rfl := ret1 H; exact Yn Za (Res.tmp rfl) Zg ⟨rfl, rfl⟩
       ·
        refine Xx rfl (Bool.eq_false_iff.2 r8) (T.skip (Yb (Zl (sR Y3 rfl (Zc Za (Xm (xs := b7) h4 Zd Vi (Zc Za (dN ?_)))))))); refine Vb (fun (r9 : Unit) => Z9b r3 b8 b7 c3 = some r0) (fun (r9 : Unit) => [(3, pV b1), (7, sV a7 c4 c7), (13, sV a8 d8 d9), (17, pV e1)]) (fun (r9 : Unit) => [(eC b1 #[iV r3.N, iV r3.S, iV r3.T, sV h5 n8 c9] 24), (eA h5 Xa r3.Arcs h6 35), (eI a7 b8 g7 2), (eA a8 boolC b7 q2 4), (eC e1 #[sV g0 q4 q5, sV g1 q7 q8, iV c3.Value] 85), (eI g0 c3.Flow q6 2), (eA g1 boolC c3.Side q9 4)]) ?_ ?_
        ·
         refine T.block ?_; obtain ⟨F3, y8, B1⟩ := Zv H; refine Nv (fun (t8 : Nat) (d4 : Int) => Ym (fun s => Z38 whole2 r3 b7 e7 s) t8 d4 = some F3) (fun (t8 : Nat) (d4 : Int) => [(2, .bool whole2), (3, pV b1), (7, sV a7 c4 c7), (13, sV a8 d8 d9), (15, sV c8 j9 k1), (17, pV e1), (100, sV a8 d8 d9), (101, iV (b7.length : Int)), (102, iV d4)]) (fun (t8 : Nat) (d4 : Int) => [(eC b1 #[iV r3.N, iV r3.S, iV r3.T, sV h5 n8 c9] 24), (eA h5 Xa r3.Arcs h6 35), (eI a7 b8 g7 2), (eA a8 boolC b7 q2 4), (eI c8 e7 v8 2), (eC e1 #[sV g0 q4 q5, sV g1 q7 q8, iV c3.Value] 85), (eI g0 c3.Flow q6 2), (eA g1 boolC c3.Side q9 4)]) (fun (t8 : Nat) (d4 : Int) => t8) Yc 0 y8 (aF rfl) (Zb Ja (Zb Ja (Zb Ja (Zb Xu (Zb Vk (Zb Zt (Zb Zt (Zb Zt Zg)))))))) ?_; rintro t8 d4 H; obtain ⟨F4, D6, rfl, H, y9⟩ := Wm H; have H : Z38 whole2 r3 b7 e7 d4 = some D6 := H; unfold Z38 at H; refine sR Y1 rfl (Zw Zu (dS ?_)); rcases Zy H with ⟨s6, H⟩ | ⟨s6, H⟩
         ·
          refine Xb rfl s6 (T.skip (Yb (Zl (T.block ?_)))); obtain ⟨w3, H⟩ := Zz H; refine sR Y5 rfl (Zc Za (Xs l4 l3 h4 w3 Zd Vi Wq (Z0e l4 l3 h4 w3 Za Kn Wa (Ye Za (aN Za (Zl ?_)))))); refine Vb (fun (l5 : Bool) => Z04 whole2 d4 l5 = some D6) (fun (l5 : Bool) => [(2, .bool whole2), (3, pV b1), (7, sV a7 c4 c7), (13, sV a8 d8 d9), (15, sV c8 j9 k1), (17, pV e1), (100, sV a8 d8 d9), (101, iV (b7.length : Int)), (102, iV d4), (127, .bool l5)]) (fun (l5 : Bool) => [(eC b1 #[iV r3.N, iV r3.S, iV r3.T, sV h5 n8 c9] 24), (eA h5 Xa r3.Arcs h6 35), (eI a7 b8 g7 2), (eA a8 boolC b7 q2 4), (eI c8 e7 v8 2), (eC e1 #[sV g0 q4 q5, sV g1 q7 q8, iV c3.Value] 85), (eI g0 c3.Flow q6 2), (eA g1 boolC c3.Side q9 4)]) ?_ ?_
          ·
           rcases Zy H with ⟨l6, H⟩ | ⟨l6, H⟩
           ·
            obtain ⟨k2, H⟩ := Zz H; rcases Zy H with ⟨l7, H⟩ | ⟨l7, H⟩
            ·
             rcases Zy H with ⟨s7, H⟩ | ⟨s7, H⟩
             · refine rG Y21 rfl (Zc Za (TO.not Za (Zc Za (Yh (t := 109) (b' := true) rfl l6 (Zc Za (Zc Za (Xs f9 f8 e0 k2 Zd Yq Yp (Vu f9 f8 e0 k2 Za Xj Wt (Zw Zu (Zc Za (Yh (t := 115) (b' := true) rfl (decide_eq_true l7) (Zc Za (Zp Za Kw (Zo Za Zx Zk rfl (Zw Zu (Xe Zd ?_)))))))))))))))); refine Zc Za (Yh (t := 121) (b' := true) rfl (decide_eq_true s7) (Zi Za (Zi Za (Zi Za (Zi Za (Xe Zd (Xe Zd (Zf ?_)))))))); exact Xv true H (aF rfl) (Zb Ze (Zb Ze (Zb Ze (Zb Ze (Zb Ze (Zb Ze (Zb Ze (Zb Ze Zg))))))))
             · refine rG Y21 rfl (Zc Za (TO.not Za (Zc Za (Yh (t := 109) (b' := true) rfl l6 (Zc Za (Zc Za (Xs f9 f8 e0 k2 Zd Yq Yp (Vu f9 f8 e0 k2 Za Xj Wt (Zw Zu (Zc Za (Yh (t := 115) (b' := true) rfl (decide_eq_true l7) (Zc Za (Zp Za Kw (Zo Za Zx Zk rfl (Zw Zu (Xe Zd ?_)))))))))))))))); refine Zc Za (Yh (t := 121) (b' := false) rfl (decide_eq_false s7) (Zc Za (Zp Za Kk (Zo Za Zx Zk rfl (Zw Zu (Xf Zd (Xe Zd (Zf ?_)))))))); exact Xv (decide (d4 = r3.S)) H (aF rfl) (Zb Ze (Zb Ze (Zb Ze (Zb Ze (Zb Ze (Zb Ze (Zb Ze (Zb Ze Zg))))))))
            · refine rG Y21 rfl (Zc Za (TO.not Za (Zc Za (Yh (t := 109) (b' := true) rfl l6 (Zc Za (Zc Za (Xs f9 f8 e0 k2 Zd Yq Yp (Vu f9 f8 e0 k2 Za Xj Wt (Zw Zu (Zc Za (Yh (t := 115) (b' := false) rfl (decide_eq_false l7) (Zi Za (Zi Za (Zi Za (Zi Za (Xf Zd ?_)))))))))))))))); refine Zc Za (Zc Za (Zp Za Kk (Zo Za Zx Zk rfl (Zw Zu (Xf Zd (Xe Zd (Zf ?_))))))); exact Xv (decide (d4 = r3.S)) H (aF rfl) (Zb Ze (Zb Ze (Zb Ze (Zb Ze (Zb Ze (Zb Ze (Zb Ze (Zb Ze Zg))))))))
           · refine rG Y21 rfl (Zc Za (TO.not Za (Zc Za (Yh (t := 109) (b' := false) rfl (Bool.eq_false_iff.2 l6) (Zi Za (Zi Za (Zi Za (Zi Za (Zi Za (Zi Za (Uk Za (Uk Za (Uk Za (Uk Za (Zi Za (Zi Za ?_)))))))))))))))); refine Uk Za (Uk Za (Uk Za (Uk Za (Zi Za (Xf Zd (Zf ?_)))))); exact Xv false H (aF rfl) (Zb Ze (Zb Ze (Zb Ze (Zb Ze (Zb Ze (Zb Ze (Zb Ze (Zb Ze Zg))))))))
          ·
           rintro l5 H; unfold Z04 at H; rcases Zy H with ⟨s8, H⟩ | ⟨s8, H⟩
           ·
            refine Xr rfl s8 (Zl ?_); rcases Zy H with ⟨s9, H⟩ | ⟨s9, H⟩
            · obtain ⟨F5, B2, H⟩ := Zv H; refine rG Y6 rfl (Zc Za (TO.not Za (Zc Za (Yh (t := 130) (b' := true) rfl s9 ?_)))); refine Yf Zdf Za (fun wc hwc => Zfd  wc  B2) ?_; rintro _ _ ⟨rfl, rfl⟩; refine Xe Zd (aN Za (Zq (aT [6] rfl) (T.ret (Xd (Yk ?_))))); have H := Xl H y9 ▸ B1; refine Yk (Xd (Yk ?_)); obtain rfl := ret1 H; exact Yn Za (Res.tmp rfl) Zg ⟨rfl, rfl⟩
            · refine rG Y6 rfl (Zc Za (TO.not Za (Zc Za (Yh (t := 130) (b' := false) rfl (Bool.eq_false_iff.2 s9) (Zi Za (Xf Zd (aN Za (Zq (aT [6] rfl) (T.ret (Xd (Yk ?_))))))))))); have H := Xl H y9 ▸ B1; refine Yk (Xd (Yk ?_)); obtain rfl := ret1 H; exact Yn Za (Res.tmp rfl) Zg ⟨rfl, rfl⟩
           · refine Xx rfl (Bool.eq_false_iff.2 s8) (T.skip (Yv (Yb ?_))); obtain ⟨B3, H⟩ := Zz H; refine rG Y2 rfl (Yy B3 Zd (Zc Za (Zf ?_))); have H := Xp H y9; exact Gg F4 (d4 + 1) H (Nat.lt_succ_self _) (aF rfl) (Zb Ze (Zb Ze (Zb Ze (Zb Ze (Zb Ze (Zb Ze (Zb Ze (Zb Ze Zg))))))))
         · refine Xc rfl s6 (T.exit (Yt ?_)); have H := Xl H y9 ▸ B1; exact Yt (Wd (Xv () H (aF rfl) (Zb Ze (Zb Ze (Zb Ze (Zb Ze (Zb Zt (Zb Zt (Zb Zt Zg)))))))))
        ·
         rintro r9 H; unfold Z9b at H; refine Zl ?_; obtain ⟨⟨l8, F6⟩, B4, H⟩ := Zv H; refine rG Y8 rfl (Yl Za Xh Zk rfl (Zc Za ?_)); refine Yf Zg4 Za (fun wc hwc => Zev (n0 := r3) (f1 := b8) wc (hwc.rs (f := Xa) (s := 3) (xs := r3.Arcs) (j := h6) (fun _ => rfl) Yi g6 h7 h8) (Yr hwc Yx k9 l0 l1) B4) ?_; rintro _ _ ⟨m9, w4, w5, F7, rfl, rfl, n6, n7, D7, n9⟩; refine Zc Za (TO.extract Zd (TO.extract Zd (Ye Za (aN Za (Zl ?_))))); obtain ⟨⟨t0, B5⟩, B6, H⟩ := Zv H; refine rG Y8 rfl (Yl Za Xh Yi rfl (Zc Za ?_)); refine Yf Zjs Za (fun wc hwc => Zkz (n0 := r3) (f1 := l8) wc (hwc.rs (f := Xa) (s := 3) (xs := r3.Arcs) (j := h6) (fun _ => rfl) Yx g6 h7 h8) (Yr hwc Zk n6 n7 n9) B6) ?_; rintro _ _ ⟨rfl, rfl⟩; refine Zc Za (TO.extract Zd (TO.extract Zd (Ye Za (aN Za (Zq (aT [3, 13, 17, 22, 23, 24, 25] rfl) (sR Y22 rfl (Zc Za (Zw Zu (Zc Za ?_))))))))); refine TO.join [3, 4, 5] [6, 7, 8, 9, 10, 11, 12, 13, 14, 15, 16, 17, 18, 19, 20, 21] rfl 151 (fun w6 => Z5c r3 b7 c3 l8 t0 w6 = some r0) [(3, pV b1), (13, sV a8 d8 d9), (17, pV e1), (22, sV m9 w4 w5), (24, iV t0)] ?_ ?_
         ·
          rcases Zy H with ⟨t1, H⟩ | ⟨t1, H⟩
          · exact Yh (t := 148) (b' := true) rfl (decide_eq_true t1) (Zc Za (Zw Zu (Xe Zd (Zf (Ut (b := (decide (B5 = 0))) H (aF rfl))))))
          · exact Yh (t := 148) (b' := false) rfl (decide_eq_false t1) (Zi Za (Zi Za (Xf Zd (Zf (Ut (b := false) H (aF rfl))))))
         ·
          rintro w6 H; unfold Z5c at H; refine Zc Za ?_; refine TO.join [7, 8, 9, 10, 11] [12, 13, 14, 15, 16, 17, 18, 19, 20, 21] rfl 157 (fun w7 => Z3k r3 b7 l8 w7 = some r0) [(3, pV b1), (13, sV a8 d8 d9), (22, sV m9 w4 w5)] ?_ ?_
          ·
           rcases Zy H with ⟨t2, H⟩ | ⟨t2, H⟩
           · exact Yh (t := 152) (b' := true) rfl t2 (Zc Za (Zp Za Zif (Zo Za Xj Ui rfl (Zw Zu (Xe Zd (Zf (Ut (b := (decide (t0 = c3.Value))) H (aF rfl))))))))
           · exact Yh (t := 152) (b' := false) rfl (Bool.eq_false_iff.2 t2) (Zi Za (Zi Za (Zi Za (Zi Za (Xf Zd (Zf (Ut (b := false) H (aF rfl))))))))
          ·
           rintro w7 H; unfold Z3k at H; refine Zc Za ?_; refine TO.join [13, 14, 15, 16, 17] [18, 19, 20, 21] rfl 163 (fun w8 => Z3y w8 = some r0) [] ?_ ?_
           ·
            rcases Zy H with ⟨t3, H⟩ | ⟨t3, H⟩
            · obtain ⟨B7, B8, H⟩ := Zv H; refine Yh (t := 158) (b' := true) rfl t3 (Yl Za Xh Yi rfl (Zc Za (Zc Za ?_))); refine Yf Zjb Za (fun wc hwc => Zgw (n0 := r3) (f1 := l8) (s2 := b7) wc (hwc.rs (f := Xa) (s := 3) (xs := r3.Arcs) (j := h6) (fun _ => rfl) Yx g6 h7 h8) (Yr hwc Zk n6 n7 n9) (Ky hwc Wt h4 l3 l4) B8) ?_; rintro _ _ ⟨rfl, rfl⟩; exact Xe Zd (Zf (Ut (b := B7) H (aF rfl)))
            · exact Yh (t := 158) (b' := false) rfl (Bool.eq_false_iff.2 t3) (Zi Za (Zi Za (Zi Za (Zi Za (Xf Zd (Zf (Ut (b := false) H (aF rfl))))))))
           ·
            rintro w8 H; unfold Z3y at H; refine Zc Za ?_; refine TO.join [19, 20] [21] rfl 166 (fun w9 => Z6e w9 = some r0) [] ?_ ?_
            ·
             rcases Zy H with ⟨t4, H⟩ | ⟨t4, H⟩
             · obtain ⟨B9, C0, H⟩ := Zv H; refine Yh (t := 164) (b' := true) rfl t4 ?_; refine Yf Zdf Za (fun wc hwc => Zfd  wc  C0) ?_; rintro _ _ ⟨rfl, rfl⟩; exact Xe Zd (Zf (Ut (b := B9) H (aF rfl)))
             · exact Yh (t := 164) (b' := false) rfl (Bool.eq_false_iff.2 t4) (Zi Za (Xf Zd (Zf (Ut (b := false) H (aF rfl)))))
            · rintro w9 H; unfold Z6e at H; refine aN Za (T.ret ?_); obtain rfl := ret1 H; exact Yn Za (Res.tmp rfl) Zg ⟨rfl, rfl⟩
end Go.Proofs.Ytfdhelnfgfaeaaa.Ax
namespace Go.Acq
open Go
def Nz (a : Arc) (v : Nat) : Nat := if a.fr = a.to then 0 else if a.fr = v ∨ a.to = v then 1 else 0
def cnt (al : List Arc) (v : Nat) : Nat → Nat
  | 0 => 0
  | k + 1 => cnt al v k + Nz (al.getD k default) v
def Yo (al : List Arc) : Nat → Nat
  | 0 => 0
  | v + 1 => Yo al v + cnt al v al.length
def Yw (a : Arc) (s : Bool) : Int := if s then a.to else a.fr
def Zm (al : List Arc) (i : Nat) (s : Bool) : Nat := Yo al (Yw (al.getD i default) s).toNat + cnt al (Yw (al.getD i default) s).toNat i
def Vh (n : Nat) (al : List Arc) : Prop := ∀ i, i < al.length → ∀ s, 0 ≤ Yw (al.getD i default) s ∧ Yw (al.getD i default) s < n
theorem Wo {α : Type} (xs : List α) (i j : Nat) (v d : α) : (xs.set i v).getD j d = if i = j ∧ i < xs.length then v else xs.getD j d := by
 rw [List.getD_eq_getElem?_getD, List.getD_eq_getElem?_getD, List.getElem?_set]
 split
 ·
  rename_i h; subst h
  split
  · rename_i h2; simp [h2]
  · rename_i h2; simp [h2]
 · rename_i h; simp [h]
theorem Vo {α : Type} {xs : List α} {i j : Nat} {v d : α} (h : i ≠ j) : (xs.set i v).getD j d = xs.getD j d := by
 rw [Wo, if_neg (fun e => h e.1)]
theorem Kf {α : Type} {xs : List α} {i : Nat} {v d : α} (h : i < xs.length) : (xs.set i v).getD i d = v := by
 rw [Wo, if_pos ⟨rfl, h⟩]
theorem Ke {α : Type} (n j : Nat) (v : α) : (List.replicate n v).getD j v = v := by
 rw [List.getD_eq_getElem?_getD, List.getElem?_replicate]; split <;> simp
theorem hit_le (a : Arc) (v : Nat) : Nz a v ≤ 1 := by unfold Nz; split; omega; split <;> omega
theorem cnt_mono {al : List Arc} {v i j : Nat} (h : i ≤ j) : cnt al v i ≤ cnt al v j := by
 induction h with
 | refl => exact Nat.le_refl _
 | step _ ih => exact Nat.le_trans ih (Nat.le_add_right _ _)
theorem Z6k (al : List Arc) (v k : Nat) : cnt al v k ≤ k := by
 induction k with
 | zero => exact Nat.le_refl _
 | succ k ih => have := hit_le (al.getD k default) v; simp only [cnt]; omega
theorem Gs {al : List Arc} {u v : Nat} (h : u ≤ v) : Yo al u ≤ Yo al v := by
 induction h with
 | refl => exact Nat.le_refl _
 | step _ ih => exact Nat.le_trans ih (Nat.le_add_right _ _)
theorem Zkx (al : List Arc) (v : Nat) : Yo al v ≤ v * al.length := by
 induction v with
 | zero => exact Nat.zero_le _
 | succ v ih => have := Z6k al v al.length; simp only [Yo, Nat.succ_mul]; omega
theorem hit_vtx {a : Arc} {s : Bool} (h : a.fr ≠ a.to) (h0 : 0 ≤ Yw a s) : Nz a (Yw a s).toNat = 1 := by
 unfold Nz; rw [if_neg h, if_pos]
 cases s
 · left; simp only [Yw] at h0 ⊢; simp only [Bool.false_eq_true, if_false] at h0 ⊢; omega
 · right; simp only [Yw] at h0 ⊢; simp only [if_true] at h0 ⊢; omega
theorem Rq {al : List Arc} {i j : Nat} {s : Bool} (hij : i < j) (h : (al.getD i default).fr ≠ (al.getD i default).to) (h0 : 0 ≤ Yw (al.getD i default) s) :
    cnt al (Yw (al.getD i default) s).toNat i < cnt al (Yw (al.getD i default) s).toNat j := by
  have h1 := cnt_mono (al := al) (v := (Yw (al.getD i default) s).toNat) (i := i + 1) (j := j) hij
  have h2 := hit_vtx h h0
  simp only [cnt] at h1
  omega
theorem Na {al : List Arc} {n i : Nat} {s : Bool} (hi : i < al.length) (h : (al.getD i default).fr ≠ (al.getD i default).to) (he : Vh n al) : Zm al i s < Yo al n := by
 have h1 := Rq (s := s) hi h (he i hi s).1
 have h2 := Gs (al := al) (u := (Yw (al.getD i default) s).toNat + 1) (v := n) (by have := he i hi s; omega)
 simp only [Yo] at h2
 unfold Zm; omega
theorem Lx {al : List Arc} {n i j : Nat} {s t : Bool} (he : Vh n al) (hi : i < al.length) (hj : j < al.length) (h : (al.getD i default).fr ≠ (al.getD i default).to) (g : (al.getD j default).fr ≠ (al.getD j default).to)
    (e : Zm al i s = Zm al j t) : i = j ∧ s = t := by
  have hi1 := Rq (s := s) hi h (he i hi s).1
  have hj1 := Rq (s := t) hj g (he j hj t).1
  have hv : (Yw (al.getD i default) s).toNat = (Yw (al.getD j default) t).toNat := by
    rcases Nat.lt_trichotomy (Yw (al.getD i default) s).toNat (Yw (al.getD j default) t).toNat with h1 | h1 | h1
    · have := Gs (al := al) (u := (Yw (al.getD i default) s).toNat + 1) h1
      simp only [Yo] at this
      unfold Zm at e; omega
    · exact h1
    · have := Gs (al := al) (u := (Yw (al.getD j default) t).toNat + 1) h1
      simp only [Yo] at this
      unfold Zm at e; omega
  have hij : i = j := by
    rcases Nat.lt_trichotomy i j with h1 | h1 | h1
    · have h2 := Rq (s := s) h1 h (he i hi s).1
      unfold Zm at e; rw [hv] at e h2; omega
    · exact h1
    · have h2 := Rq (s := t) h1 g (he j hj t).1
      unfold Zm at e; rw [hv] at e; omega
  refine ⟨hij, ?_⟩
  subst hij
  have h1 := (he i hi s).1
  have h2 := (he i hi t).1
  cases s <;> cases t <;> first | rfl | (simp only [Yw, Bool.false_eq_true, if_false, if_true] at hv h1 h2; omega)
theorem Ze3 {al : List Arc} {v r : Nat} : ∀ {k : Nat}, r < cnt al v k → ∃ i, i < k ∧ cnt al v i = r ∧ Nz (al.getD i default) v = 1
 | 0, h => by simp [cnt] at h
 | k + 1, h => by
  by_cases h1 : r < cnt al v k
  · obtain ⟨i, h2, h3⟩ := Ze3 h1; exact ⟨i, by omega, h3⟩
  ·
   have := hit_le (al.getD k default) v
   simp only [cnt] at h
   exact ⟨k, by omega, by omega, by omega⟩
theorem Zce {al : List Arc} {p : Nat} : ∀ {n : Nat}, p < Yo al n → ∃ v, v < n ∧ Yo al v ≤ p ∧ p < Yo al (v + 1)
 | 0, h => by simp [Yo] at h
 | n + 1, h => by
  by_cases h1 : p < Yo al n
  · obtain ⟨v, h2, h3⟩ := Zce h1; exact ⟨v, by omega, h3⟩
  · exact ⟨n, by omega, by omega, h⟩
theorem pos_surj {al : List Arc} {n p : Nat} (h : p < Yo al n) : ∃ i s, i < al.length ∧ (al.getD i default).fr ≠ (al.getD i default).to ∧ Zm al i s = p ∧ 0 ≤ Yw (al.getD i default) s ∧ Yw (al.getD i default) s < n ∧
    Yo al (Yw (al.getD i default) s).toNat ≤ p ∧ p < Yo al ((Yw (al.getD i default) s).toNat + 1) := by
  obtain ⟨v, hv, h1, h2⟩ := Zce h
  simp only [Yo] at h2
  obtain ⟨i, hi, h3, h4⟩ := Ze3 (al := al) (v := v) (r := p - Yo al v) (k := al.length) (by omega)
  unfold Nz at h4
  split at h4
  · omega
  · rename_i hne
    split at h4
    · rename_i ho
      rcases ho with ho | ho
      · refine ⟨i, false, hi, hne, ?_, ?_, ?_, ?_, ?_⟩ <;> simp only [Zm, Yw, Bool.false_eq_true, if_false, ho, Int.toNat_natCast, Yo] <;> omega
      · refine ⟨i, true, hi, hne, ?_, ?_, ?_, ?_, ?_⟩ <;> simp only [Zm, Yw, if_true, ho, Int.toNat_natCast, Yo] <;> omega
    · omega
def CsrAt (al : List Arc) (hs rs cs aa : List Int) (bs : List Bool) (k : Nat) : Prop :=
  ∀ i, i < k → (al.getD i default).fr ≠ (al.getD i default).to → ∀ s,
    hs.getD (Zm al i s) 0 = Yw (al.getD i default) (!s) ∧ rs.getD (Zm al i s) 0 = Zm al i (!s) ∧ cs.getD (Zm al i s) 0 = (if s then 0 else (al.getD i default).cap) ∧
    aa.getD (Zm al i s) 0 = i ∧ bs.getD (Zm al i s) false = s
structure CsrOK (al : List Arc) (n : Nat) (fs hs rs cs aa : List Int) (bs : List Bool) : Prop where
  lf : fs.length = n + 1
  lh : hs.length = Yo al n
  lr : rs.length = Yo al n
  lc : cs.length = Yo al n
  la : aa.length = Yo al n
  lb : bs.length = Yo al n
  hf : ∀ v, v ≤ n → fs.getD v 0 = Yo al v
  hat : CsrAt al hs rs cs aa bs al.length
theorem CsrAt.skip {al : List Arc} {hs rs cs aa : List Int} {bs : List Bool} {k : Nat} (h : CsrAt al hs rs cs aa bs k) (e : (al.getD k default).fr = (al.getD k default).to) : CsrAt al hs rs cs aa bs (k + 1) := by
 intro i hi hne s
 rcases Nat.lt_succ_iff_lt_or_eq.1 hi with h1 | h1
 · exact h i h1 hne s
 · subst h1; exact absurd e hne
theorem set2 {α : Type} {xs : List α} {p q j : Nat} {u v d : α} (hp : p < xs.length) (hq : q < xs.length) (hpq : p ≠ q) :
    ((xs.set p u).set q v).getD j d = if j = p then u else if j = q then v else xs.getD j d := by
  rw [Wo, Wo]
  by_cases h1 : j = p
  · subst h1; rw [if_pos rfl, if_neg (fun e => hpq e.1.symm), if_pos ⟨rfl, hp⟩]
  · rw [if_neg h1]
    by_cases h2 : j = q
    · subst h2; rw [if_pos rfl, if_pos ⟨rfl, by simpa using hq⟩]
    · rw [if_neg h2, if_neg (fun e => h2 e.1.symm), if_neg (fun e => h1 e.1.symm)]
theorem CsrAt.put {al : List Arc} {n : Nat} {hs rs cs aa : List Int} {bs : List Bool} {k : Nat} (h : CsrAt al hs rs cs aa bs k) (he : Vh n al) (hk : k < al.length) (hne : (al.getD k default).fr ≠ (al.getD k default).to)
    (lh : hs.length = Yo al n) (lr : rs.length = Yo al n) (lc : cs.length = Yo al n) (la : aa.length = Yo al n) (lb : bs.length = Yo al n) :
    CsrAt al ((hs.set (Zm al k false) (al.getD k default).to).set (Zm al k true) (al.getD k default).fr) ((rs.set (Zm al k false) (Zm al k true)).set (Zm al k true) (Zm al k false))
      ((cs.set (Zm al k false) (al.getD k default).cap).set (Zm al k true) 0) ((aa.set (Zm al k false) k).set (Zm al k true) k) ((bs.set (Zm al k false) false).set (Zm al k true) true) (k + 1) := by
  have hp : Zm al k false < Yo al n := Na hk hne he
  have hq : Zm al k true < Yo al n := Na hk hne he
  have hpq : Zm al k false ≠ Zm al k true := fun e => by have := (Lx he hk hk hne hne e).2; cases this
  intro i hi hni s
  have hil : i < al.length := by omega
  rw [set2 (by omega) (by omega) hpq, set2 (by omega) (by omega) hpq, set2 (by omega) (by omega) hpq, set2 (by omega) (by omega) hpq, set2 (by omega) (by omega) hpq]
  by_cases hik : i = k
  · subst hik
    cases s
    · simp [Yw]
    · simp [Yw, hpq.symm]
  · have h1 : Zm al i s ≠ Zm al k false := fun e => hik (Lx he hil hk hni hne e).1
    have h2 : Zm al i s ≠ Zm al k true := fun e => hik (Lx he hil hk hni hne e).1
    simp only [if_neg h1, if_neg h2]
    exact h i (by omega) hni s
def Counted (al : List Arc) (m k : Nat) (fs : List Int) : Prop := fs.length = m + 1 ∧ fs.getD 0 0 = 0 ∧ ∀ v : Int, 0 ≤ v → v < m → fs.getD (v + 1).toNat 0 = cnt al v.toNat k
def Summed (al : List Arc) (m k : Nat) (fs : List Int) : Prop := fs.length = m + 1 ∧ (∀ u, u ≤ k → fs.getD u 0 = Yo al u) ∧ ∀ u, k ≤ u → u < m → fs.getD (u + 1) 0 = cnt al u al.length
theorem Z00 {al : List Arc} {v : Nat} (hv : v ≤ 4096) (hl : al.length ≤ 16384) : Yo al v ≤ 67108864 :=
 Nat.le_trans (Zkx al v) (Nat.mul_le_mul hv hl)
theorem Counted.start (al : List Arc) (m : Nat) {p : Nat} (h : p = m + 1) : Counted al m 0 (List.replicate p 0) :=
 ⟨by simp [h], Ke _ _ _, fun v _ _ => by rw [Ke]; rfl⟩
theorem Counted.skip {al : List Arc} {m k : Nat} {fs : List Int} (h : Counted al m k fs) (e : (al.getD k default).fr = (al.getD k default).to) : Counted al m (k + 1) fs :=
 ⟨h.1, h.2.1, fun v h0 h1 => by rw [h.2.2 v h0 h1]; simp only [cnt, Nz, if_pos e, Nat.add_zero]⟩
theorem Counted.put {al : List Arc} {m k : Nat} {fs : List Int} (h : Counted al m k fs) (he : Vh m al) (hk : k < al.length) (hne : (al.getD k default).fr ≠ (al.getD k default).to) :
    Counted al m (k + 1) ((fs.set ((al.getD k default).fr + 1).toNat (fs.getD ((al.getD k default).fr + 1).toNat 0 + 1)).set ((al.getD k default).to + 1).toNat
      ((fs.set ((al.getD k default).fr + 1).toNat (fs.getD ((al.getD k default).fr + 1).toNat 0 + 1)).getD ((al.getD k default).to + 1).toNat 0 + 1)) := by
  have e0 := he k hk false
  have e1 := he k hk true
  simp only [Yw, Bool.false_eq_true, if_false, if_true] at e0 e1
  obtain ⟨hl, hz, hv⟩ := h
  refine ⟨by simpa using hl, ?_, ?_⟩
  · rw [Vo (by omega), Vo (by omega)]; exact hz
  · intro v h0 h1
    have hvv := hv v h0 h1
    rw [Vo (i := ((al.getD k default).fr + 1).toNat) (j := ((al.getD k default).to + 1).toNat) (by omega), set2 (by omega) (by omega) (by omega)]
    simp only [cnt, Nz, if_neg hne]
    by_cases a1 : v = (al.getD k default).fr
    · rw [if_pos (by omega), if_pos (by omega), ← a1, hvv]; omega
    · rw [if_neg (by omega)]
      by_cases a2 : v = (al.getD k default).to
      · rw [if_pos (by omega), if_pos (by omega), ← a2, hvv]; omega
      · rw [if_neg (by omega), if_neg (by omega), hvv]; omega
theorem Counted.summed {al : List Arc} {m : Nat} {fs : List Int} (h : Counted al m al.length fs) : Summed al m 0 fs :=
 ⟨h.1, fun u hu => by rw [Nat.le_zero.1 hu]; exact h.2.1, fun u _ hu => by have := h.2.2 u (by omega) (by omega); rw [show ((u : Int) + 1).toNat = u + 1 by omega] at this; simpa using this⟩
theorem Summed.put {al : List Arc} {m k : Nat} {fs : List Int} (h : Summed al m k fs) (hk : k < m) {i : Nat} (hi : i = k + 1) : Summed al m (k + 1) (fs.set i (fs.getD i 0 + fs.getD k 0)) := by
 subst hi
 obtain ⟨hl, h1, h2⟩ := h
 refine ⟨by simpa using hl, fun u hu => ?_, fun u h3 h4 => ?_⟩
 ·
  by_cases e : u = k + 1
  · subst e; rw [Kf (by omega), h1 k (Nat.le_refl _), h2 k (Nat.le_refl _) hk]; simp [Yo]; omega
  · rw [Vo (by omega)]; exact h1 u (by omega)
 · rw [Vo (by omega)]; exact h2 u (by omega) h4
theorem Un {N S T : Int} {al : List Arc} (h : Us N S T al = 0) : (2 ≤ N ∧ N ≤ 4096) ∧ (al.length : Int) ≤ 16384 ∧ (Uh N S = true ∧ Uh N T = true ∧ S ≠ T) ∧ al.all (Gr N) = true ∧ al.all Nn = true ∧ (Kq 4611686018427387904 al).isSome = true := by
 unfold Us at h
 split at h
 · omega
 ·
  rename_i h1
  split at h
  · omega
  ·
   rename_i h2
   split at h
   · omega
   ·
    rename_i h3
    split at h
    · omega
    ·
     rename_i h4
     split at h
     · omega
     ·
      rename_i h5
      split at h
      · omega
      ·
       rename_i h6
       refine ⟨Classical.not_not.1 h1, Classical.not_not.1 h2, Classical.not_not.1 h3, by simpa using h4, by simpa using h5, ?_⟩
       cases e : Kq 4611686018427387904 al <;> simp_all
theorem Z17 {m : Nat} {al : List Arc} (h : al.all (Gr (m : Int)) = true) : Vh m al := by
 intro i hi s
 have h1 := List.all_eq_true.1 h _ (Ku hi default)
 simp only [Gr, Uh, Bool.and_eq_true, decide_eq_true_eq] at h1
 cases s
 · simp only [Yw, Bool.false_eq_true, if_false]; exact h1.1
 · simp only [Yw, if_true]; exact h1.2
def MakeAt (al : List Arc) (m k : Nat) (nx hs rs cs aa : List Int) (bs : List Bool) : Prop :=
  (nx.length = m + 1 ∧ hs.length = Yo al m ∧ rs.length = Yo al m ∧ cs.length = Yo al m ∧ aa.length = Yo al m ∧ bs.length = Yo al m) ∧
  CsrAt al hs rs cs aa bs k ∧ ∀ v : Int, 0 ≤ v → v < m → nx.getD v.toNat 0 = Yo al v.toNat + cnt al v.toNat k
theorem MakeAt.start {al : List Arc} {m : Nat} {fs : List Int} (hl : fs.length = m + 1) (hf : ∀ u, u ≤ m → fs.getD u 0 = Yo al u) :
    MakeAt al m 0 fs (List.replicate (Yo al m) 0) (List.replicate (Yo al m) 0) (List.replicate (Yo al m) 0) (List.replicate (Yo al m) 0) (List.replicate (Yo al m) false) := by
  refine ⟨⟨hl, by simp, by simp, by simp, by simp, by simp⟩, fun i hi => by omega, fun v h0 h1 => ?_⟩
  rw [hf _ (by omega)]; simp [cnt]
theorem MakeAt.skip {al : List Arc} {m k : Nat} {nx hs rs cs aa : List Int} {bs : List Bool} (h : MakeAt al m k nx hs rs cs aa bs) (e : (al.getD k default).fr = (al.getD k default).to) : MakeAt al m (k + 1) nx hs rs cs aa bs :=
 ⟨h.1, h.2.1.skip e, fun v h0 h1 => by rw [h.2.2 v h0 h1]; simp only [cnt, Nz, if_pos e, Nat.add_zero]⟩
theorem MakeAt.at {al : List Arc} {m k : Nat} {nx hs rs cs aa : List Int} {bs : List Bool} (h : MakeAt al m k nx hs rs cs aa bs) (he : Vh m al) (hk : k < al.length) (s : Bool) : nx.getD (Yw (al.getD k default) s).toNat 0 = (Zm al k s : Nat) := by
 rw [h.2.2 _ (he k hk s).1 (he k hk s).2]; simp only [Zm]; omega
theorem MakeAt.put {al : List Arc} {m k : Nat} {nx hs rs cs aa : List Int} {bs : List Bool} (h : MakeAt al m k nx hs rs cs aa bs) (he : Vh m al) (hk : k < al.length) (hne : (al.getD k default).fr ≠ (al.getD k default).to) :
    MakeAt al m (k + 1) ((nx.set (al.getD k default).fr.toNat ((Zm al k false : Nat) + 1)).set (al.getD k default).to.toNat ((Zm al k true : Nat) + 1))
      ((hs.set (Zm al k false) (al.getD k default).to).set (Zm al k true) (al.getD k default).fr) ((rs.set (Zm al k false) (Zm al k true)).set (Zm al k true) (Zm al k false))
      ((cs.set (Zm al k false) (al.getD k default).cap).set (Zm al k true) 0) ((aa.set (Zm al k false) k).set (Zm al k true) k) ((bs.set (Zm al k false) false).set (Zm al k true) true) := by
  have g0 := h.at he hk false
  have g1 := h.at he hk true
  obtain ⟨⟨l0, l1, l2, l3, l4, l5⟩, hA, hv⟩ := h
  have e0 := he k hk false
  have e1 := he k hk true
  simp only [Yw, Bool.false_eq_true, if_false, if_true] at e0 e1 g0 g1
  refine ⟨⟨by simpa using l0, by simpa using l1, by simpa using l2, by simpa using l3, by simpa using l4, by simpa using l5⟩, hA.put he hk hne l1 l2 l3 l4 l5, fun v h0 h1 => ?_⟩
  have hvv := hv v h0 h1
  rw [set2 (by omega) (by omega) (by omega)]
  simp only [cnt, Nz, if_neg hne]
  by_cases a1 : v = (al.getD k default).fr
  · rw [if_pos (by omega), if_pos (by omega), ← g0, ← a1, hvv]; omega
  · rw [if_neg (by omega)]
    by_cases a2 : v = (al.getD k default).to
    · rw [if_pos (by omega), if_pos (by omega), ← g1, ← a2, hvv]; omega
    · rw [if_neg (by omega), if_neg (by omega), hvv]; omega
theorem MakeAt.done {al : List Arc} {m : Nat} {fs nx hs rs cs aa : List Int} {bs : List Bool} (h : MakeAt al m al.length nx hs rs cs aa bs) (hl : fs.length = m + 1) (hf : ∀ u, u ≤ m → fs.getD u 0 = Yo al u) : CsrOK al m fs hs rs cs aa bs :=
 ⟨hl, h.1.2.1, h.1.2.2.1, h.1.2.2.2.1, h.1.2.2.2.2.1, h.1.2.2.2.2.2, hf, h.2.1⟩
end Go.Acq
namespace Go.Acq
open Go
theorem next_ne {S m : Int} (h0 : 0 ≤ S) (h1 : S < m) (h2 : 2 ≤ m) : 0 ≤ (S + 1).tmod m ∧ (S + 1).tmod m < m ∧ (S + 1).tmod m ≠ S := by
 rw [Int.tmod_eq_emod_of_nonneg (by omega)]
 refine ⟨Int.emod_nonneg _ (by omega), Int.emod_lt_of_pos _ (by omega), ?_⟩
 by_cases h : S + 1 < m
 · rw [Int.emod_eq_of_lt (by omega) h]; omega
 · rw [show S + 1 = m by omega, Int.emod_self]; omega
theorem Zfc {x n : Int} (h : 0 ≤ x) (hn : 0 < n) : 0 ≤ x.tmod n ∧ x.tmod n < n := by
 rw [Int.tmod_eq_emod_of_nonneg h]
 exact ⟨Int.emod_nonneg _ (by omega), Int.emod_lt_of_pos _ hn⟩
def SomeAt (m : Nat) (ol : List Arc) : Prop := ∀ a, a ∈ ol → Gr m a = true ∧ 0 ≤ a.cap ∧ a.cap < 1125899906842624
theorem SomeAt.put {m : Nat} {ol : List Arc} {a : Arc} (h : SomeAt m ol) (h1 : 0 ≤ a.fr ∧ a.fr < m) (h2 : 0 ≤ a.to ∧ a.to < m) (h3 : 0 ≤ a.cap ∧ a.cap < 1125899906842624) : SomeAt m (ol ++ [a]) := by
 intro b hb
 rcases List.mem_append.1 hb with hb | hb
 · exact h b hb
 ·
  simp only [List.mem_singleton] at hb
  subst hb
  exact ⟨by simp [Gr, Uh, h1, h2], h3⟩
theorem Zlj {m : Nat} {ol : List Arc} {left : Int} (h : SomeAt m ol) (hl : (ol.length : Int) * 1125899906842624 ≤ left) : (Kq left ol).isSome = true := by
 induction ol generalizing left with
 | nil => simp [Kq]
 | cons a ol ih =>
  have ha := (h a (.head _)).2
  simp only [List.length_cons] at hl
  have h2 : (0 : Int) ≤ (ol.length : Int) * 1125899906842624 := by omega
  simp only [Kq]
  rw [if_neg (by omega)]
  exact ih (fun b hb => h b (.tail _ hb)) (by omega)
theorem Zkp {m : Nat} {S T : Int} {ol : List Arc} (hm : 2 ≤ m) (hm2 : m ≤ 4096) (hS : 0 ≤ S ∧ S < m) (hT : 0 ≤ T ∧ T < m) (hST : T ≠ S) (h : SomeAt m ol) (hl : ol.length ≤ 4096) : Us m S T ol = 0 := by
 have h1 : ol.all (Gr m) = true := List.all_eq_true.2 fun a ha => (h a ha).1
 have h2 : ol.all Nn = true := List.all_eq_true.2 fun a ha => by simp [Nn, (h a ha).2.1]
 have h3 : (Kq 4611686018427387904 ol).isSome = true := Zlj h (by omega)
 unfold Us
 rw [if_neg (by omega), if_neg (by omega), if_neg (by simp [Uh, hS, hT, Ne.symm hST]), if_neg (by simp [h1]), if_neg (by simp [h2]), if_neg (by
  cases e : Kq 4611686018427387904 ol with
  | none => rw [e] at h3; cases h3
  | some x => simp)]
def WithinAt (al : List Arc) (n k : Nat) (fl : List Int) : Prop := fl.length = n ∧
  (∀ i, i < k → 0 ≤ fl.getD i 0 ∧ fl.getD i 0 ≤ (al.getD i default).cap ∧ ((al.getD i default).fr = (al.getD i default).to → fl.getD i 0 = 0)) ∧ ∀ i, k ≤ i → fl.getD i 0 = 0
theorem WithinAt.start (al : List Arc) (n : Nat) : WithinAt al n 0 (List.replicate n 0) := ⟨by simp, fun i h => by omega, fun i _ => Ke _ _ _⟩
theorem WithinAt.skip {al : List Arc} {n k : Nat} {fl : List Int} (h : WithinAt al n k fl) (hc : 0 ≤ (al.getD k default).cap) : WithinAt al n (k + 1) fl := by
 refine ⟨h.1, fun i hi => ?_, fun i hi => h.2.2 i (by omega)⟩
 rcases Nat.lt_succ_iff_lt_or_eq.1 hi with h1 | h1
 · exact h.2.1 i h1
 · subst h1; have := h.2.2 i (Nat.le_refl _); rw [this]; exact ⟨Int.le_refl _, hc, fun _ => rfl⟩
theorem WithinAt.put {al : List Arc} {n k : Nat} {fl : List Int} {v : Int} (h : WithinAt al n k fl) (hk : k < n) (h0 : 0 ≤ v) (h1 : v ≤ (al.getD k default).cap) (hne : (al.getD k default).fr ≠ (al.getD k default).to) : WithinAt al n (k + 1) (fl.set k v) := by
 refine ⟨by simpa using h.1, fun i hi => ?_, fun i hi => by rw [Vo (by omega)]; exact h.2.2 i (by omega)⟩
 by_cases e : i = k
 · subst e; rw [Kf (by rw [h.1]; exact hk)]; exact ⟨h0, h1, fun e => absurd e hne⟩
 · rw [Vo (by omega)]; exact h.2.1 i (by omega)
def Z0z (aa cs : List Int) (bs : List Bool) (fl : List Int) (j : Nat) : Prop := aa.getD j 0 < fl.length ∧ (bs.getD j false = true ∨ (0 ≤ fl.getD (aa.getD j 0).toNat 0 ∧ fl.getD (aa.getD j 0).toNat 0 ≤ cs.getD j 0))
def resV (aa cs : List Int) (bs : List Bool) (fl : List Int) (j : Nat) : Int := if bs.getD j false = true then fl.getD (aa.getD j 0).toNat 0 else cs.getD j 0 - fl.getD (aa.getD j 0).toNat 0
def ResAt (aa cs : List Int) (bs : List Bool) (fl : List Int) (L k : Nat) (rl : List Int) : Prop := rl.length = L ∧ ∀ j, j < k → Z0z aa cs bs fl j ∧ rl.getD j 0 = resV aa cs bs fl j
theorem ResAt.put {aa cs : List Int} {bs : List Bool} {fl : List Int} {L k : Nat} {rl : List Int} {v : Int} (h : ResAt aa cs bs fl L k rl) (hk : k < L) (h1 : Z0z aa cs bs fl k) (h2 : v = resV aa cs bs fl k) : ResAt aa cs bs fl L (k + 1) (rl.set k v) := by
 refine ⟨by simpa using h.1, fun j hj => ?_⟩
 by_cases e : j = k
 · subst e; rw [Kf (by rw [h.1]; exact hk)]; exact ⟨h1, h2⟩
 · rw [Vo (by omega)]; exact h.2 j (by omega)
end Go.Acq
namespace Go.Acq
open Go
theorem CsrOK.place {al : List Arc} {m : Nat} {fs hs rs cs aa : List Int} {bs : List Bool} (h : CsrOK al m fs hs rs cs aa bs) {j : Nat} (hj : j < Yo al m) :
    ∃ i s, i < al.length ∧ (al.getD i default).fr ≠ (al.getD i default).to ∧ Zm al i s = j ∧ hs.getD j 0 = Yw (al.getD i default) (!s) ∧ rs.getD j 0 = Zm al i (!s) ∧ cs.getD j 0 = (if s then 0 else (al.getD i default).cap) ∧ aa.getD j 0 = i ∧ bs.getD j false = s := by
  obtain ⟨i, s, hi, hne, hp, _⟩ := pos_surj hj
  have := h.hat i hi hne s
  rw [hp] at this
  exact ⟨i, s, hi, hne, hp, this⟩
theorem CsrOK.aa0 {al : List Arc} {m : Nat} {fs hs rs cs aa : List Int} {bs : List Bool} (h : CsrOK al m fs hs rs cs aa bs) : ∀ j, j < Yo al m → 0 ≤ aa.getD j 0 := by
 intro j hj
 obtain ⟨i, s, _, _, _, _, _, _, h4, _⟩ := h.place hj
 omega
end Go.Acq
namespace Go.Acq
open Go
theorem Jl {α : Type} {m : Option α} {v : α} (h : Ok m (fun a => a = v)) : m = some v := by obtain ⟨a, h1, h2⟩ := h; rw [h1, h2]
theorem Vl {α : Type} {m : Option α} {v : α} {Q : α → Prop} (h : m = some v) (q : Q v) : Ok m Q := ⟨v, h, q⟩
abbrev lenok (n : Nat) : Prop := n ≤ 9223372036854775807
theorem Z4d {x n : Int} (h1 : n ≤ 4611686018427387904) : Ro x n = some (Ny x n) := by
 unfold Ro Ny
 by_cases h : n < 1
 · rw [if_pos h, if_pos h]
 ·
  have a1 := Int.tmod_lt_of_pos x (show 0 < n by omega)
  have a2 := Zee x (show 0 < n by omega)
  rw [if_neg h, if_neg h, Ko (by omega), Ko (by constructor <;> omega), Ko (by omega)]
theorem Z6q (n : Net) (v : Int) : Ry n v = some (Uh n.N v) := by
 unfold Ry Uh
 by_cases h : 0 ≤ v <;> simp [h]
theorem s_rules4 (n : Net) (a : Arc) : Z3l n a = some (Gr n.N a) := by
 unfold Z3l Gr
 rw [Z6q, Z6q]
 simp only [Option.bind_some]
 cases Uh n.N a.fr <;> simp
theorem s_of4 (n : Net) (h : lenok n.Arcs.length) : Z45 n = some (n.Arcs.all (Gr n.N)) := by
 refine Jl ?_
 unfold Z45 Z8m Z84
 refine Ok.bind.2 (Ok.bind.2 (Ok.bind.2 (Z7o (fun x => 0 ≤ x ∧ x ≤ n.Arcs.length ∧ ∀ i, i < x.toNat → Gr n.N (n.Arcs.getD i default) = true) (fun x => (n.Arcs.length - x).toNat) ⟨by omega, by omega, fun i hi => by omega⟩ (by unfold Yc; omega) ?_)))
 rintro x ⟨h0, h1, h2⟩
 unfold Z4w Z7m
 refine Ok.ite.2 ⟨fun hx => ?_, fun hx => ?_⟩
 ·
  refine Ok.gd.2 ⟨(by omega), Ok.bind.2 (Ok.bind.2 (Vl (s_rules4 _ _) (Ok.some.2 (Ok.ite.2 ⟨fun hb => ?_, fun hb => ?_⟩))))⟩
  ·
   refine Ok.some.2 (Ok.some.2 (Ok.some.2 (Ok.some.2 ?_)))
   simp only [h0, decide_true, Bool.not_true]
   refine Eq.symm (Bool.eq_false_iff.2 fun hall => ?_)
   have := List.all_eq_true.1 hall _ (Ku (show x.toNat < n.Arcs.length by omega) default)
   rw [this] at hb; cases hb
  ·
   refine Ok.gd.2 ⟨(by omega), Ok.some.2 ⟨⟨by omega, by omega, fun i hi => ?_⟩, by omega⟩⟩
   rcases Nat.lt_or_ge i x.toNat with h3 | h3
   · exact h2 i h3
   · rw [show i = x.toNat by omega]; simpa using hb
 ·
  refine Ok.some.2 (Ok.some.2 (Ok.some.2 (Ok.some.2 ?_)))
  refine Eq.symm (List.all_eq_true.2 fun a ha => ?_)
  obtain ⟨i, hi, rfl⟩ := List.getElem_of_mem ha
  have := h2 i (by omega)
  rwa [List.getD_eq_getElem?_getD, List.getElem?_eq_getElem hi] at this
theorem s_of5 (n : Net) (h : lenok n.Arcs.length) : Z3m n = some (n.Arcs.all Nn) := by
 refine Jl ?_
 unfold Z3m Z7l Z7g
 refine Ok.bind.2 (Ok.bind.2 (Ok.bind.2 (Z7o (fun x => 0 ≤ x ∧ x ≤ n.Arcs.length ∧ ∀ i, i < x.toNat → Nn (n.Arcs.getD i default) = true) (fun x => (n.Arcs.length - x).toNat) ⟨by omega, by omega, fun i hi => by omega⟩ (by unfold Yc; omega) ?_)))
 rintro x ⟨h0, h1, h2⟩
 unfold Z52 Z73 Z8d
 refine Ok.ite.2 ⟨fun hx => ?_, fun hx => ?_⟩
 ·
  refine Ok.gd.2 ⟨(by omega), Ok.bind.2 (Ok.bind.2 (Ok.some.2 (Ok.some.2 (Ok.ite.2 ⟨fun hb => ?_, fun hb => ?_⟩))))⟩
  ·
   refine Ok.some.2 (Ok.some.2 (Ok.some.2 (Ok.some.2 ?_)))
   simp only [h0, decide_true, Bool.not_true]
   refine Eq.symm (Bool.eq_false_iff.2 fun hall => ?_)
   have := List.all_eq_true.1 hall _ (Ku (show x.toNat < n.Arcs.length by omega) default)
   simp only [Nn] at this
   rw [this] at hb; cases hb
  ·
   refine Ok.gd.2 ⟨(by omega), Ok.some.2 ⟨⟨by omega, by omega, fun i hi => ?_⟩, by omega⟩⟩
   rcases Nat.lt_or_ge i x.toNat with h3 | h3
   · exact h2 i h3
   · rw [show i = x.toNat by omega]; simpa [Nn] using hb
 ·
  refine Ok.some.2 (Ok.some.2 (Ok.some.2 (Ok.some.2 ?_)))
  refine Eq.symm (List.all_eq_true.2 fun a ha => ?_)
  obtain ⟨i, hi, rfl⟩ := List.getElem_of_mem ha
  have := h2 i (by omega)
  rwa [List.getD_eq_getElem?_getD, List.getElem?_eq_getElem hi] at this
theorem s_Sum (n : Net) (h : lenok n.Arcs.length) : Z6f n = some (match Kq 4611686018427387904 n.Arcs with | some l => (4611686018427387904 - l, true) | none => (0, false)) := by
 refine Jl ?_
 unfold Z6f
 refine Ok.bind.2 (Z7o (fun s => 0 ≤ s.2 ∧ s.2 ≤ n.Arcs.length ∧ 0 ≤ s.1 ∧ s.1 ≤ 4611686018427387904 ∧ Kq 4611686018427387904 n.Arcs = Kq s.1 (n.Arcs.drop s.2.toNat)) (fun s => (n.Arcs.length - s.2).toNat) ⟨by simp, by simp, by simp, by simp, by simp⟩ (by unfold Yc; simp; omega) ?_)
 rintro ⟨left, x⟩ ⟨h0, h1, h2, h3, h4⟩
 simp only at h0 h1 h2 h3 h4 ⊢
 unfold Z4y Z3a
 refine Ok.ite.2 ⟨fun hx => ?_, fun hx => ?_⟩
 ·
  rw [Zfh (by omega)] at h4
  refine Ok.gd.2 ⟨(by omega), Ok.ite.2 ⟨fun hb => ?_, fun hb => ?_⟩⟩
  ·
   rw [if_pos rfl]
   refine Ok.some.2 (Ok.some.2 ?_)
   rw [h4, if_pos (.inl hb)]
  ·
   by_cases hc : left < (n.Arcs.getD x.toNat default).cap
   ·
    rw [if_pos (decide_eq_true hc)]
    refine Ok.some.2 (Ok.some.2 ?_)
    rw [h4, if_pos (.inr hc)]
   ·
    rw [if_neg (by simpa using hc)]
    refine Ok.gd.2 ⟨(by omega), Ok.gd.2 ⟨(by omega), Ok.some.2 ⟨⟨by simp only; omega, by simp only; omega, by simp only; omega, by simp only; omega, ?_⟩, by simp only; omega⟩⟩⟩
    rw [h4, if_neg (by omega)]
    simp only
    rw [show (x + 1).toNat = x.toNat + 1 by omega]
 ·
  unfold Z82
  refine Ok.some.2 (Ok.gd.2 ⟨(by omega), Ok.some.2 ?_⟩)
  rw [h4, List.drop_eq_nil_of_le (by omega)]
  rfl
theorem Za4 (n : Net) (h : lenok n.Arcs.length) : Z0k n = some (Us n.N n.S n.T n.Arcs) := by
 unfold Z0k Z8u Z7x Z9e Z7d Z8c Z74 Z6p Z9g
 rw [Z6q, Z6q, s_of4 n h, s_of5 n h, s_Sum n h]
 unfold Us
 simp only [Option.bind_some]
 by_cases h1 : 2 ≤ n.N ∧ n.N ≤ 4096
 ·
  rw [if_pos h1.1, if_neg (not_not_intro h1)]
  simp only [Option.bind_some, decide_eq_true h1.2, Bool.not_true, Bool.false_eq_true, if_false]
  by_cases h2 : (n.Arcs.length : Int) ≤ 16384
  ·
   rw [if_neg (by simp [h2]), if_neg (not_not_intro h2)]
   by_cases h3 : Uh n.N n.S = true ∧ Uh n.N n.T = true ∧ n.S ≠ n.T
   ·
    rw [if_pos h3.1, if_pos h3.2.1, if_neg (not_not_intro h3)]
    simp only [Option.bind_some, decide_eq_true h3.2.2, Bool.not_true, Bool.false_eq_true, if_false]
    cases h4 : n.Arcs.all (Gr n.N)
    · simp
    ·
     cases h5 : n.Arcs.all Nn
     · simp
     · cases h6 : Kq 4611686018427387904 n.Arcs <;> simp
   ·
    rw [if_pos h3]
    by_cases a1 : Uh n.N n.S = true
    ·
     by_cases a2 : Uh n.N n.T = true
     ·
      have a3 : ¬ n.S ≠ n.T := fun e => h3 ⟨a1, a2, e⟩
      simp [a1, a2, a3]
     · simp [a1, a2]
    · simp [a1]
  · rw [if_pos (by simp [h2]), if_pos h2]
 ·
  rw [if_pos h1]
  by_cases a1 : 2 ≤ n.N
  ·
   have a2 : ¬ n.N ≤ 4096 := fun e => h1 ⟨a1, e⟩
   simp [a1, a2]
  · simp [a1]
end Go.Acq
namespace Go.Acq
open Go
structure NetIn (n : Net) : Prop where
  nN : i64ok n.N
  nS : i64ok n.S
  nT : i64ok n.T
  arcs : ∀ a, a ∈ n.Arcs → i64ok a.fr ∧ i64ok a.to ∧ i64ok a.cap
  len : n.Arcs.length ≤ 9223372036854775807
structure Made (n : Net) (v a : Int) : Prop where
  check : Us n.N n.S n.T n.Arcs = 0
  rows : SomeAt n.N.toNat n.Arcs
  verts : n.N ≤ v
  arcs : (n.Arcs.length : Int) ≤ a
  ends : 2 ≤ n.N ∧ 0 ≤ n.S ∧ n.S < n.N ∧ 0 ≤ n.T ∧ n.T < n.N ∧ n.S ≠ n.T
theorem Made.nat {n : Net} {v a : Int} (h : Made n v a) : ∃ m : Nat, n.N = m ∧ SomeAt m n.Arcs := ⟨n.N.toNat, by have := h.ends.1; omega, h.rows⟩
theorem Made.caps {n : Net} {m : Nat} (h : SomeAt m n.Arcs) : ∀ i, i < n.Arcs.length → 0 ≤ (n.Arcs.getD i default).cap ∧ (n.Arcs.getD i default).cap < 1125899906842624 := fun _ hi => (h _ (Ku hi default)).2
theorem s_Some {n : Net} {v a : Int} (h : NetIn n) (hv0 : 2 ≤ v) (hv1 : v ≤ 4096) (ha0 : 0 ≤ a) (ha1 : a ≤ 4096) : Ok (Z40 n v a) (fun r => Made r v a) := by
 have hN := Z44 (x := n.N) (n := v - 1) (by omega)
 unfold Z40
 refine Ok.gd.2 ⟨(by omega), Ok.bind.2 (Vl (Z4d (by omega)) (Ok.gd.2 ⟨(by omega), ?_⟩))⟩
 obtain ⟨m, hm⟩ : ∃ m : Nat, 2 + Ny n.N (v - 1) = m := ⟨(2 + Ny n.N (v - 1)).toNat, by omega⟩
 rw [hm]
 have hS := Z44 (x := n.S) (n := (m : Int)) (by omega)
 have hT := Z44 (x := n.T) (n := (m : Int)) (by omega)
 refine Ok.bind.2 (Vl (Z4d (by omega)) (Ok.bind.2 (Vl (Z4d (by omega)) ?_)))
 have key : ∀ t : Int, 0 ≤ t → t < m → t ≠ Ny n.S m → Ok (Z34 n a (Ny n.N (v - 1)) (Ny n.S m) t) (fun r => Made r v a) := by
  intro t t0 t1 t2
  unfold Z34
  refine Ok.gd.2 ⟨(by omega), Ok.bind.2 ?_⟩
  obtain ⟨q, hq⟩ : ∃ q : Nat, min (n.Arcs.length : Int) a = q := ⟨(min (n.Arcs.length : Int) a).toNat, by omega⟩
  obtain ⟨al, hal⟩ : ∃ l, l = n.Arcs.take (q : Int).toNat := ⟨_, rfl⟩
  have hlen : al.length = q := by rw [hal, List.length_take]; omega
  have hcap : ∀ b, b ∈ al → i64ok b.cap := fun b hb => (h.arcs b (List.mem_of_mem_take (by rw [← hal]; exact hb))).2.2
  refine Wy (fun s => ∃ k : Nat, s.2 = k ∧ k ≤ q ∧ s.1.length = k ∧ SomeAt m s.1) (fun s => (q - s.2).toNat) ⟨0, rfl, by omega, rfl, fun b hb => by cases hb⟩ (by unfold Yc; simp only; omega) ?_
  rintro ⟨ol, x⟩ ⟨k, h1, h2, h3, h4⟩ P next exit
  simp only at h1 h2 h3 h4 next ⊢
  subst h1
  unfold Z5p
  rw [hq, ← hal]
  simp only [Int.toNat_natCast]
  refine Ok.ite.2 ⟨fun hx => ?_, fun hx => ?_⟩
  ·
   have hkl : k < al.length := by omega
   have hc := hcap _ (Ku hkl default)
   have hj : ∀ c : Int, 0 ≤ c → Ok (Z2h n a (Ny n.N (v - 1)) ol k c) P := by
    intro c hc0
    unfold Z2h
    rw [hq, ← hal, hm]
    refine Ok.bind.2 (Vl (Z4d (by omega)) (Ok.bind.2 (Vl (Z4d (by omega)) (Ok.gd.2 ⟨?_, Ok.gd.2 ⟨(by omega), Ok.some.2 (next _ ⟨k + 1, by simp, by omega, by simp [h3], ?_⟩ (by simp only; omega))⟩⟩))))
    · rw [List.length_append, h3]; simp only [List.length_cons, List.length_nil]; constructor <;> omega
    · exact h4.put (Z44 (by omega)) (Z44 (by omega)) (Zfc hc0 (by omega))
   refine Ok.gd.2 ⟨(by omega), Ok.ite.2 ⟨fun hn => ?_, fun hn => ?_⟩⟩
   · exact Ok.gd.2 ⟨by constructor <;> omega, Ok.gd.2 ⟨by constructor <;> omega, hj (-((al.getD k default).cap + 1)) (by omega)⟩⟩
   · exact hj (al.getD k default).cap (by omega)
  ·
   refine Ok.some.2 (exit _ ?_)
   unfold Z8a
   refine Ok.some.2 ?_
   rw [hm]
   exact ⟨Zkp (by omega) (by omega) hS ⟨t0, t1⟩ t2 h4 (show ol.length ≤ 4096 by omega), by simpa using h4, by simp only; omega, by show (ol.length : Int) ≤ a; omega, ⟨by simp only; omega, hS.1, hS.2, t0, t1, fun e => t2 e.symm⟩⟩
 refine Ok.ite.2 ⟨fun he => ?_, fun he => ?_⟩
 ·
  refine Ok.gd.2 ⟨(by omega), Ok.gd.2 ⟨by omega, ?_⟩⟩
  obtain ⟨n1, n2, n3⟩ := next_ne hS.1 hS.2 (by omega)
  exact key _ n1 n2 n3
 · exact key _ hT.1 hT.2 (fun e => he e.symm)
theorem Zgh {n : Net} {m : Nat} (hN : n.N = m) (hm : m ≤ 4096) (hl : n.Arcs.length ≤ 16384) (he : Vh m n.Arcs) :
    Ok (Z5u n) (fun fs => fs.length = m + 1 ∧ ∀ u, u ≤ m → fs.getD u 0 = Yo n.Arcs u) := by
  unfold Z5u
  simp only [hN]
  refine Ok.gd.2 ⟨(by omega), Ok.gd.2 ⟨(by omega), Ok.bind.2 (Wy (fun s => ∃ k : Nat, s.2 = k ∧ k ≤ n.Arcs.length ∧ Counted n.Arcs m k s.1) (fun s => (n.Arcs.length - s.2).toNat) ⟨0, rfl, by omega, Counted.start n.Arcs m (by omega)⟩ (by unfold Yc; simp only; omega) ?_)⟩⟩
  rintro ⟨fs, x⟩ ⟨k, h1, h2, h3⟩ P next exit
  simp only at h1 h2 h3 next ⊢
  subst h1
  unfold Z3x
  simp only [Int.toNat_natCast]
  refine Ok.ite.2 ⟨fun hx => ?_, fun hx => ?_⟩
  · have hkl : k < n.Arcs.length := by omega
    have hfl := h3.1
    have e0 := he k hkl false
    have e1 := he k hkl true
    simp only [Yw, Bool.false_eq_true, if_false, if_true] at e0 e1
    have c0 := h3.2.2 _ e0.1 e0.2
    have c1 := h3.2.2 _ e1.1 e1.2
    have d0 := Z6k n.Arcs (n.Arcs.getD k default).fr.toNat k
    have d1 := Z6k n.Arcs (n.Arcs.getD k default).to.toNat k
    refine Ok.gd.2 ⟨(by omega), Ok.ite.2 ⟨fun hne => ?_, fun hne => ?_⟩⟩
    · have c2 : (fs.set ((n.Arcs.getD k default).fr + 1).toNat (fs.getD ((n.Arcs.getD k default).fr + 1).toNat 0 + 1)).getD ((n.Arcs.getD k default).to + 1).toNat 0 = cnt n.Arcs (n.Arcs.getD k default).to.toNat k := by rw [Vo (by omega)]; exact c1
      refine Ok.gd.2 ⟨(by omega), Ok.gd.2 ⟨(by omega), Ok.gd.2 ⟨(by omega), Ok.gd.2 ⟨(by omega), Ok.gd.2 ⟨(by omega), Ok.gd.2 ⟨(by simp only [List.length_set, List.length_replicate]; omega), Ok.gd.2 ⟨(by omega), Ok.gd.2 ⟨(by simp only [List.length_set, List.length_replicate]; omega), Ok.gd.2 ⟨(by omega), Ok.some.2 (next _ ⟨k + 1, by simp, by omega, ?_⟩ (by simp only; omega))⟩⟩⟩⟩⟩⟩⟩⟩⟩
      exact h3.put he hkl hne
    · refine Ok.gd.2 ⟨(by omega), Ok.some.2 (next _ ⟨k + 1, by simp, by omega, h3.skip (Classical.not_not.1 hne)⟩ (by simp only; omega))⟩
  · refine Ok.some.2 (exit _ ?_)
    have hk : k = n.Arcs.length := by omega
    subst hk
    unfold Z9k
    refine Ok.bind.2 (Wy (fun s => ∃ v : Nat, s.2 = v ∧ v ≤ m ∧ Summed n.Arcs m v s.1) (fun s => (m - s.2).toNat) ⟨0, rfl, by omega, h3.summed⟩ (by unfold Yc; simp only; omega) ?_)
    rintro ⟨gs, y⟩ ⟨v, g1, g2, g3⟩ P2 next2 exit2
    simp only at g1 g2 g3 next2 ⊢
    subst g1
    unfold Z3o
    simp only [hN, Int.toNat_natCast]
    have hgl := g3.1
    have b0 := g3.2.1 v (Nat.le_refl _)
    refine Ok.ite.2 ⟨fun hv => ?_, fun hv => ?_⟩
    · have b1 := g3.2.2 v (Nat.le_refl _) (by omega)
      have b2 := Z00 (al := n.Arcs) (v := v) (by omega) hl
      have b3 := Z6k n.Arcs v n.Arcs.length
      have b5 : ((v : Int) + 1).toNat = v + 1 := by omega
      simp only [b5]
      refine Ok.gd.2 ⟨(by omega), Ok.gd.2 ⟨(by omega), Ok.gd.2 ⟨(by omega), Ok.gd.2 ⟨(by omega), Ok.gd.2 ⟨(by omega), Ok.gd.2 ⟨(by omega), Ok.some.2 (next2 _ ⟨v + 1, by simp, by omega, ?_⟩ (by simp only; omega))⟩⟩⟩⟩⟩⟩
      exact g3.put (by omega) rfl
    · refine Ok.some.2 (exit2 _ ?_)
      unfold Z7t
      have : v = m := by omega
      subst this
      exact Ok.some.2 ⟨hgl, g3.2.1⟩
structure CsrIs (n : Net) (m : Nat) (c : Csr) : Prop where
  hN : c.N = m
  hS : c.S = n.S
  hT : c.T = n.T
  ok : CsrOK n.Arcs m c.First c.Head c.Rev c.Cap c.Arc c.Back
theorem Z7q {n : Net} {m : Nat} (hN : n.N = m) (hc : Us n.N n.S n.T n.Arcs = 0) (hl : lenok n.Arcs.length) :
    Ok (Rx n) (fun r => CsrIs n m r.1 ∧ r.2 = 0) := by
  have hz := Un hc
  have hm : m ≤ 4096 := by omega
  have he : Vh m n.Arcs := Z17 (by rw [← hN]; exact hz.2.2.2.1)
  unfold Rx
  refine Ok.bind.2 (Vl (Za4 n hl) (Ok.ite.2 ⟨fun h => absurd hc h, fun _ => Ok.bind.2 (Ok.mono (Zgh hN hm (by omega) he) ?_)⟩))
  rintro fs ⟨hfl, hfs⟩
  simp only [hN, Int.toNat_natCast, hfs m (Nat.le_refl _)]
  have hbs := Z00 (al := n.Arcs) (v := m) hm (by omega)
  unfold Ln
  refine Ok.gd.2 ⟨(by omega), Ok.gd.2 ⟨(by omega), Ok.gd.2 ⟨(by omega), Ok.gd.2 ⟨(by omega), Ok.gd.2 ⟨(by omega), Ok.gd.2 ⟨(by omega), Ok.bind.2 (Ok.gd.2 ⟨(by omega), Ok.some.2 (Ok.bind.2 ?_)⟩)⟩⟩⟩⟩⟩⟩
  refine Wy (fun s => ∃ k : Nat, s.2.2.2.2.2.2 = k ∧ k ≤ n.Arcs.length ∧ MakeAt n.Arcs m k s.2.2.2.2.2.1 s.1 s.2.1 s.2.2.1 s.2.2.2.1 s.2.2.2.2.1) (fun s => (n.Arcs.length - s.2.2.2.2.2.2).toNat) ⟨0, rfl, by omega, MakeAt.start hfl hfs⟩ (by unfold Yc; simp only; omega) ?_
  rintro ⟨hs, rs, cs, aa, bs, nx, x⟩ ⟨k, h1, h2, h3⟩ P next exit
  simp only at h1 h2 h3 next ⊢
  subst h1
  unfold Z59
  simp only [Int.toNat_natCast]
  refine Ok.ite.2 ⟨fun hx => ?_, fun hx => ?_⟩
  · have hkl : k < n.Arcs.length := by omega
    refine Ok.gd.2 ⟨(by omega), Ok.ite.2 ⟨fun heq => ?_, fun hne => ?_⟩⟩
    · exact Ok.gd.2 ⟨(by omega), Ok.some.2 (next _ ⟨k + 1, by simp, by omega, h3.skip heq⟩ (by simp only; omega))⟩
    · have e0 := he k hkl false
      have e1 := he k hkl true
      have n0 := h3.at he hkl false
      have n1 := h3.at he hkl true
      have p0 : Zm n.Arcs k false < Yo n.Arcs m := Na hkl hne he
      have p1 : Zm n.Arcs k true < Yo n.Arcs m := Na hkl hne he
      simp only [Yw, Bool.false_eq_true, if_false, if_true] at e0 e1 n0 n1
      have hh := h3
      obtain ⟨⟨l0, l1, l2, l3, l4, l5⟩, _, _⟩ := h3
      unfold Z4z
      simp only [n0, Int.toNat_natCast]
      have n2 : (nx.set (n.Arcs.getD k default).fr.toNat ((Zm n.Arcs k false : Int) + 1)).getD (n.Arcs.getD k default).to.toNat 0 = (Zm n.Arcs k true : Nat) := by rw [Vo (by omega)]; exact n1
      refine Ok.bind.2 (Ok.gd.2 ⟨(by omega), Ok.gd.2 ⟨(by omega), Ok.gd.2 ⟨(by omega), Ok.gd.2 ⟨(by omega), Ok.gd.2 ⟨(by omega), Ok.gd.2 ⟨(by omega), Ok.gd.2 ⟨(by omega), Ok.gd.2 ⟨(by omega), Ok.some.2 (Ok.bind.2 ?_)⟩⟩⟩⟩⟩⟩⟩⟩)
      simp only [n2, Int.toNat_natCast]
      refine Ok.gd.2 ⟨(by simp only [List.length_set, List.length_replicate]; omega), Ok.gd.2 ⟨(by simp only [List.length_set, List.length_replicate]; omega), Ok.gd.2 ⟨(by omega), Ok.gd.2 ⟨(by simp only [List.length_set, List.length_replicate]; omega), Ok.gd.2 ⟨(by simp only [List.length_set, List.length_replicate]; omega), Ok.gd.2 ⟨(by simp only [List.length_set, List.length_replicate]; omega), Ok.gd.2 ⟨(by simp only [List.length_set, List.length_replicate]; omega), Ok.gd.2 ⟨(by simp only [List.length_set, List.length_replicate]; omega), Ok.some.2 (Ok.gd.2 ⟨(by omega), Ok.gd.2 ⟨(by simp only [List.length_set, List.length_replicate]; omega), Ok.gd.2 ⟨(by omega), Ok.some.2 (next _ ⟨k + 1, by simp, by omega, ?_⟩ (by simp only; omega))⟩⟩⟩)⟩⟩⟩⟩⟩⟩⟩⟩
      exact hh.put he hkl hne
  · refine Ok.some.2 (exit _ ?_)
    unfold Z75
    have hk : k = n.Arcs.length := by omega
    subst hk
    exact Ok.some.2 ⟨⟨hN, rfl, rfl, h3.done hfl hfs⟩, rfl⟩
theorem s_Res {c : Csr} {f : List Int} {L : Nat} (hh : c.Head.length = L) (hc : c.Cap.length = L) (ha : c.Arc.length = L) (hb : c.Back.length = L) (hL : L ≤ 67108864)
    (h0 : ∀ j, j < L → 0 ≤ c.Arc.getD j 0) (h1 : ∀ j, j < L → 0 ≤ c.Cap.getD j 0 ∧ c.Cap.getD j 0 ≤ 9223372036854775807) :
    Ok (Z3b c f) (fun r => ((∀ j, j < L → Z0z c.Arc c.Cap c.Back f j) ∧ r.2 = 0 ∧ ResAt c.Arc c.Cap c.Back f L L r.1) ∨ ((∃ j, j < L ∧ ¬Z0z c.Arc c.Cap c.Back f j) ∧ r = ([], 20))) := by
  unfold Z3b Z03
  simp only [hh]
  refine Ok.bind.2 (Ok.some.2 (Ok.gd.2 ⟨(by omega), Ok.bind.2 (Wy (fun s => ∃ k : Nat, s.2 = k ∧ k ≤ L ∧ ResAt c.Arc c.Cap c.Back f L k s.1) (fun s => (L - s.2).toNat) ⟨0, rfl, by omega, by simp, fun j hj => by omega⟩ (by unfold Yc; simp only; omega) ?_)⟩))
  rintro ⟨rl, x⟩ ⟨k, g1, g2, g3⟩ P next exit
  simp only at g1 g2 g3 next ⊢
  subst g1
  unfold Z4b
  simp only [Int.toNat_natCast, List.length_replicate]
  have hrl := g3.1
  refine Ok.ite.2 ⟨fun hx => ?_, fun hx => ?_⟩
  · have hkl : k < L := by omega
    have a0 := h0 k hkl
    have c1 := h1 k hkl
    have bad : ¬Z0z c.Arc c.Cap c.Back f k → P (.inr (.inl ([], 20))) := fun hr => exit _ (Ok.some.2 (.inr ⟨⟨k, hkl, hr⟩, rfl⟩))
    have step : ∀ v : Int, Z0z c.Arc c.Cap c.Back f k → v = resV c.Arc c.Cap c.Back f k → Ok (gd (i64ok ((k : Int) + 1)) (some (.inl (rl.set k v, (k : Int) + 1)))) P := fun v hr hv =>
      Ok.gd.2 ⟨(by omega), Ok.some.2 (next _ ⟨k + 1, by simp, by omega, g3.put hkl hr hv⟩ (by simp only; omega))⟩
    refine Ok.gd.2 ⟨(by omega), Ok.ite.2 ⟨fun hk => ?_, fun hk => ?_⟩⟩
    · exact Ok.some.2 (bad fun hr => by have := hr.1; omega)
    · refine Ok.gd.2 ⟨(by omega), Ok.ite.2 ⟨fun hbk => ?_, fun hbk => ?_⟩⟩
      · exact Ok.gd.2 ⟨(by omega), Ok.gd.2 ⟨(by omega), step _ ⟨by omega, .inl hbk⟩ (by unfold resV; rw [if_pos hbk])⟩⟩
      · refine Ok.gd.2 ⟨(by omega), Ok.ite.2 ⟨fun hn => ?_, fun hn => ?_⟩⟩
        · unfold Z1a
          rw [if_pos rfl]
          exact Ok.some.2 (bad fun hr => by rcases hr.2 with h | h; exact hbk h; omega)
        · refine Ok.gd.2 ⟨(by omega), Ok.gd.2 ⟨(by omega), ?_⟩⟩
          unfold Z1a
          simp only [Int.toNat_natCast]
          refine Ok.ite.2 ⟨fun hd => ?_, fun hd => ?_⟩
          · have hd := of_decide_eq_true hd
            exact Ok.some.2 (bad fun hr => by rcases hr.2 with h | h; exact hbk h; omega)
          · have hd : ¬ c.Cap.getD k 0 < f.getD (c.Arc.getD k 0).toNat 0 := fun h => hd (decide_eq_true h)
            exact Ok.gd.2 ⟨(by omega), Ok.gd.2 ⟨(by omega), Ok.gd.2 ⟨(by omega), Ok.gd.2 ⟨(by omega), step _ ⟨by omega, .inr ⟨by omega, by omega⟩⟩ (by unfold resV; rw [if_neg hbk])⟩⟩⟩⟩
  · refine Ok.some.2 (exit _ ?_)
    unfold Z7k
    have : k = L := by omega
    subst this
    exact Ok.some.2 (.inl ⟨fun j hj => (g3.2 j hj).1, rfl, g3⟩)
def Ls (rs cs : List Int) (res : List Int) (j : Nat) : Prop :=
  0 ≤ res.getD j 0 ∧ res.getD j 0 ≤ max (cs.getD j 0) (cs.getD (rs.getD j 0).toNat 0) ∧ res.getD (rs.getD j 0).toNat 0 = max (cs.getD j 0) (cs.getD (rs.getD j 0).toNat 0) - res.getD j 0
def FlowK (al : List Arc) (a : Nat) (res : List Int) (k : Nat) (fl : List Int) : Prop :=
  fl.length = a ∧ ∀ i, fl.getD i 0 = if i < al.length ∧ (al.getD i default).fr ≠ (al.getD i default).to ∧ Zm al i true < k then res.getD (Zm al i true) 0 else 0
theorem s_over {l : List Int} {a : Int} (hl : lenok l.length) : Ok (Z5n l a) (fun r => r = decide (∃ j, j < l.length ∧ a ≤ l.getD j 0)) := by
 unfold Z5n Z80
 refine Ok.bind.2 (Ok.bind.2 (Wy (fun x => ∃ k : Nat, x = k ∧ k ≤ l.length ∧ ∀ j, j < k → ¬ a ≤ l.getD j 0) (fun x => (l.length - x).toNat) ⟨0, rfl, by omega, fun j hj => by omega⟩ (by unfold Yc; omega) ?_))
 rintro x ⟨k, rfl, g2, g3⟩ P next exit
 unfold Z3f Z83
 simp only [Int.toNat_natCast]
 refine Ok.ite.2 ⟨fun hx => ?_, fun hx => ?_⟩
 ·
  refine Ok.gd.2 ⟨(by omega), Ok.bind.2 (Ok.some.2 (Ok.ite.2 ⟨fun hd => ?_, fun hd => ?_⟩))⟩
  ·
   have hd := of_decide_eq_true hd
   refine Ok.some.2 (exit _ (Ok.some.2 (Ok.some.2 ?_)))
   rw [decide_eq_true (show (0 : Int) ≤ k by omega)]
   exact (decide_eq_true ⟨k, by omega, hd⟩).symm
  ·
   refine Ok.gd.2 ⟨(by omega), Ok.some.2 (next _ ⟨k + 1, by simp, by omega, fun j hj => ?_⟩ (by omega))⟩
   rcases Nat.lt_or_ge j k with h | h
   · exact g3 j h
   · rw [show j = k by omega]; exact fun h => hd (decide_eq_true h)
 ·
  refine Ok.some.2 (exit _ (Ok.some.2 (Ok.some.2 ?_)))
  refine (decide_eq_false ?_).symm
  rintro ⟨j, hj, hja⟩
  exact g3 j (by omega) hja
end Go.Acq
namespace Go.Acq
open Go
def ex (al : List Arc) (f : List Int) (v : Int) : Nat → Int
  | 0 => 0
  | k + 1 => ex al f v k - (if (al.getD k default).fr = v then f.getD k 0 else 0) + (if (al.getD k default).to = v then f.getD k 0 else 0)
def tot (f : List Int) : Nat → Int
  | 0 => 0
  | k + 1 => tot f k + f.getD k 0
def part (al : List Arc) (f : List Int) (j : Int) : Nat → Int
  | 0 => 0
  | k + 1 => part al f j k - (if (al.getD k default).fr < j then f.getD k 0 else 0) + (if (al.getD k default).to < j then f.getD k 0 else 0)
theorem ex_le {al : List Arc} {f : List Int} (v : Int) {n : Nat} (h : ∀ i, i < n → 0 ≤ f.getD i 0) : ∀ k, k ≤ n → -tot f k ≤ ex al f v k ∧ ex al f v k ≤ tot f k
 | 0, _ => by simp [ex, tot]
 | k + 1, hk => by
  have ih := ex_le (al := al) v h k (by omega)
  have := h k hk
  simp only [ex, tot]
  split <;> split <;> omega
theorem Zbf {f : List Int} {n : Nat} (h : ∀ i, i < n → 0 ≤ f.getD i 0) : ∀ j k, j ≤ k → k ≤ n → tot f j ≤ tot f k
  | j, 0, hj, _ => by have : j = 0 := by omega
                      subst this; exact Int.le_refl _
  | j, k + 1, hj, hk => by
    rcases Nat.lt_or_ge j (k + 1) with h1 | h1
    · have := Zbf h j k (by omega) (by omega)
      have := h k hk
      simp only [tot]; omega
    · rw [show j = k + 1 by omega]; exact Int.le_refl _
theorem sumL_tot {f : List Int} : ∀ (al : List Arc) (left : Int) (k : Nat), (Kq left (al.drop k)).isSome = true → 0 ≤ left → k ≤ al.length → (∀ i, i < al.length → 0 ≤ f.getD i 0 ∧ f.getD i 0 ≤ (al.getD i default).cap) → tot f al.length - tot f k ≤ left := by
 intro al left k
 induction hn : al.length - k generalizing left k with
 | zero =>
  intro _ h0 hk _
  rw [show k = al.length by omega]; omega
 | succ n ih =>
  intro hs h0 hk hf
  have hkl : k < al.length := by omega
  rw [Zfh hkl] at hs
  by_cases hc : (al.getD k default).cap < 0 ∨ left < (al.getD k default).cap
  · rw [if_pos hc] at hs; cases hs
  ·
   rw [if_neg hc] at hs
   have := ih (left - (al.getD k default).cap) (k + 1) (by omega) hs (by omega) (by omega) hf
   have hfk := hf k hkl
   simp only [tot] at this
   omega
def FwithinP (n : Net) (f : List Int) : Prop := Us n.N n.S n.T n.Arcs = 0 ∧ f.length = n.Arcs.length ∧ ∀ i, i < n.Arcs.length → 0 ≤ f.getD i 0 ∧ f.getD i 0 ≤ (n.Arcs.getD i default).cap
theorem FwithinP.tot {n : Net} {f : List Int} (h : FwithinP n f) : ∀ k, k ≤ n.Arcs.length → 0 ≤ tot f k ∧ tot f k ≤ 4611686018427387904 := by
 intro k hk
 have hz := Un h.1
 have h1 := sumL_tot (f := f) n.Arcs 4611686018427387904 0 (by simpa using hz.2.2.2.2.2) (by omega) (by omega) h.2.2
 have h2 := Zbf (fun i hi => (h.2.2 i hi).1) k n.Arcs.length hk (Nat.le_refl _)
 have h3 := Zbf (fun i hi => (h.2.2 i hi).1) 0 k (by omega) hk
 simp only [Acq.tot] at h1 h3
 omega
theorem Z3w {n : Net} {f : List Int} (hl : lenok n.Arcs.length) : Ok (Rk n f) (fun b => b = true ↔ FwithinP n f) := by
 unfold Rk
 refine Ok.bind.2 (Vl (Za4 n hl) (Ok.ite.2 ⟨fun h => Ok.some.2 ⟨fun h2 => (by cases h2), fun h2 => absurd h2.1 h⟩, fun h1 => Ok.ite.2 ⟨fun h => Ok.some.2 ⟨fun h2 => (by cases h2), fun h2 => absurd h2.2.1 (by omega)⟩, fun h2 => Ok.bind.2 ?_⟩⟩))
 have hz := Un (Classical.not_not.1 h1)
 refine Wy (fun x => ∃ k : Nat, x = k ∧ k ≤ n.Arcs.length ∧ ∀ i, i < k → 0 ≤ f.getD i 0 ∧ f.getD i 0 ≤ (n.Arcs.getD i default).cap) (fun x => (n.Arcs.length - x).toNat) ⟨0, rfl, by omega, fun i hi => by omega⟩ (by unfold Yc; omega) ?_
 rintro x ⟨k, rfl, hk, h3⟩ P next exit
 unfold Z48
 simp only [Int.toNat_natCast]
 refine Ok.ite.2 ⟨fun hx => ?_, fun hx => ?_⟩
 ·
  refine Ok.gd.2 ⟨(by omega), Ok.gd.2 ⟨(by omega), Ok.ite.2 ⟨fun h => Ok.some.2 (exit _ (Ok.some.2 ⟨fun h2 => (by cases h2), fun h2 => by have := h2.2.2 k (by omega); omega⟩)), fun h4 => Ok.gd.2 ⟨(by omega), Ok.ite.2 ⟨fun h => Ok.some.2 (exit _ (Ok.some.2 ⟨fun h2 => (by cases h2), fun h2 => by have := h2.2.2 k (by omega); omega⟩)), fun h5 => Ok.gd.2 ⟨(by omega), Ok.some.2 (next _ ⟨k + 1, by simp, by omega, fun i hi => ?_⟩ (by omega))⟩⟩⟩⟩⟩⟩
  rcases Nat.lt_or_ge i k with h | h
  · exact h3 i h
  · rw [show i = k by omega]; omega
 ·
  refine Ok.some.2 (exit _ ?_)
  unfold Z8q
  exact Ok.some.2 ⟨fun _ => ⟨Classical.not_not.1 h1, by omega, fun i hi => h3 i (by omega)⟩, fun _ => rfl⟩
theorem Z4c {n : Net} {f : List Int} (hl : lenok n.Arcs.length) : Ok (Ll n f) (fun r => (FwithinP n f ∧ r.2 = 0 ∧ r.1.length = n.N.toNat ∧ ∀ v : Nat, v < n.N.toNat → r.1.getD v 0 = ex n.Arcs f v n.Arcs.length) ∨ (¬ FwithinP n f ∧ r = ([], 20))) := by
 unfold Ll
 refine Ok.bind.2 (Ok.mono (Z3w hl) fun b hb => Ok.ite.2 ⟨fun h => Ok.some.2 (.inr ⟨fun h2 => (by rw [hb.2 h2] at h; cases h), rfl⟩), fun h => ?_⟩)
 have hw : FwithinP n f := hb.1 (by cases b; exact absurd rfl h; rfl)
 have hz := Un hw.1
 obtain ⟨m, hm⟩ : ∃ m : Nat, n.N = m := ⟨n.N.toNat, by omega⟩
 have he : Vh m n.Arcs := Z17 (by rw [← hm]; exact hz.2.2.2.1)
 have hfl := hw.2.1
 refine Ok.gd.2 ⟨(by omega), Ok.bind.2 ?_⟩
 rw [hm]
 simp only [Int.toNat_natCast]
 refine Wy (fun s => ∃ k : Nat, s.2 = k ∧ k ≤ n.Arcs.length ∧ s.1.length = m ∧ ∀ v : Nat, v < m → s.1.getD v 0 = ex n.Arcs f v k) (fun s => (n.Arcs.length - s.2).toNat) ⟨0, rfl, by omega, List.length_replicate, fun v _ => by rw [Ke]; rfl⟩ (by unfold Yc; simp only; omega) ?_
 rintro ⟨xs, x⟩ ⟨k, h1, hk, h3, h4⟩ P next exit
 simp only at h1 h3 h4 next ⊢
 subst h1
 unfold Z5j
 simp only [Int.toNat_natCast]
 refine Ok.ite.2 ⟨fun hx => ?_, fun hx => ?_⟩
 ·
  have hkl : k < n.Arcs.length := by omega
  have e0 := he k hkl false
  have e1 := he k hkl true
  simp only [Yw, Bool.false_eq_true, if_false, if_true] at e0 e1
  obtain ⟨p, hp⟩ : ∃ p : Nat, (n.Arcs.getD k default).fr = p := ⟨(n.Arcs.getD k default).fr.toNat, by omega⟩
  obtain ⟨q, hq⟩ : ∃ q : Nat, (n.Arcs.getD k default).to = q := ⟨(n.Arcs.getD k default).to.toNat, by omega⟩
  have hfk := hw.2.2 k hkl
  have b0 := ex_le (al := n.Arcs) (f := f) (p : Int) (fun i hi => (hw.2.2 i hi).1) k hk
  have b1 := ex_le (al := n.Arcs) (f := f) (q : Int) (fun i hi => (hw.2.2 i hi).1) k hk
  have t0 := hw.tot k hk
  have t1 := hw.tot (k + 1) hkl
  simp only [tot] at t1
  rw [hp] at e0
  rw [hq] at e1
  have v0 := h4 p (by omega)
  have v1 := h4 q (by omega)
  simp only [hp, hq, Int.toNat_natCast, v0, Wo, List.length_set, h3]
  refine Ok.gd.2 ⟨(by omega), Ok.gd.2 ⟨(by omega), Ok.gd.2 ⟨(by omega), Ok.gd.2 ⟨(by omega), Ok.gd.2 ⟨(by omega), Ok.gd.2 ⟨(by omega), Ok.gd.2 ⟨(by omega), Ok.gd.2 ⟨by split <;> constructor <;> omega, Ok.gd.2 ⟨(by omega), Ok.gd.2 ⟨(by omega), Ok.some.2 (next _ ⟨k + 1, by simp, by omega, by simp [h3], fun v hv => ?_⟩ (by simp only; omega))⟩⟩⟩⟩⟩⟩⟩⟩⟩⟩
  simp only [Wo, List.length_set, h3, ex, hp, hq]
  rw [h4 v hv]
  by_cases c1 : p = v
  ·
   subst c1
   by_cases c2 : q = p
   ·
    subst c2
    simp only [true_and, if_true]
    rw [if_pos (by omega)]; simp [show q < m by omega]
   · rw [if_neg (fun h => c2 h.1), if_pos ⟨rfl, by omega⟩, if_pos rfl, if_neg (by omega)]; omega
  ·
   by_cases c2 : q = v
   ·
    subst c2
    rw [if_pos ⟨rfl, by omega⟩, if_neg (fun h => c1 h.1), if_neg (by omega), if_pos rfl, v1]; omega
   · rw [if_neg (fun h => c2 h.1), if_neg (fun h => c1 h.1), if_neg (by omega), if_neg (by omega)]; omega
 ·
  refine Ok.some.2 (exit _ ?_)
  unfold Z72
  rw [show k = n.Arcs.length by omega] at h4
  exact Ok.some.2 (.inl ⟨hw, rfl, h3, h4⟩)
theorem Zcj {s : List Int} {v : Int} (hl : lenok s.length) : Z1x s v = some (s.contains v) := by
 refine Jl ?_
 unfold Z1x Z9r
 refine Ok.bind.2 (Ok.bind.2 (Wy (fun x => ∃ k : Nat, x = k ∧ k ≤ s.length ∧ ∀ j, j < k → s.getD j 0 ≠ v) (fun x => (s.length - x).toNat) ⟨0, rfl, by omega, fun j hj => by omega⟩ (by unfold Yc; omega) ?_))
 rintro x ⟨k, rfl, g2, g3⟩ P next exit
 unfold Z5z
 simp only [Int.toNat_natCast]
 refine Ok.ite.2 ⟨fun hx => ?_, fun hx => ?_⟩
 ·
  refine Ok.gd.2 ⟨(by omega), Ok.ite.2 ⟨fun h => Ok.some.2 (exit _ (Ok.some.2 (Ok.some.2 ?_))), fun h => Ok.gd.2 ⟨(by omega), Ok.some.2 (next _ ⟨k + 1, by simp, by omega, fun j hj => ?_⟩ (by omega))⟩⟩⟩
  ·
   rw [show s.contains v = true from List.contains_iff_mem.2 (by rw [h]; exact Ku (by omega) 0)]
   exact decide_eq_true (by omega)
  ·
   rcases Nat.lt_or_ge j k with h1 | h1
   · exact g3 j h1
   · rw [show j = k by omega]; exact fun e => h e.symm
 ·
  refine Ok.some.2 (exit _ ?_)
  unfold Z7a
  refine Ok.some.2 (Ok.some.2 ?_)
  have : s.contains v = false := by
   rw [Bool.eq_false_iff]
   intro hc
   obtain ⟨j, hj, e⟩ := List.mem_iff_getElem.1 (List.contains_iff_mem.1 hc)
   have := g3 j (by omega)
   rw [List.getD_eq_getElem?_getD, List.getElem?_eq_getElem hj] at this
   exact this e
  rw [this]
  exact decide_eq_false (by omega)
theorem Z0f {b : Bool} (h : ¬(!b) = true) : b = true := by cases b; exact absurd rfl h; rfl
theorem Ze9 {l : List Int} {x : Int} (h : ¬(!l.contains x) = true) : x ∈ l := List.contains_iff_mem.1 (Z0f h)
def Ka (n : Net) (f : List Int) (so : Int → Prop) (but : List Int) : Prop := FwithinP n f ∧ ∀ v : Nat, v < n.N.toNat → so (ex n.Arcs f v n.Arcs.length) ∨ (v : Int) ∈ but
theorem s_Pre {n : Net} {f : List Int} (hl : lenok n.Arcs.length) : Ok (Z1e n f) (fun b => b = true ↔ Ka n f (fun x => 0 ≤ x) [n.S]) := by
 unfold Z1e Z7s
 refine Ok.bind.2 (Ok.mono (Q := fun b => b = true ↔ Ka n f (fun x => 0 ≤ x) [n.S]) ?_ fun b hb => Ok.some.2 hb)
 refine Ok.bind.2 (Ok.mono (Z4c hl) ?_)
 rintro ⟨l, e⟩ hle
 refine Ok.bind.2 (Wy (fun x => ∃ k : Nat, x = k ∧ k ≤ l.length ∧ ∀ v, v < k → 0 ≤ l.getD v 0 ∨ (v : Int) ∈ [n.S]) (fun x => (l.length - x).toNat) ⟨0, rfl, by omega, fun j hj => by omega⟩ ?_ ?_)
 ·
  rcases hle with ⟨hw, -, h2, -⟩ | ⟨-, h2⟩
  · have := Un hw.1; simp only at h2; unfold Yc; omega
  · injection h2 with h2 h3; subst h2; unfold Yc; simp
 rintro x ⟨k, rfl, g2, g3⟩ P next exit
 unfold Z5y Z6x
 simp only [Int.toNat_natCast]
 have hlen : l.length ≤ 4096 := by
  rcases hle with ⟨hw, -, h2, -⟩ | ⟨-, h2⟩
  · have := Un hw.1; simp only at h2; omega
  · injection h2 with h2 h3; subst h2; simp
 refine Ok.ite.2 ⟨fun hx => ?_, fun hx => ?_⟩
 ·
  refine Ok.gd.2 ⟨(by omega), Ok.bind.2 (Ok.some.2 (Ok.ite.2 ⟨fun h => Ok.bind.2 (Vl (Zcj (by simp)) (Ok.ite.2 ⟨fun h2 => Ok.some.2 (exit _ (Ok.some.2 ⟨fun h3 => (by cases h3), fun h3 => ?_⟩)), fun h2 => Ok.gd.2 ⟨(by omega), Ok.some.2 (next _ ⟨k + 1, by simp, by omega, fun j hj => ?_⟩ (by omega))⟩⟩)), fun h => Ok.gd.2 ⟨(by omega), Ok.some.2 (next _ ⟨k + 1, by simp, by omega, fun j hj => ?_⟩ (by omega))⟩⟩))⟩
  ·
   exfalso
   rcases hle with ⟨hw, -, h5, h6⟩ | ⟨h5, -⟩
   ·
    simp only at h5 h6
    rcases h3.2 k (by omega) with h7 | h7
    · rw [← h6 k (by omega)] at h7; rw [decide_eq_true h7] at h; cases h
    · rw [List.contains_iff_mem.2 h7] at h2; cases h2
   · exact h5 h3.1
  ·
   rcases Nat.lt_or_ge j k with h1 | h1
   · exact g3 j h1
   · rw [show j = k by omega]; right; exact Ze9 h2
  ·
   rcases Nat.lt_or_ge j k with h1 | h1
   · exact g3 j h1
   · rw [show j = k by omega]; left; exact of_decide_eq_true (Z0f h)
 ·
  refine Ok.some.2 (exit _ ?_)
  unfold Z7n
  refine Ok.some.2 ?_
  rcases hle with ⟨hw, h4, h5, h6⟩ | ⟨h5, h6⟩
  ·
   simp only at h4 h5 h6
   refine ⟨fun _ => ⟨hw, fun v hv => ?_⟩, fun _ => decide_eq_true h4⟩
   rw [← h6 v hv]; exact g3 v (by omega)
  ·
   injection h6 with h6 h7
   simp only [h7]
   exact ⟨fun h => (by cases h), fun h => absurd h.1 h5⟩
theorem s_Right {n : Net} {f : List Int} (hl : lenok n.Arcs.length) : Ok (Z5s n f) (fun b => b = true ↔ Ka n f (fun x => x = 0) [n.S, n.T]) := by
 unfold Z5s Z8n
 refine Ok.bind.2 (Ok.mono (Q := fun b => b = true ↔ Ka n f (fun x => x = 0) [n.S, n.T]) ?_ fun b hb => Ok.some.2 hb)
 refine Ok.bind.2 (Ok.mono (Z4c hl) ?_)
 rintro ⟨l, e⟩ hle
 refine Ok.bind.2 (Wy (fun x => ∃ k : Nat, x = k ∧ k ≤ l.length ∧ ∀ v, v < k → l.getD v 0 = 0 ∨ (v : Int) ∈ [n.S, n.T]) (fun x => (l.length - x).toNat) ⟨0, rfl, by omega, fun j hj => by omega⟩ ?_ ?_)
 ·
  rcases hle with ⟨hw, -, h2, -⟩ | ⟨-, h2⟩
  · have := Un hw.1; simp only at h2; unfold Yc; omega
  · injection h2 with h2 h3; subst h2; unfold Yc; simp
 rintro x ⟨k, rfl, g2, g3⟩ P next exit
 unfold Z5v Z81
 simp only [Int.toNat_natCast]
 have hlen : l.length ≤ 4096 := by
  rcases hle with ⟨hw, -, h2, -⟩ | ⟨-, h2⟩
  · have := Un hw.1; simp only at h2; omega
  · injection h2 with h2 h3; subst h2; simp
 refine Ok.ite.2 ⟨fun hx => ?_, fun hx => ?_⟩
 ·
  refine Ok.gd.2 ⟨(by omega), Ok.bind.2 (Ok.some.2 (Ok.ite.2 ⟨fun h => Ok.bind.2 (Vl (Zcj (by simp)) (Ok.ite.2 ⟨fun h2 => Ok.some.2 (exit _ (Ok.some.2 ⟨fun h3 => (by cases h3), fun h3 => ?_⟩)), fun h2 => Ok.gd.2 ⟨(by omega), Ok.some.2 (next _ ⟨k + 1, by simp, by omega, fun j hj => ?_⟩ (by omega))⟩⟩)), fun h => Ok.gd.2 ⟨(by omega), Ok.some.2 (next _ ⟨k + 1, by simp, by omega, fun j hj => ?_⟩ (by omega))⟩⟩))⟩
  ·
   exfalso
   rcases hle with ⟨hw, -, h5, h6⟩ | ⟨h5, -⟩
   ·
    simp only at h5 h6
    rcases h3.2 k (by omega) with h7 | h7
    · rw [← h6 k (by omega)] at h7; rw [decide_eq_true h7] at h; cases h
    · rw [List.contains_iff_mem.2 h7] at h2; cases h2
   · exact h5 h3.1
  ·
   rcases Nat.lt_or_ge j k with h1 | h1
   · exact g3 j h1
   · rw [show j = k by omega]; right; exact Ze9 h2
  ·
   rcases Nat.lt_or_ge j k with h1 | h1
   · exact g3 j h1
   · rw [show j = k by omega]; left; exact of_decide_eq_true (Z0f h)
 ·
  refine Ok.some.2 (exit _ ?_)
  unfold Z78
  refine Ok.some.2 ?_
  rcases hle with ⟨hw, h4, h5, h6⟩ | ⟨h5, h6⟩
  ·
   simp only at h4 h5 h6
   refine ⟨fun _ => ⟨hw, fun v hv => ?_⟩, fun _ => decide_eq_true h4⟩
   rw [← h6 v hv]; exact g3 v (by omega)
  ·
   injection h6 with h6 h7
   simp only [h7]
   exact ⟨fun h => (by cases h), fun h => absurd h.1 h5⟩
theorem s_Value {n : Net} {f : List Int} (hl : lenok n.Arcs.length) : Ok (Z5t n f) (fun r => (Ka n f (fun x => x = 0) [n.S, n.T] ∧ r = (ex n.Arcs f n.T n.Arcs.length, 0)) ∨ (¬ Ka n f (fun x => x = 0) [n.S, n.T] ∧ r = (0, 20))) := by
 unfold Z5t
 refine Ok.bind.2 (Ok.mono (s_Right hl) fun b hb => Ok.ite.2 ⟨fun h => Ok.some.2 (.inr ⟨fun h2 => (by rw [hb.2 h2] at h; cases h), rfl⟩), fun h => ?_⟩)
 have hw := hb.1 (by cases b; exact absurd rfl h; rfl)
 refine Ok.bind.2 (Ok.mono (Z4c hl) ?_)
 rintro ⟨l, e⟩ (⟨-, h2, h3, h4⟩ | ⟨h2, -⟩)
 ·
  simp only at h2 h3 h4 ⊢
  have hz := Un hw.1.1
  have hT := of_decide_eq_true hz.2.2.1.2.1
  refine Ok.gd.2 ⟨(by omega), Ok.some.2 (.inl ⟨hw, ?_⟩)⟩
  rw [h4 n.T.toNat (by omega), h2, Int.toNat_of_nonneg hT.1]
 · exact absurd hw.1 h2
end Go.Acq
namespace Go.Acq
open Go
def Nc (al : List Arc) (f : List Int) (v : Nat) : Nat → List Int
  | 0 => []
  | k + 1 => Nc al f v k ++ (if 0 < f.getD k 0 ∧ (al.getD k default).fr = (v : Int) then [(k : Int)] else [])
def OutIs (n : Net) (m : Nat) (f : List Int) (out : List (List Int)) : Prop := out.length = m ∧ ∀ v, v < m → out.getD v [] = Nc n.Arcs f v n.Arcs.length
theorem outK_mem {al : List Arc} {f : List Int} {v : Nat} {x : Int} : ∀ {k : Nat}, x ∈ Nc al f v k ↔ ∃ i : Nat, i < k ∧ x = i ∧ 0 < f.getD i 0 ∧ (al.getD i default).fr = (v : Int)
 | 0 => by simp [Nc]
 | k + 1 => by
  rw [Nc, List.mem_append, outK_mem (k := k)]
  constructor
  ·
   rintro (⟨i, h1, h2⟩ | h)
   · exact ⟨i, by omega, h2⟩
   ·
    split at h
    · rename_i h2; rw [List.mem_singleton] at h; exact ⟨k, by omega, h, h2⟩
    · cases h
  ·
   rintro ⟨i, h1, h2, h3⟩
   rcases Nat.lt_or_ge i k with h | h
   · exact .inl ⟨i, h, h2, h3⟩
   ·
    have e : i = k := by omega
    subst e
    exact .inr (by rw [if_pos h3, h2]; exact .head _)
theorem Zbb {al : List Arc} {f : List Int} {v : Nat} : ∀ k, (Nc al f v k).length ≤ k
 | 0 => Nat.le_refl _
 | k + 1 => by
  have := Zbb (al := al) (f := f) (v := v) k
  rw [Nc, List.length_append]
  split <;> simp <;> omega
theorem Z9v {al : List Arc} {f : List Int} {v : Nat} : ∀ k, (Nc al f v k).Nodup
 | 0 => List.nodup_nil
 | k + 1 => by
  rw [Nc, List.nodup_append]
  refine ⟨Z9v k, by split <;> simp, fun a ha b hb e => ?_⟩
  subst e
  split at hb
  ·
   rw [List.mem_singleton] at hb
   obtain ⟨i, h1, h2, -⟩ := outK_mem.1 ha
   omega
  · cases hb
theorem OutIs.at {n : Net} {m : Nat} {f : List Int} {out : List (List Int)} (h : OutIs n m f out) {v q : Nat} (hv : v < m) (hq : q < (out.getD v []).length) :
    ∃ k : Nat, (out.getD v []).getD q 0 = k ∧ k < n.Arcs.length ∧ 0 < f.getD k 0 ∧ (n.Arcs.getD k default).fr = (v : Int) := by
  have := Ku hq 0
  rw [h.2 v hv] at this
  obtain ⟨i, h1, h2, h3, h4⟩ := outK_mem.1 this
  exact ⟨i, by rw [h.2 v hv]; exact h2, h1, h3, h4⟩
theorem OutIs.in {n : Net} {m : Nat} {f : List Int} {out : List (List Int)} (h : OutIs n m f out) {v k : Nat} (hv : v < m) (hk : k < n.Arcs.length) (hf : 0 < f.getD k 0) (he : (n.Arcs.getD k default).fr = (v : Int)) :
    ∃ q, q < (out.getD v []).length ∧ (out.getD v []).getD q 0 = k := by
  have : (k : Int) ∈ out.getD v [] := by rw [h.2 v hv]; exact outK_mem.2 ⟨k, hk, rfl, hf, he⟩
  obtain ⟨q, hq, e⟩ := List.getElem_of_mem this
  exact ⟨q, hq, by rw [List.getD_eq_getElem?_getD, List.getElem?_eq_getElem hq]; exact e⟩
theorem OutIs.len {n : Net} {m : Nat} {f : List Int} {out : List (List Int)} (h : OutIs n m f out) {v : Nat} (hv : v < m) : (out.getD v []).length ≤ n.Arcs.length := by
 rw [h.2 v hv]; exact Zbb _
def Acyc (n : Net) (f : List Int) : Prop := ∃ ρ : Nat → Nat, ∀ k, k < n.Arcs.length → 0 < f.getD k 0 → ρ (n.Arcs.getD k default).to.toNat < ρ (n.Arcs.getD k default).fr.toNat
def Cyc (n : Net) (f : List Int) (c : List Int) : Prop := 0 < c.length ∧
  (∀ j, j < c.length → ∃ k : Nat, c.getD j 0 = k ∧ k < n.Arcs.length ∧ 0 < f.getD k 0 ∧ (n.Arcs.getD k default).to = (n.Arcs.getD (c.getD ((j + 1) % c.length) 0).toNat default).fr) ∧
  ∀ i j, i < c.length → j < c.length → (n.Arcs.getD (c.getD i 0).toNat default).fr = (n.Arcs.getD (c.getD j 0).toNat default).fr → i = j
theorem Cyc.not {n : Net} {f c : List Int} (h : Cyc n f c) : ¬ Acyc n f := by
 rintro ⟨ρ, hρ⟩
 obtain ⟨h0, h1, -⟩ := h
 let g : Nat → Nat := fun j => ρ (n.Arcs.getD (c.getD j 0).toNat default).fr.toNat
 have hs : ∀ j, j < c.length → g ((j + 1) % c.length) < g j := by
  intro j hj
  obtain ⟨k, e1, e2, e3, e4⟩ := h1 j hj
  have := hρ k e2 e3
  rw [e4] at this
  show ρ _ < ρ (n.Arcs.getD (c.getD j 0).toNat default).fr.toNat
  rw [e1, Int.toNat_natCast]
  exact this
 have key : ∀ j, j < c.length → g j + j ≤ g 0 := by
  intro j
  induction j with
  | zero => intro _; omega
  | succ j ih =>
   intro hj
   have h2 := ih (by omega)
   have h3 := hs j (by omega)
   rw [Nat.mod_eq_of_lt hj] at h3
   omega
 have h2 := key (c.length - 1) (by omega)
 have h3 := hs (c.length - 1) (by omega)
 rw [show c.length - 1 + 1 = c.length by omega, Nat.mod_self] at h3
 omega
theorem Zeg {n : Net} {m : Nat} {f : List Int} (hm : n.N = m) (hm2 : m ≤ 4096) (he : Vh m n.Arcs) (hl : n.Arcs.length ≤ 16384) (hf : f.length = n.Arcs.length) :
    Ok (Z1v n f) (fun s => ∃ out, s = CyclesSearch.mk n out (List.replicate m 0) (List.replicate m false) (List.replicate m false) [] ∧ OutIs n m f out) := by
  unfold Z1v
  rw [hm]
  refine Ok.gd.2 ⟨(by omega), Ok.gd.2 ⟨(by omega), Ok.gd.2 ⟨(by omega), Ok.gd.2 ⟨(by omega), Ok.bind.2 ?_⟩⟩⟩⟩
  simp only [Int.toNat_natCast]
  refine Wy (fun s => ∃ k : Nat, s.2 = k ∧ k ≤ n.Arcs.length ∧ s.1.length = m ∧ ∀ v, v < m → s.1.getD v [] = Nc n.Arcs f v k) (fun s => (n.Arcs.length - s.2).toNat) ⟨0, rfl, by omega, List.length_replicate, fun v _ => by rw [Ke]; rfl⟩ (by unfold Yc; simp only; omega) ?_
  rintro ⟨xs, x⟩ ⟨k, h1, hk, h3, h4⟩ P next exit
  simp only at h1 h3 h4 next ⊢
  subst h1
  unfold Z4n
  simp only [Int.toNat_natCast]
  refine Ok.ite.2 ⟨fun hx => ?_, fun hx => ?_⟩
  · have hkl : k < n.Arcs.length := by omega
    have e0 := he k hkl false
    simp only [Yw, Bool.false_eq_true, if_false] at e0
    obtain ⟨p, hp⟩ : ∃ p : Nat, (n.Arcs.getD k default).fr = p := ⟨(n.Arcs.getD k default).fr.toNat, by omega⟩
    rw [hp] at e0
    refine Ok.gd.2 ⟨(by constructor <;> omega), Ok.gd.2 ⟨(by constructor <;> omega), Ok.ite.2 ⟨fun hp0 => ?_, fun hp0 => Ok.gd.2 ⟨(by constructor <;> omega), Ok.some.2 (next _ ⟨k + 1, by simp, by omega, h3, fun v hv => ?_⟩ (by simp only; omega))⟩⟩⟩⟩
    · simp only [hp, Int.toNat_natCast]
      have h5 := h4 p (by omega)
      have h6 := Zbb (al := n.Arcs) (f := f) (v := p) k
      refine Ok.gd.2 ⟨(by constructor <;> omega), Ok.gd.2 ⟨?_, Ok.gd.2 ⟨(by constructor <;> omega), Ok.some.2 (next _ ⟨k + 1, by simp, by omega, by simp [h3], fun v hv => ?_⟩ (by simp only; omega))⟩⟩⟩
      · rw [List.length_append, h5]; simp only [List.length_singleton]; constructor <;> omega
      · rw [Wo, h3, h5, Nc]
        by_cases e : p = v
        · subst e; rw [if_pos ⟨rfl, by omega⟩, if_pos ⟨hp0, hp⟩]
        · rw [if_neg (fun h => e h.1), if_neg (fun h => by have := h.2; rw [hp] at this; omega), List.append_nil]; exact h4 v hv
    · rw [Nc, if_neg (fun h => hp0 h.1), List.append_nil]; exact h4 v hv
  · refine Ok.some.2 (exit _ ?_)
    unfold Z8w
    simp only [hm, Int.toNat_natCast]
    exact Ok.some.2 ⟨xs, rfl, h3, fun v hv => by rw [h4 v hv, show k = n.Arcs.length by omega]⟩
end Go.Acq
namespace Go.Acq
open Go
section dfs
variable {n : Net} {m : Nat} {f : List Int} {out : List (List Int)}
def past (n : Net) (out : List (List Int)) (dn : List Bool) (u q : Nat) : Prop := ∀ j, j < q → dn.getD (n.Arcs.getD ((out.getD u []).getD j 0).toNat default).to.toNat false = true
inductive Chain (n : Net) (f : List Int) (out : List (List Int)) (at_ : List Int) (dn : List Bool) : List Nat → List Nat → Prop
  | root (r : Nat) : Chain n f out at_ dn [r] []
  | step {v u e : Nat} {ps es : List Nat} (h1 : e < n.Arcs.length) (h2 : 0 < f.getD e 0) (h3 : (n.Arcs.getD e default).fr = (u : Int)) (h4 : (n.Arcs.getD e default).to = (v : Int))
      (h5 : ∃ q : Nat, at_.getD u 0 = ((q + 1 : Nat) : Int) ∧ (out.getD u []).getD q 0 = (e : Int) ∧ past n out dn u q) (h6 : Chain n f out at_ dn (u :: ps) es) : Chain n f out at_ dn (v :: u :: ps) (e :: es)
theorem past.mono {dn dn' : List Bool} {u q : Nat} (h : past n out dn u q) (hd : ∀ x, dn.getD x false = true → dn'.getD x false = true) : past n out dn' u q := fun j hj => hd _ (h j hj)
theorem Chain.mono {at_ at' : List Int} {dn dn' : List Bool} {pv es : List Nat} (h : Chain n f out at_ dn pv es) (hd : ∀ x, dn.getD x false = true → dn'.getD x false = true) (ha : ∀ x, x ∈ pv.tail → at'.getD x 0 = at_.getD x 0) : Chain n f out at' dn' pv es := by
 induction h with
 | root r => exact .root r
 | step h1 h2 h3 h4 h5 h6 ih =>
  obtain ⟨q, q1, q2, q3⟩ := h5
  refine .step h1 h2 h3 h4 ⟨q, by rw [ha _ (.head _)]; exact q1, q2, q3.mono hd⟩ (ih fun x hx => ha x ?_)
  exact .tail _ hx
theorem Chain.len {at_ : List Int} {dn : List Bool} {pv es : List Nat} (h : Chain n f out at_ dn pv es) : pv.length = es.length + 1 := by
 induction h with
 | root r => rfl
 | step _ _ _ _ _ _ ih => simp only [List.length_cons] at ih ⊢; omega
theorem Chain.at {at_ : List Int} {dn : List Bool} {pv es : List Nat} (h : Chain n f out at_ dn pv es) : ∀ i, i < es.length → es.getD i 0 < n.Arcs.length ∧ 0 < f.getD (es.getD i 0) 0 ∧ (n.Arcs.getD (es.getD i 0) default).fr = (pv.getD (i + 1) 0 : Int) ∧ (n.Arcs.getD (es.getD i 0) default).to = (pv.getD i 0 : Int) := by
 induction h with
 | root r => intro i hi; simp at hi
 | step h1 h2 h3 h4 h5 h6 ih =>
  intro i hi
  cases i with
  | zero => exact ⟨h1, h2, h3, h4⟩
  | succ i =>
   have := ih i (by simpa using hi)
   simpa using this
structure DI (n : Net) (m : Nat) (f : List Int) (out : List (List Int)) (at_ : List Int) (dn : List Bool) : Prop where
  la : at_.length = m
  ld : dn.length = m
  lo : ∀ u, u < m → 0 ≤ at_.getD u 0 ∧ at_.getD u 0 ≤ ((out.getD u []).length : Int)
  rank : ∃ (ρ : Nat → Nat) (c : Nat), ∀ u, u < m → dn.getD u false = true → ρ u < c ∧ ∀ k, k < n.Arcs.length → 0 < f.getD k 0 → (n.Arcs.getD k default).fr = (u : Int) → dn.getD (n.Arcs.getD k default).to.toNat false = true ∧ ρ (n.Arcs.getD k default).to.toNat < ρ u
structure WI (n : Net) (m : Nat) (f : List Int) (out : List (List Int)) (r v : Nat) (pv es : List Nat) (at_ : List Int) (dn on : List Bool) (way : List Int) : Prop where
  di : DI n m f out at_ dn
  ch : Chain n f out at_ dn (v :: pv) es
  nd : (v :: pv).Nodup
  lt : ∀ u, u ∈ v :: pv → u < m
  way : way = es.reverse.map fun e : Nat => (e : Int)
  lon : on.length = m
  on : ∀ u, u < m → (on.getD u false = true ↔ u ∈ v :: pv)
  open_ : ∀ u, u ∈ v :: pv → dn.getD u false = false
  pst : past n out dn v (at_.getD v 0).toNat
  fresh : ∀ u, u < m → dn.getD u false = false → u ∉ v :: pv → at_.getD u 0 = 0
  root : ∃ pre, v :: pv = pre ++ [r]
structure EI (n : Net) (m : Nat) (f : List Int) (out : List (List Int)) (at_ : List Int) (dn on : List Bool) (way : List Int) : Prop where
  di : DI n m f out at_ dn
  way : way = []
  lon : on.length = m
  on : ∀ u, u < m → on.getD u false = false
  fresh : ∀ u, u < m → dn.getD u false = false → at_.getD u 0 = 0
theorem WI.begin {at_ : List Int} {dn on : List Bool} {way : List Int} {v : Nat} (h : EI n m f out at_ dn on way) (hv : v < m) (hd : dn.getD v false = false) : WI n m f out v v [] [] at_ dn (on.set v true) way := by
 refine ⟨h.di, .root v, by simp, fun u hu => ?_, h.way, by rw [List.length_set]; exact h.lon, fun u hu => ?_, fun u hu => ?_, fun j hj => ?_, fun u hu hdu _ => h.fresh u hu hdu, [], rfl⟩
 · rw [List.mem_singleton] at hu; subst hu; exact hv
 ·
  rw [Wo, h.lon, List.mem_singleton]
  by_cases e : v = u
  · rw [if_pos ⟨e, hv⟩]; exact ⟨fun _ => e.symm, fun _ => rfl⟩
  · rw [if_neg (fun h => e h.1), h.on u hu]; exact ⟨fun h => (by cases h), fun h => absurd h.symm e⟩
 · rw [List.mem_singleton] at hu; subst hu; exact hd
 · rw [h.fresh v hv hd] at hj; simp at hj
theorem WI.skip {r v q : Nat} {pv es : List Nat} {at_ : List Int} {dn on : List Bool} {way : List Int} (h : WI n m f out r v pv es at_ dn on way) (hq : at_.getD v 0 = (q : Int)) (hl : q < (out.getD v []).length)
    (hd : dn.getD (n.Arcs.getD ((out.getD v []).getD q 0).toNat default).to.toNat false = true) : WI n m f out r v pv es (at_.set v ((q : Int) + 1)) dn on way := by
  have hv := h.lt v (.head _)
  have hne : ∀ u, u ∈ pv → v ≠ u := fun u hu e => by subst e; exact (List.nodup_cons.1 h.nd).1 hu
  refine ⟨⟨by rw [List.length_set]; exact h.di.la, h.di.ld, fun u hu => ?_, h.di.rank⟩, h.ch.mono (fun _ h => h) (fun x hx => Vo (hne x hx)), h.nd, h.lt, h.way, h.lon, h.on, h.open_, ?_, fun u hu hdu hup => ?_, h.root⟩
  · have := h.di.lo u hu
    rw [Wo, h.di.la]
    split
    · rename_i e; rw [← e.1]; omega
    · exact this
  · rw [Kf (by rw [h.di.la]; exact hv)]
    intro j hj
    rcases Nat.lt_or_ge j q with h1 | h1
    · exact h.pst j (by rw [hq]; omega)
    · rw [show j = q by omega]; exact hd
  · have h1 : v ≠ u := fun e => hup (by rw [← e]; exact .head _)
    rw [Vo h1]; exact h.fresh u hu hdu hup
theorem WI.push {r v q w k : Nat} {pv es : List Nat} {at_ : List Int} {dn on : List Bool} {way : List Int} (h : WI n m f out r v pv es at_ dn on way) (hq : at_.getD v 0 = (q : Int)) (hl : q < (out.getD v []).length)
    (hk : (out.getD v []).getD q 0 = (k : Int)) (hkl : k < n.Arcs.length) (hf : 0 < f.getD k 0) (Vf : (n.Arcs.getD k default).fr = (v : Int)) (hto : (n.Arcs.getD k default).to = (w : Int)) (hw : w < m) (hon : on.getD w false = false) (hd : dn.getD w false = false) :
    WI n m f out r w (v :: pv) (k :: es) (at_.set v ((q : Int) + 1)) dn (on.set w true) (way ++ [(k : Int)]) := by
  have hv := h.lt v (.head _)
  have hwn : w ∉ v :: pv := fun hm => by have := (h.on w hw).2 hm; rw [hon] at this; cases this
  have hvw : v ≠ w := fun e => hwn (e ▸ .head _)
  have hne : ∀ u, u ∈ pv → v ≠ u := fun u hu e => by subst e; exact (List.nodup_cons.1 h.nd).1 hu
  have hw0 := h.fresh w hw hd hwn
  refine ⟨⟨by rw [List.length_set]; exact h.di.la, h.di.ld, fun u hu => ?_, h.di.rank⟩, .step hkl hf Vf hto ⟨q, by rw [Kf (by rw [h.di.la]; exact hv)]; omega, hk, fun j hj => h.pst j (by rw [hq]; omega)⟩ (h.ch.mono (fun _ h => h) (fun x hx => Vo (hne x hx))), List.nodup_cons.2 ⟨hwn, h.nd⟩, fun u hu => ?_, ?_, by rw [List.length_set]; exact h.lon, fun u hu => ?_, fun u hu => ?_, ?_, fun u hu hdu hup => ?_, (by obtain ⟨pre, e⟩ := h.root; exact ⟨w :: pre, by rw [e]; rfl⟩)⟩
  · have := h.di.lo u hu
    rw [Wo, h.di.la]
    split
    · rename_i e; rw [← e.1]; omega
    · exact this
  · rcases List.mem_cons.1 hu with rfl | hu
    · exact hw
    · exact h.lt u hu
  · rw [h.way, List.reverse_cons, List.map_append]; rfl
  · rw [Wo, h.lon]
    by_cases e : w = u
    · rw [if_pos ⟨e, hw⟩]; exact ⟨fun _ => e ▸ .head _, fun _ => rfl⟩
    · rw [if_neg (fun h => e h.1), h.on u hu]
      exact ⟨fun h => .tail _ h, fun h => by rcases List.mem_cons.1 h with h | h; (exact absurd h.symm e); exact h⟩
  · rcases List.mem_cons.1 hu with rfl | hu
    · exact hd
    · exact h.open_ u hu
  · rw [Vo hvw, hw0]; intro j hj; simp at hj
  · have h1 : v ≠ u := fun e => hup (e ▸ .tail _ (.head _))
    rw [Vo h1]; exact h.fresh u hu hdu (fun hm => hup (.tail _ hm))
theorem WI.fin {r v : Nat} {pv es : List Nat} {at_ : List Int} {dn on : List Bool} {way : List Int} (ho : OutIs n m f out) (h : WI n m f out r v pv es at_ dn on way) (hq : at_.getD v 0 = ((out.getD v []).length : Int)) :
    DI n m f out at_ (dn.set v true) := by
  have hv := h.lt v (.head _)
  have hdv := h.open_ v (.head _)
  obtain ⟨ρ, c, hρ⟩ := h.di.rank
  refine ⟨h.di.la, by rw [List.length_set]; exact h.di.ld, h.di.lo, fun x => if x = v then c else ρ x, c + 1, fun u hu hd => ?_⟩
  rw [Wo, h.di.ld] at hd
  by_cases e : v = u
  · subst e
    simp only [if_true]
    refine ⟨by omega, fun k hk hf Vf => ?_⟩
    obtain ⟨q, hq1, hq2⟩ := ho.in hv hk hf Vf
    have h1 := h.pst q (by rw [hq]; omega)
    rw [hq2, Int.toNat_natCast] at h1
    have h2 : (n.Arcs.getD k default).to.toNat ≠ v := fun e => by rw [e, hdv] at h1; cases h1
    have hlt : (n.Arcs.getD k default).to.toNat < m := by
      rcases Nat.lt_or_ge (n.Arcs.getD k default).to.toNat m with h3 | h3
      · exact h3
      · rw [List.getD_eq_getElem?_getD, List.getElem?_eq_none (by rw [h.di.ld]; exact h3)] at h1; cases h1
    rw [if_neg h2]
    exact ⟨by rw [Vo (Ne.symm h2)]; exact h1, (hρ _ hlt h1).1⟩
  · rw [if_neg (fun h => e h.1)] at hd
    obtain ⟨h1, h2⟩ := hρ u hu hd
    simp only [if_neg (show ¬ u = v from fun h => e h.symm)]
    refine ⟨by omega, fun k hk hf Vf => ?_⟩
    obtain ⟨h3, h4⟩ := h2 k hk hf Vf
    have h5 : (n.Arcs.getD k default).to.toNat ≠ v := fun e => by rw [e, hdv] at h3; cases h3
    rw [if_neg h5]
    exact ⟨by rw [Vo (Ne.symm h5)]; exact h3, h4⟩
theorem Zca {dn : List Bool} {v : Nat} : ∀ x, dn.getD x false = true → (dn.set v true).getD x false = true := by
 intro x hx
 rw [Wo]; split
 · rfl
 · exact hx
theorem WI.pop {r v u e : Nat} {ps es : List Nat} {at_ : List Int} {dn on : List Bool} {way : List Int} (ho : OutIs n m f out) (h : WI n m f out r v (u :: ps) (e :: es) at_ dn on way) (hq : at_.getD v 0 = ((out.getD v []).length : Int)) :
    WI n m f out r u ps es at_ (dn.set v true) (on.set v false) (es.reverse.map fun e : Nat => (e : Int)) ∧ (n.Arcs.getD e default).fr = (u : Int) ∧ e < n.Arcs.length := by
  have hv := h.lt v (.head _)
  have hfin := h.fin ho hq
  have hnd := List.nodup_cons.1 h.nd
  cases h.ch with
  | step h1 h2 h3 h4 h5 h6 =>
  obtain ⟨q, q1, q2, q3⟩ := h5
  refine ⟨⟨hfin, h6.mono Zca (fun _ _ => rfl), hnd.2, fun x hx => h.lt x (.tail _ hx), rfl, by rw [List.length_set]; exact h.lon, fun x hx => ?_, fun x hx => ?_, ?_, fun x hx hdx hup => ?_, ?_⟩, h3, h1⟩
  · rw [Wo, h.lon]
    by_cases e : v = x
    · subst e; rw [if_pos ⟨rfl, hv⟩]; exact ⟨fun h => (by cases h), fun hm => absurd hm hnd.1⟩
    · rw [if_neg (fun h => e h.1), h.on x hx]
      exact ⟨fun h => by rcases List.mem_cons.1 h with h | h; (exact absurd h.symm e); exact h, fun h => .tail _ h⟩
  · have h1 : v ≠ x := fun e => hnd.1 (by rw [e]; exact hx)
    rw [Vo h1]; exact h.open_ x (.tail _ hx)
  · rw [q1, Int.toNat_natCast]
    intro j hj
    rcases Nat.lt_or_ge j q with h7 | h7
    · exact Zca _ (q3 j h7)
    · rw [show j = q by omega, q2, Int.toNat_natCast, h4, Int.toNat_natCast]
      exact Kf (by rw [h.di.ld]; exact hv)
  · have hxv : v ≠ x := fun e => by subst e; rw [Kf (by rw [h.di.ld]; exact hv)] at hdx; cases hdx
    rw [Vo hxv] at hdx
    exact h.fresh x hx hdx (fun hm => by rcases List.mem_cons.1 hm with h | h; (exact hxv h.symm); exact hup h)
  · obtain ⟨pre, e⟩ := h.root
    cases pre with
    | nil => simp at e
    | cons x pre => exact ⟨pre, by simpa using (List.cons.inj e).2⟩
theorem WI.last {r v : Nat} {at_ : List Int} {dn on : List Bool} {way : List Int} (ho : OutIs n m f out) (h : WI n m f out r v [] [] at_ dn on way) (hq : at_.getD v 0 = ((out.getD v []).length : Int)) :
    EI n m f out at_ (dn.set v true) (on.set v false) way ∧ (dn.set v true).getD r false = true := by
  have hv := h.lt v (.head _)
  have hrv : r = v := by
    obtain ⟨pre, e⟩ := h.root
    cases pre with
    | nil => simpa using e.symm
    | cons x pre => simp at e
  refine ⟨⟨h.fin ho hq, by rw [h.way]; rfl, by rw [List.length_set]; exact h.lon, fun u hu => ?_, fun u hu hd => ?_⟩, by rw [hrv]; exact Kf (by rw [h.di.ld]; exact hv)⟩
  · rw [Wo, h.lon]
    by_cases e : v = u
    · rw [if_pos ⟨e, hv⟩]
    · rw [if_neg (fun h => e h.1), Bool.eq_false_iff]
      intro h1
      have := (h.on u hu).1 h1
      rw [List.mem_singleton] at this; exact e this.symm
  · have hxv : v ≠ u := fun e => by subst e; rw [Kf (by rw [h.di.ld]; exact hv)] at hd; cases hd
    rw [Vo hxv] at hd
    exact h.fresh u hu hd (by rw [List.mem_singleton]; exact fun e => hxv e.symm)
end dfs
end Go.Acq
namespace Go.Acq
open Go
theorem appR {α : Type} {xs ys : List α} {i : Nat} {d : α} (h : xs.length ≤ i) : (xs ++ ys).getD i d = ys.getD (i - xs.length) d := by
 rw [List.getD_eq_getElem?_getD, List.getElem?_append_right h, ← List.getD_eq_getElem?_getD]
theorem appL {α : Type} {xs ys : List α} {i : Nat} {d : α} (h : i < xs.length) : (xs ++ ys).getD i d = xs.getD i d := by
 rw [List.getD_eq_getElem?_getD, List.getElem?_append_left h, ← List.getD_eq_getElem?_getD]
def Kp : List Int → Int
  | [] => 0
  | x :: xs => x + Kp xs
def cT : List Bool → Nat
  | [] => 0
  | b :: bs => (if b = true then 1 else 0) + cT bs
theorem Zb6 : ∀ {xs : List Int} {i : Nat} {y : Int}, i < xs.length → Kp (xs.set i y) = Kp xs - xs.getD i 0 + y
 | [], i, y, h => by simp at h
 | x :: xs, 0, y, _ => by simp [Kp]; omega
 | x :: xs, i + 1, y, h => by
  have := Zb6 (xs := xs) (i := i) (y := y) (by simpa using h)
  simp only [List.set_cons_succ, Kp, this, List.getD_cons_succ]; omega
theorem smI_le {B : Nat} : ∀ {xs : List Int}, (∀ i, i < xs.length → 0 ≤ xs.getD i 0 ∧ xs.getD i 0 ≤ B) → 0 ≤ Kp xs ∧ Kp xs ≤ (xs.length * B : Nat)
 | [], _ => by simp [Kp]
 | x :: xs, h => by
  have h1 := smI_le (B := B) (xs := xs) (fun i hi => by have := h (i + 1) (by simpa using hi); simpa using this)
  have h2 := h 0 (by simp)
  simp only [List.getD_cons_zero] at h2
  simp only [Kp, List.length_cons, Nat.add_mul, Nat.one_mul]
  omega
theorem cT_le : ∀ bs : List Bool, cT bs ≤ bs.length
 | [] => Nat.le_refl _
 | b :: bs => by have := cT_le bs; simp only [cT, List.length_cons]; split <;> omega
theorem cT_set : ∀ {bs : List Bool} {i : Nat}, i < bs.length → bs.getD i false = false → cT (bs.set i true) = cT bs + 1
 | [], i, h, _ => by simp at h
 | b :: bs, 0, _, h => by simp only [List.getD_cons_zero] at h; subst h; simp [cT]; omega
 | b :: bs, i + 1, h, hb => by
  have := cT_set (bs := bs) (i := i) (by simpa using h) (by simpa using hb)
  simp only [List.set_cons_succ, cT, this]; omega
section
variable {n : Net} {m : Nat} {f : List Int} {out : List (List Int)}
theorem s_closes {way at_ : List Int} {dn on : List Bool} {w : Int} {k : Int} (hl : way.length ≤ 4096) (hin : ∀ j, j < (way ++ [k]).length → ∃ a : Nat, (way ++ [k]).getD j 0 = a ∧ a < n.Arcs.length)
    (hex : ∃ j, j < (way ++ [k]).length ∧ (n.Arcs.getD ((way ++ [k]).getD j 0).toNat default).fr = w) :
    Ok (Z6i (CyclesSearch.mk n out at_ dn on way) w k) (fun c => ∃ i, i < (way ++ [k]).length ∧ c = (way ++ [k]).drop i ∧ (n.Arcs.getD ((way ++ [k]).getD i 0).toNat default).fr = w) := by
  have hl2 : (way ++ [k]).length = way.length + 1 := by simp
  unfold Z6i
  have hc : Ln way = some way := by
    refine Jl ?_
    unfold Ln
    exact Ok.gd.2 ⟨by constructor <;> omega, Ok.some.2 rfl⟩
  refine Ok.bind.2 (Vl hc (Ok.gd.2 ⟨by rw [hl2]; constructor <;> omega, Ok.bind.2 ?_⟩))
  generalize hws : way ++ [k] = ws at *
  unfold Z8s
  refine Ok.bind.2 (Wy (fun x => ∃ i : Nat, x = i ∧ i ≤ ws.length ∧ ∀ j, j < i → (n.Arcs.getD (ws.getD j 0).toNat default).fr ≠ w) (fun x => (ws.length - x).toNat) ⟨0, rfl, by omega, fun j hj => by omega⟩ (by unfold Yc; omega) ?_)
  rintro x ⟨i, rfl, hi, hno⟩ P next exit
  unfold Z3n
  simp only [Int.toNat_natCast]
  refine Ok.ite.2 ⟨fun hx => ?_, fun hx => ?_⟩
  · obtain ⟨a, ha, hal⟩ := hin i (by omega)
    refine Ok.gd.2 ⟨(by constructor <;> omega), Ok.bind.2 ?_⟩
    unfold Z79
    rw [ha]
    refine Ok.gd.2 ⟨by show inb (a : Int) n.Arcs.length; constructor <;> omega, Ok.some.2 ?_⟩
    simp only [Int.toNat_natCast]
    refine Ok.ite.2 ⟨fun h => Ok.some.2 (exit _ ?_), fun h => Ok.gd.2 ⟨(by constructor <;> omega), Ok.some.2 (next _ ⟨i + 1, by simp, by omega, fun j hj => ?_⟩ (by omega))⟩⟩
    · have h := of_decide_eq_true h
      refine Ok.some.2 (Ok.gd.2 ⟨(by constructor <;> omega), Ok.some.2 ?_⟩)
      rw [Int.toNat_natCast]
      exact ⟨i, by omega, rfl, by rw [ha, Int.toNat_natCast]; exact h⟩
    · rcases Nat.lt_or_ge j i with h1 | h1
      · exact hno j h1
      · rw [show j = i by omega, ha, Int.toNat_natCast]; exact fun e => h (decide_eq_true e)
  · obtain ⟨j, hj, e⟩ := hex
    exact absurd e (hno j (by omega))
theorem WI.cyc {r v k w i : Nat} {pv es : List Nat} {at_ : List Int} {dn on : List Bool} {way : List Int} (h : WI n m f out r v pv es at_ dn on way) (hkl : k < n.Arcs.length) (hf : 0 < f.getD k 0) (Vf : (n.Arcs.getD k default).fr = (v : Int)) (hto : (n.Arcs.getD k default).to = (w : Int)) (hw : w < m) (hon : on.getD w false = true) :
    (∀ j, j < (way ++ [(k : Int)]).length → ∃ a : Nat, (way ++ [(k : Int)]).getD j 0 = a ∧ a < n.Arcs.length) ∧
    (∃ j, j < (way ++ [(k : Int)]).length ∧ (n.Arcs.getD ((way ++ [(k : Int)]).getD j 0).toNat default).fr = (w : Int)) ∧
    (i < (way ++ [(k : Int)]).length → (n.Arcs.getD ((way ++ [(k : Int)]).getD i 0).toNat default).fr = (w : Int) → Cyc n f ((way ++ [(k : Int)]).drop i)) := by
  have hlen := h.ch.len
  simp only [List.length_cons] at hlen
  have hat := h.ch.at
  have hwl : way.length = es.length := by rw [h.way]; simp
  have hwsl : (way ++ [(k : Int)]).length = es.length + 1 := by simp [hwl]
  have key : ∀ j, j < es.length + 1 → ∃ a : Nat, (way ++ [(k : Int)]).getD j 0 = a ∧ a < n.Arcs.length ∧ 0 < f.getD a 0 ∧ (n.Arcs.getD a default).fr = ((v :: pv).getD (es.length - j) 0 : Int) ∧ (n.Arcs.getD a default).to = (if j = es.length then (w : Int) else ((v :: pv).getD (es.length - (j + 1)) 0 : Int)) := by
    intro j hj
    by_cases e : j = es.length
    · refine ⟨k, by rw [appR (by omega), hwl, e]; simp, hkl, hf, ?_, by rw [if_pos e]; exact hto⟩
      rw [e, Nat.sub_self]; exact Vf
    · obtain ⟨h1, h2, h3, h4⟩ := hat (es.length - (j + 1)) (by omega)
      refine ⟨es.getD (es.length - (j + 1)) 0, ?_, h1, h2, ?_, by rw [if_neg e]; exact h4⟩
      · rw [appL (by omega), h.way, List.getD_eq_getElem?_getD, List.getElem?_map, List.getElem?_reverse (by omega), List.getD_eq_getElem?_getD, show es.length - 1 - j = es.length - (j + 1) by omega, List.getElem?_eq_getElem (by omega)]
        rfl
      · rw [h3, show es.length - (j + 1) + 1 = es.length - j by omega]
  have hinj : ∀ a b, a < es.length + 1 → b < es.length + 1 → (v :: pv).getD a 0 = (v :: pv).getD b 0 → a = b := by
    intro a b ha hb e
    have hl : (v :: pv).length = es.length + 1 := by simp [hlen]
    rw [List.getD_eq_getElem?_getD, List.getD_eq_getElem?_getD, List.getElem?_eq_getElem (by omega), List.getElem?_eq_getElem (by omega)] at e
    exact (List.getElem_inj h.nd).1 e
  refine ⟨fun j hj => ?_, ?_, fun hi hfi => ?_⟩
  · obtain ⟨a, h1, h2, -⟩ := key j (by omega)
    exact ⟨a, h1, h2⟩
  · obtain ⟨p, hp, e⟩ := List.getElem_of_mem ((h.on w hw).1 hon)
    have hp2 : p < es.length + 1 := by simp at hp; omega
    refine ⟨es.length - p, by omega, ?_⟩
    obtain ⟨a, h1, h2, h3, h4, -⟩ := key (es.length - p) (by omega)
    rw [h1, Int.toNat_natCast, h4, show es.length - (es.length - p) = p by omega, List.getD_eq_getElem?_getD, List.getElem?_eq_getElem hp, e]; rfl
  · have hdl : ((way ++ [(k : Int)]).drop i).length = es.length + 1 - i := by rw [List.length_drop, hwsl]
    have hdg : ∀ j, ((way ++ [(k : Int)]).drop i).getD j 0 = (way ++ [(k : Int)]).getD (i + j) 0 := fun j => by
      rw [List.getD_eq_getElem?_getD, List.getElem?_drop, ← List.getD_eq_getElem?_getD]
    refine ⟨by omega, fun j hj => ?_, fun a b ha hb e => ?_⟩
    · rw [hdl] at hj ⊢
      obtain ⟨a, h1, h2, h3, h4, h5⟩ := key (i + j) (by omega)
      refine ⟨a, by rw [hdg]; exact h1, h2, h3, ?_⟩
      rw [h5, hdg]
      by_cases hj2 : j + 1 = es.length + 1 - i
      · rw [if_pos (by omega), hj2, Nat.mod_self, Nat.add_zero]; exact hfi.symm
      · rw [if_neg (by omega), Nat.mod_eq_of_lt (by omega)]
        obtain ⟨b, g1, g2, g3, g4, -⟩ := key (i + (j + 1)) (by omega)
        rw [g1, Int.toNat_natCast, g4]
        congr 2
    · rw [hdl] at ha hb
      rw [hdg, hdg] at e
      obtain ⟨x, h1, h2, h3, h4, -⟩ := key (i + a) (by omega)
      obtain ⟨y, g1, g2, g3, g4, -⟩ := key (i + b) (by omega)
      rw [h1, g1, Int.toNat_natCast, Int.toNat_natCast, h4, g4] at e
      have := hinj _ _ (by omega) (by omega) (Int.natCast_inj.1 e)
      omega
end
end Go.Acq
namespace Go.Acq
open Go
section
variable {n : Net} {m : Nat} {f : List Int} {out : List (List Int)}
theorem DI.sm {at_ : List Int} {dn : List Bool} (ho : OutIs n m f out) (h : DI n m f out at_ dn) : 0 ≤ Kp at_ ∧ Kp at_ ≤ ((m * n.Arcs.length : Nat) : Int) := by
 have := smI_le (B := n.Arcs.length) (xs := at_) (fun i hi => by
  rw [h.la] at hi
  have h1 := h.lo i hi
  have h2 := ho.len hi
  omega)
 rw [h.la] at this
 exact this
theorem s_inFrom {A : List Int} {D O : List Bool} {W : List Int} (hm2 : m ≤ 4096) (hl : n.Arcs.length ≤ 16384) (he : Vh m n.Arcs) (ho : OutIs n m f out) {r v : Nat} {pv es : List Nat} {at0 : List Int} {dn on : List Bool} {way : List Int} (h : WI n m f out r v pv es at0 dn on way) :
    Ok (Ym (fun s => Z31 (CyclesSearch.mk n out A D O W) (v : Int) dn on way s) Yc at0) (fun o => match o with
      | .inl (c, _) => Cyc n f c
      | .inr (.inl (w, at', dn', on', way')) => ∃ w' k : Nat, w = w' ∧ dn' = dn ∧ WI n m f out r w' (v :: pv) (k :: es) at' dn on' way' ∧ Kp at0 < Kp at'
      | .inr (.inr at') => WI n m f out r v pv es at' dn on way ∧ at'.getD v 0 = ((out.getD v []).length : Int) ∧ Kp at0 ≤ Kp at') := by
  have hv := h.lt v (.head _)
  have hlo := ho.len hv
  have h1 := h.ch.len
  have hwl : way.length = es.length := by rw [h.way]; simp
  have hpl : es.length + 1 ≤ m := by
    have := List.Nodup.length_le_of_subset h.nd (l₂ := List.range m) (fun u hu => List.mem_range.2 (h.lt u hu))
    rw [h1, List.length_range] at this; exact this
  refine Wy (fun a => WI n m f out r v pv es a dn on way ∧ Kp at0 ≤ Kp a) (fun a => ((out.getD v []).length - a.getD v 0).toNat) ⟨h, Int.le_refl _⟩ (by
    have := (h.di.lo v hv).1
    unfold Yc; omega) ?_
  rintro a ⟨hW, hs⟩ P next exit
  unfold Z31
  have hal := hW.di.la
  have hdl := hW.di.ld
  have hol := hW.lon
  have hoo := ho.1
  obtain ⟨q, hq⟩ : ∃ q : Nat, a.getD v 0 = (q : Int) := ⟨(a.getD v 0).toNat, (Int.toNat_of_nonneg (hW.di.lo v hv).1).symm⟩
  simp only [Int.toNat_natCast, hq]
  refine Ok.gd.2 ⟨(by constructor <;> omega), Ok.gd.2 ⟨(by constructor <;> omega), Ok.ite.2 ⟨fun hx => ?_, fun hx => ?_⟩⟩⟩
  · have hql : q < (out.getD v []).length := by omega
    obtain ⟨k, hk, hkl, hf, Vf⟩ := ho.at hv hql
    have e1 := he k hkl true
    simp only [Yw, if_true] at e1
    obtain ⟨w, hto⟩ : ∃ w : Nat, (n.Arcs.getD k default).to = (w : Int) := ⟨(n.Arcs.getD k default).to.toNat, by omega⟩
    have hw : w < m := by omega
    simp only [hk, hto, Int.toNat_natCast]
    refine Ok.gd.2 ⟨(by constructor <;> omega), Ok.gd.2 ⟨(by constructor <;> omega), Ok.gd.2 ⟨(by constructor <;> omega), Ok.gd.2 ⟨(by constructor <;> omega), Ok.gd.2 ⟨(by constructor <;> omega), Ok.gd.2 ⟨(by constructor <;> omega), Ok.gd.2 ⟨(by constructor <;> omega), Ok.gd.2 ⟨(by constructor <;> omega), Ok.ite.2 ⟨fun hon => ?_, fun hon => Ok.gd.2 ⟨(by constructor <;> omega), Ok.ite.2 ⟨fun hd => ?_, fun hd => ?_⟩⟩⟩⟩⟩⟩⟩⟩⟩⟩⟩
    · obtain ⟨c1, c2, c3⟩ := hW.cyc (i := 0) hkl hf Vf hto hw hon
      refine Ok.bind.2 (Ok.mono (s_closes (by omega) c1 c2) ?_)
      rintro c ⟨i, hi, rfl, hfi⟩
      exact Ok.some.2 (exit _ ((hW.cyc (i := i) hkl hf Vf hto hw hon).2.2 hi hfi))
    · have hdw : dn.getD w false = false := by simpa using hd
      have hp := hW.push hq hql hk hkl hf Vf hto hw (Bool.eq_false_iff.2 hon) hdw
      refine Ok.gd.2 ⟨by simp only [List.length_append, List.length_singleton]; constructor <;> omega, Ok.gd.2 ⟨(by constructor <;> omega), Ok.some.2 (exit _ ⟨w, k, rfl, rfl, hp, ?_⟩)⟩⟩
      rw [Zb6 (by omega), hq]; omega
    · have hdw : dn.getD w false = true := by simpa using hd
      have hp := hW.skip hq hql (by rw [hk, Int.toNat_natCast, hto, Int.toNat_natCast]; exact hdw)
      refine Ok.some.2 (next _ ⟨hp, ?_⟩ ?_)
      · rw [Zb6 (by omega), hq]; omega
      · rw [Kf (by omega), hq]; omega
  · have := hW.di.lo v hv
    exact Ok.some.2 (exit _ ⟨hW, by omega, hs⟩)
theorem s_from (hm2 : m ≤ 4096) (hl : n.Arcs.length ≤ 16384) (he : Vh m n.Arcs) (ho : OutIs n m f out) {v : Nat} {at0 : List Int} {dn0 on0 : List Bool} {way0 : List Int} (h : EI n m f out at0 dn0 on0 way0) (hv : v < m) (hd : dn0.getD v false = false) :
    Ok (Z4a (CyclesSearch.mk n out at0 dn0 on0 way0) v) (fun r => Cyc n f r.1 ∨ (r.1 = [] ∧ ∃ at' dn' on', r.2 = CyclesSearch.mk n out at' dn' on' [] ∧ EI n m f out at' dn' on' [] ∧ dn'.getD v false = true ∧ ∀ u, dn0.getD u false = true → dn'.getD u false = true)) := by
  have hlon := h.lon
  have hML : m * n.Arcs.length ≤ 4096 * 16384 := Nat.mul_le_mul hm2 hl
  unfold Z4a
  refine Ok.gd.2 ⟨by show inb (v : Int) on0.length; constructor <;> omega, Ok.bind.2 ?_⟩
  simp only [Int.toNat_natCast]
  refine Wy (fun s => (∀ u, dn0.getD u false = true → s.2.2.1.getD u false = true) ∧ ((∃ (w : Nat) (pv es : List Nat), s.1 = w ∧ WI n m f out v w pv es s.2.1 s.2.2.1 s.2.2.2.1 s.2.2.2.2) ∨ (s.1 = -1 ∧ EI n m f out s.2.1 s.2.2.1 s.2.2.2.1 s.2.2.2.2 ∧ s.2.2.1.getD v false = true)))
    (fun s => (((m * n.Arcs.length : Nat) : Int) - Kp s.2.1).toNat + (m - cT s.2.2.1)) ⟨fun u hu => hu, .inl ⟨v, [], [], rfl, WI.begin h hv hd⟩⟩ (by
      have := h.di.sm ho
      unfold Yc; simp only; omega) ?_
  rintro ⟨x, a, dn, on, way⟩ ⟨hmo, hI⟩ P next exit
  simp only at hmo hI next ⊢
  unfold Z3u
  rcases hI with ⟨w, pv, es, rfl, hW⟩ | ⟨rfl, hE, hdv⟩
  · refine Ok.ite.2 ⟨fun _ => ?_, fun hx => absurd (Int.natCast_nonneg w) hx⟩
    refine Ok.bind.2 (Ok.mono (s_inFrom hm2 hl he ho hW) ?_)
    have hsm := hW.di.sm ho
    rintro (⟨c, st⟩ | ⟨w2, at', dn', on', way'⟩ | at') hr
    · exact Ok.some.2 (exit _ (Ok.some.2 (.inl hr)))
    · obtain ⟨w', k, rfl, rfl, hW', hlt⟩ := hr
      have hsm' := hW'.di.sm ho
      exact Ok.some.2 (next _ ⟨hmo, .inl ⟨w', w :: pv, k :: es, rfl, hW'⟩⟩ (by simp only; omega))
    · obtain ⟨hW', hfull, hle⟩ := hr
      have hsm' := hW'.di.sm ho
      have hwm := hW'.lt w (.head _)
      have hdw := hW'.open_ w (.head _)
      have hdl := hW'.di.ld
      have hol := hW'.lon
      have hcs := cT_set (bs := dn) (i := w) (by omega) hdw
      have hcl := cT_le (dn.set w true)
      rw [List.length_set, hdl] at hcl
      have hmo' : ∀ u, dn0.getD u false = true → (dn.set w true).getD u false = true := fun u hu => Zca u (hmo u hu)
      have hway := hW'.way
      have hch := hW'.ch.len
      unfold Z8z Z9f
      simp only [Int.toNat_natCast]
      cases es with
      | nil =>
        have hpv : pv = [] := by simpa using hch
        subst hpv
        obtain ⟨hE, hdr⟩ := hW'.last ho hfull
        refine Ok.bind.2 (Ok.gd.2 ⟨(by constructor <;> omega), Ok.gd.2 ⟨(by constructor <;> omega), Ok.ite.2 ⟨fun _ => Ok.some.2 ?_, fun hx => absurd (by rw [hway]; rfl) hx⟩⟩⟩)
        exact Ok.some.2 (next _ ⟨hmo', .inr ⟨rfl, hE, hdr⟩⟩ (by simp only; omega))
      | cons e es =>
        cases pv with
        | nil => simp at hch
        | cons u ps =>
          obtain ⟨hW2, Vf, hel⟩ := hW'.pop ho hfull
          have hwl : way.length = es.length + 1 := by rw [hway]; simp
          have hpl := List.Nodup.length_le_of_subset hW'.nd (l₂ := List.range m) (fun u hu => List.mem_range.2 (hW'.lt u hu))
          rw [hch, List.length_range, List.length_cons] at hpl
          have hlast : way.getD es.length 0 = (e : Int) := by
            rw [hway, List.getD_eq_getElem?_getD, List.getElem?_map, List.reverse_cons, List.getElem?_append_right (by simp)]
            simp
          have htake : way.take es.length = es.reverse.map fun e : Nat => (e : Int) := by
            rw [hway, List.reverse_cons, List.map_append, List.take_left' (by simp)]
          have hi : ((way.length : Int) - 1).toNat = es.length := by omega
          refine Ok.bind.2 (Ok.gd.2 ⟨(by constructor <;> omega), Ok.gd.2 ⟨(by constructor <;> omega), Ok.ite.2 ⟨fun hx => absurd hx (by omega), fun _ => ?_⟩⟩⟩)
          simp only [hi, hlast, Int.toNat_natCast, htake, Vf]
          refine Ok.gd.2 ⟨(by constructor <;> omega), Ok.gd.2 ⟨(by constructor <;> omega), Ok.gd.2 ⟨(by constructor <;> omega), Ok.gd.2 ⟨(by constructor <;> omega), Ok.gd.2 ⟨by show inb (e : Int) n.Arcs.length; constructor <;> omega, Ok.some.2 ?_⟩⟩⟩⟩⟩
          exact Ok.some.2 (next _ ⟨hmo', .inl ⟨u, ps, es, rfl, hW2⟩⟩ (by simp only; omega))
  · refine Ok.ite.2 ⟨fun hx => absurd hx (by omega), fun _ => Ok.some.2 (exit _ ?_)⟩
    unfold Z98
    have := hE.way
    subst this
    exact Ok.some.2 (.inr ⟨rfl, a, dn, on, rfl, hE, hdv, hmo⟩)
theorem s_first (hm : n.N = m) (hm2 : m ≤ 4096) (hl : n.Arcs.length ≤ 16384) (he : Vh m n.Arcs) (hf : f.length = n.Arcs.length) :
    Ok (Z1k n f) (fun r => Cyc n f r ∨ (r = [] ∧ Acyc n f)) := by
  unfold Z1k
  refine Ok.bind.2 (Ok.mono (Zeg hm hm2 he hl hf) ?_)
  rintro s ⟨out, rfl, ho⟩
  simp only
  refine Ok.bind.2 (Wy (fun s => ∃ k : Nat, s.2.2.2.2 = k ∧ k ≤ m ∧ EI n m f out s.1 s.2.1 s.2.2.1 s.2.2.2.1 ∧ ∀ u, u < k → s.2.1.getD u false = true) (fun s => (m - s.2.2.2.2).toNat)
    ⟨0, rfl, by omega, ⟨⟨List.length_replicate, List.length_replicate, fun u hu => by rw [Ke]; omega, fun _ => 0, 0, fun u hu hd => (by rw [Ke] at hd; cases hd)⟩, rfl, List.length_replicate, fun u _ => Ke .., fun u _ _ => Ke ..⟩, fun u hu => by omega⟩ (by unfold Yc; simp only; omega) ?_)
  rintro ⟨a, dn, on, way, x⟩ ⟨k, h1, hk, hE, hdn⟩ P next exit
  simp only at h1 hE hdn next ⊢
  subst h1
  have hdl := hE.di.ld
  unfold Z3q
  simp only [Int.toNat_natCast]
  refine Ok.ite.2 ⟨fun hx => ?_, fun hx => ?_⟩
  · refine Ok.gd.2 ⟨(by constructor <;> omega), Ok.ite.2 ⟨fun hd => ?_, fun hd => ?_⟩⟩
    · refine Ok.gd.2 ⟨(by constructor <;> omega), Ok.some.2 (next _ ⟨k + 1, by simp, by omega, hE, fun u hu => ?_⟩ (by simp only; omega))⟩
      rcases Nat.lt_or_ge u k with h | h
      · exact hdn u h
      · rw [show u = k by omega]; exact hd
    · have hw := hE.way
      subst hw
      refine Ok.bind.2 (Ok.mono (s_from (v := k) hm2 hl he ho hE (by omega) (Bool.eq_false_iff.2 hd)) ?_)
      rintro ⟨c, st⟩ (hc | ⟨h1, a', dn', on', h2, hE', hd', hmo⟩)
      · simp only at hc ⊢
        exact Ok.ite.2 ⟨fun _ => Ok.some.2 (exit _ (Ok.some.2 (.inl hc))), fun h => absurd (by have := hc.1; omega) h⟩
      · simp only at h1 h2 ⊢
        subst h1; subst h2
        refine Ok.ite.2 ⟨fun h => absurd h (by simp), fun _ => Ok.gd.2 ⟨(by constructor <;> omega), Ok.some.2 (next _ ⟨k + 1, by simp, by omega, hE', fun u hu => ?_⟩ (by simp only; omega))⟩⟩
        rcases Nat.lt_or_ge u k with h | h
        · exact hmo u (hdn u h)
        · rw [show u = k by omega]; exact hd'
  · refine Ok.some.2 (exit _ ?_)
    unfold Z9j
    refine Ok.some.2 (.inr ⟨rfl, ?_⟩)
    obtain ⟨ρ, c, hρ⟩ := hE.di.rank
    refine ⟨ρ, fun j hj hfj => ?_⟩
    have e0 := he j hj false
    simp only [Yw, Bool.false_eq_true, if_false] at e0
    have hu : (n.Arcs.getD j default).fr.toNat < m := by omega
    exact ((hρ _ hu (hdn _ (by omega))).2 j hj hfj (by omega)).2
theorem FwithinP.vert {n : Net} {f : List Int} (h : FwithinP n f) : ∃ m : Nat, n.N = m ∧ 2 ≤ m ∧ m ≤ 4096 ∧ n.Arcs.length ≤ 16384 ∧ Vh m n.Arcs ∧ f.length = n.Arcs.length := by
 have hz := Un h.1
 obtain ⟨m, hm⟩ : ∃ m : Nat, n.N = m := ⟨n.N.toNat, by omega⟩
 exact ⟨m, hm, by omega, by omega, by omega, Z17 (by rw [← hm]; exact hz.2.2.2.1), h.2.1⟩
end
end Go.Acq
namespace Go.Acq
open Go
def Jt (al : List Arc) (f : List Int) (rem : Nat → Bool) (w : Nat) : Nat → Nat
  | 0 => 0
  | k + 1 => Jt al f rem w k + (if 0 < f.getD k 0 ∧ (al.getD k default).to = (w : Int) ∧ rem k = false then 1 else 0)
theorem Zav {al : List Arc} {f : List Int} {rem : Nat → Bool} {w : Nat} : ∀ k, Jt al f rem w k ≤ k
 | 0 => Nat.le_refl _
 | k + 1 => by have := Zav (al := al) (f := f) (rem := rem) (w := w) k; simp only [Jt]; split <;> omega
theorem Zaf {al : List Arc} {f : List Int} {rem rem' : Nat → Bool} {w : Nat} : ∀ {K : Nat}, (∀ k, k < K → 0 < f.getD k 0 → rem' k = rem k) → Jt al f rem' w K = Jt al f rem w K
 | 0, _ => rfl
 | K + 1, h => by
  simp only [Jt]
  rw [Zaf (K := K) fun k hk => h k (by omega)]
  by_cases hf : 0 < f.getD K 0
  · rw [h K (by omega) hf]
  · rw [if_neg (fun h => hf h.1), if_neg (fun h => hf h.1)]
theorem Zb5 {al : List Arc} {f : List Int} {rem rem' : Nat → Bool} {w k0 : Nat} : ∀ {K : Nat}, k0 < K → 0 < f.getD k0 0 → rem k0 = true → rem' k0 = false → (∀ k, k < K → k ≠ k0 → 0 < f.getD k 0 → rem' k = rem k) →
    Jt al f rem' w K = Jt al f rem w K + if (al.getD k0 default).to = (w : Int) then 1 else 0
  | 0, h, _, _, _, _ => by omega
  | K + 1, h, hf, h1, h2, h3 => by
    simp only [Jt]
    by_cases e : k0 = K
    · subst e
      have e0 : (if 0 < f.getD k0 0 ∧ (al.getD k0 default).to = (w : Int) ∧ rem k0 = false then 1 else 0) = 0 := if_neg (fun h => (by rw [h1] at h; cases h.2.2))
      rw [Zaf (K := k0) (rem := rem) fun k hk => h3 k (by omega) (by omega), e0]
      by_cases hw : (al.getD k0 default).to = (w : Int)
      · rw [if_pos ⟨hf, hw, h2⟩, if_pos hw]
      · rw [if_neg (fun h => hw h.2.1), if_neg hw]
    · rw [Zb5 (K := K) (by omega) hf h1 h2 fun k hk => h3 k (by omega)]
      by_cases hfK : 0 < f.getD K 0
      · rw [h3 K (by omega) (fun h => e h.symm) hfK]; omega
      · have e1 : ∀ b : Bool, (if 0 < f.getD K 0 ∧ (al.getD K default).to = (w : Int) ∧ b = false then 1 else 0) = 0 := fun b => if_neg (fun h => hfK h.1)
        rw [e1, e1]; omega
theorem cntIn_zero {al : List Arc} {f : List Int} {rem : Nat → Bool} {w : Nat} : ∀ {K : Nat}, Jt al f rem w K = 0 ↔ ∀ k, k < K → 0 < f.getD k 0 → (al.getD k default).to = (w : Int) → rem k = true
 | 0 => ⟨fun _ k hk => by omega, fun _ => rfl⟩
 | K + 1 => by
  have ih := cntIn_zero (al := al) (f := f) (rem := rem) (w := w) (K := K)
  simp only [Jt]
  constructor
  ·
   intro h k hk hf ht
   by_cases e : k = K
   ·
    subst e
    cases hr : rem k with
    | true => rfl
    | false => rw [if_pos ⟨hf, ht, hr⟩] at h; omega
   · exact ih.1 (by omega) k (by omega) hf ht
  ·
   intro h
   rw [ih.2 fun k hk => h k (by omega), if_neg (fun g => by have := h K (by omega) g.1 g.2.1; rw [this] at g; cases g.2.2)]
theorem s_BinS {xs : List Int} {w : Int} (hl : xs.length ≤ 1000000000) : Ok (Z4q xs w) (fun r => 0 ≤ r.1 ∧ r.1 ≤ (xs.length : Int)) := by
 unfold Z4q
 refine Ok.bind.2 (Wy (fun s => 0 ≤ s.1 ∧ s.1 ≤ s.2 ∧ s.2 ≤ (xs.length : Int)) (fun s => (s.2 - s.1).toNat) ⟨by simp, by simp, by simp⟩ (by unfold Yc; simp only; omega) ?_)
 rintro ⟨i, j⟩ ⟨h1, h2, h3⟩ P next exit
 simp only at h1 h2 h3 next ⊢
 unfold Z4g
 have hless : ∀ x y : Int, ∃ b, Z51 x y = some b := fun x y => by
  unfold Z51 Z5f
  simp [Option.bind]
 have hh : i < j → i ≤ Int.fdiv (i + j) (2 ^ 1) ∧ Int.fdiv (i + j) (2 ^ 1) < j := fun h => by
  rw [Int.fdiv_eq_ediv_of_nonneg _ (by omega)]
  omega
 refine Ok.ite.2 ⟨fun hx => ?_, fun hx => Ok.some.2 (exit _ ?_)⟩
 ·
  obtain ⟨g1, g2⟩ := hh hx
  obtain ⟨b, hb⟩ := hless (xs.getD (Int.fdiv (i + j) (2 ^ 1)).toNat 0) w
  refine Ok.gd.2 ⟨(by constructor <;> omega), Ok.gd.2 ⟨by constructor <;> omega, Ok.gd.2 ⟨(by constructor <;> omega), Ok.gd.2 ⟨(by constructor <;> omega), Ok.bind.2 (Vl hb (Ok.ite.2 ⟨fun _ => Ok.gd.2 ⟨(by constructor <;> omega), Ok.some.2 (next _ ⟨by simp only; omega, by simp only; omega, h3⟩ (by simp only; omega))⟩, fun _ => Ok.some.2 (next _ ⟨h1, g1, by simp only; omega⟩ (by simp only; omega))⟩))⟩⟩⟩⟩
 ·
  unfold Z6t
  have e : i = j := by omega
  refine Ok.ite.2 ⟨fun hy => Ok.gd.2 ⟨(by constructor <;> omega), Ok.ite.2 ⟨fun _ => Ok.some.2 ⟨h1, by simp only; omega⟩, fun _ => Ok.gd.2 ⟨(by constructor <;> omega), ?_⟩⟩⟩, fun _ => Ok.some.2 ⟨h1, by simp only; omega⟩⟩
  unfold Z4r
  refine Ok.bind.2 (Ok.some.2 (Ok.ite.2 ⟨fun h => absurd h (by simp), fun _ => Ok.some.2 ⟨h1, by simp only; omega⟩⟩))
section
variable {n : Net} {m : Nat} {f : List Int} {out : List (List Int)}
def CntP (n : Net) (m : Nat) (f : List Int) (left : List Int) (rem : Nat → Bool) : Prop := left.length = m ∧ ∀ w, w < m → left.getD w 0 = (Jt n.Arcs f rem w n.Arcs.length : Nat)
theorem s_count (hm2 : m ≤ 4096) (hl : n.Arcs.length ≤ 16384) (he : Vh m n.Arcs) (ho : OutIs n m f out) {A : List Int} {D O : List Bool} {W : List Int} :
    Ok (Ym (fun s => Z2b n (CyclesSearch.mk n out A D O W) s.1 s.2) Yc (List.replicate m (0 : Int), 0)) (fun left => CntP n m f left fun _ => false) := by
  have hoo := ho.1
  refine Wy (fun s => ∃ x : Nat, s.2 = x ∧ x ≤ m ∧ ∃ rem, CntP n m f s.1 rem ∧ ∀ k, k < n.Arcs.length → 0 < f.getD k 0 → (rem k = false ↔ (n.Arcs.getD k default).fr < (x : Int))) (fun s => (m - s.2).toNat)
    ⟨0, rfl, by omega, fun _ => true, ⟨List.length_replicate, fun w hw => by rw [Ke, cntIn_zero.2 (fun _ _ _ _ => rfl)]; rfl⟩, fun k hk _ => by
      have := he k hk false
      simp only [Yw, Bool.false_eq_true, if_false] at this
      exact ⟨fun h => (by cases h), fun h => by omega⟩⟩ (by unfold Yc; simp only; omega) ?_
  rintro ⟨left, x'⟩ ⟨x, h1, hx, rem, ⟨hll, hc⟩, hrem⟩ P next exit
  simp only at h1 hll hc next ⊢
  subst h1
  unfold Z2b
  simp only [Int.toNat_natCast]
  refine Ok.ite.2 ⟨fun hlt => ?_, fun hge => Ok.some.2 (exit _ ⟨hll, fun w hw => ?_⟩)⟩
  · have hxm : x < m := by omega
    have hlo := ho.len hxm
    have hnd : (out.getD x []).Nodup := by rw [ho.2 x hxm]; exact Z9v _
    refine Ok.gd.2 ⟨(by constructor <;> omega), Ok.bind.2 ?_⟩
    refine Wy (fun s => ∃ q : Nat, s.2 = q ∧ q ≤ (out.getD x []).length ∧ ∃ rem, CntP n m f s.1 rem ∧ ∀ k, k < n.Arcs.length → 0 < f.getD k 0 → (rem k = false ↔ (n.Arcs.getD k default).fr < (x : Int) ∨ ∃ p, p < q ∧ (out.getD x []).getD p 0 = (k : Int))) (fun s => ((out.getD x []).length - s.2).toNat)
      ⟨0, rfl, by omega, rem, ⟨hll, hc⟩, fun k hk hf => ⟨fun h => .inl ((hrem k hk hf).1 h), fun h => by rcases h with h | ⟨p, hp, -⟩; (exact (hrem k hk hf).2 h); omega⟩⟩ (by unfold Yc; simp only; omega) ?_
    rintro ⟨left, y⟩ ⟨q, h1, hq, rem, ⟨hll, hc⟩, hrem⟩ P' next' exit'
    simp only at h1 hll hc next' ⊢
    subst h1
    unfold Z6d
    simp only [Int.toNat_natCast]
    refine Ok.ite.2 ⟨fun hy => ?_, fun hy => Ok.some.2 (exit' _ ?_)⟩
    · have hql : q < (out.getD x []).length := by omega
      obtain ⟨k, hk, hkl, hf, Vf⟩ := ho.at hxm hql
      have e1 := he k hkl true
      simp only [Yw, if_true] at e1
      obtain ⟨w, hto⟩ : ∃ w : Nat, (n.Arcs.getD k default).to = (w : Int) := ⟨(n.Arcs.getD k default).to.toNat, by omega⟩
      have hw : w < m := by omega
      have hcw := hc w hw
      have hcl := Zav (al := n.Arcs) (f := f) (rem := rem) (w := w) n.Arcs.length
      have hrk : rem k = true := by
        cases h : rem k with
        | true => rfl
        | false =>
          rcases (hrem k hkl hf).1 h with h2 | ⟨p, hp, h2⟩
          · omega
          · have e : p = q := by
              have g1 : (out.getD x [])[p]'(by omega) = (out.getD x [])[q] := by
                rw [List.getD_eq_getElem?_getD, List.getElem?_eq_getElem (by omega)] at h2 hk
                exact h2.trans hk.symm
              exact (List.getElem_inj hnd).1 g1
            omega
      simp only [hk, hto, Int.toNat_natCast, hcw]
      refine Ok.gd.2 ⟨(by constructor <;> omega), Ok.gd.2 ⟨(by constructor <;> omega), Ok.gd.2 ⟨(by constructor <;> omega), Ok.gd.2 ⟨(by constructor <;> omega), Ok.gd.2 ⟨(by constructor <;> omega), Ok.gd.2 ⟨(by constructor <;> omega), Ok.some.2 (next' _ ⟨q + 1, by simp, by omega, fun j => if j = k then false else rem j, ⟨by simp only [List.length_set]; exact hll, fun u hu => ?_⟩, fun j hj hfj => ?_⟩ (by simp only; omega))⟩⟩⟩⟩⟩⟩
      · rw [Zb5 hkl hf hrk (if_pos rfl) (fun j _ hne _ => if_neg hne), hto]
        simp only [Wo, hll]
        by_cases e : w = u
        · subst e; rw [if_pos ⟨rfl, hw⟩, if_pos rfl]; omega
        · rw [if_neg (fun h => e h.1), if_neg (by omega), hc u hu]; rfl
      · by_cases e : j = k
        · subst e
          simp only [if_true]
          exact ⟨fun _ => .inr ⟨q, by omega, hk⟩, fun _ => trivial⟩
        · simp only [if_neg e]
          rw [hrem j hj hfj]
          constructor
          · rintro (h | ⟨p, hp, h⟩)
            · exact .inl h
            · exact .inr ⟨p, by omega, h⟩
          · rintro (h | ⟨p, hp, h⟩)
            · exact .inl h
            · rcases Nat.lt_or_ge p q with h2 | h2
              · exact .inr ⟨p, h2, h⟩
              · rw [show p = q by omega, hk] at h; exact absurd (Int.natCast_inj.1 h).symm e
    · unfold Z6v
      refine Ok.gd.2 ⟨(by constructor <;> omega), Ok.some.2 (next _ ⟨x + 1, by simp, by omega, rem, ⟨hll, hc⟩, fun k hk hf => ?_⟩ (by simp only; omega))⟩
      rw [hrem k hk hf]
      constructor
      · rintro (h | ⟨p, hp, h⟩)
        · omega
        · obtain ⟨k', hk', -, -, Vf⟩ := ho.at hxm (q := p) (by omega)
          rw [hk'] at h
          rw [← Int.natCast_inj.1 h, Vf]; omega
      · intro h
        by_cases e : (n.Arcs.getD k default).fr = (x : Int)
        · obtain ⟨p, hp, h2⟩ := ho.in hxm hk hf e
          exact .inr ⟨p, by omega, h2⟩
        · exact .inl (by omega)
  · rw [hc w hw, Zaf (rem := fun _ => false) (rem' := rem) fun k hk hf => (hrem k hk hf).2 (by
      have := he k hk false
      simp only [Yw, Bool.false_eq_true, if_false] at this
      omega)]
theorem s_free {left : List Int} (hm2 : m ≤ 4096) (hll : left.length = m) :
    Ok (Ym (fun s => Z1f left s.1 s.2) Yc ([], 0)) (fun fr => fr = ((List.range m).filter fun v => left.getD v 0 = 0).map fun v : Nat => (v : Int)) := by
  refine Wy (fun s => ∃ x : Nat, s.2 = x ∧ x ≤ m ∧ s.1 = ((List.range x).filter fun v => left.getD v 0 = 0).map fun v : Nat => (v : Int)) (fun s => (m - s.2).toNat) ⟨0, rfl, by omega, rfl⟩ (by unfold Yc; simp only; omega) ?_
  rintro ⟨fr, x'⟩ ⟨x, h1, hx, h2⟩ P next exit
  simp only at h1 h2 next ⊢
  subst h1
  have hfl : fr.length ≤ x := by rw [h2, List.length_map]; have := List.length_filter_le (fun v => decide (left.getD v 0 = 0)) (List.range x); rw [List.length_range] at this; exact this
  unfold Z1f
  simp only [Int.toNat_natCast]
  refine Ok.ite.2 ⟨fun hlt => Ok.gd.2 ⟨(by constructor <;> omega), Ok.ite.2 ⟨fun h0 => Ok.gd.2 ⟨by rw [List.length_append]; simp only [List.length_singleton]; constructor <;> omega, Ok.gd.2 ⟨(by constructor <;> omega), Ok.some.2 (next _ ⟨x + 1, by simp, by omega, ?_⟩ (by simp only; omega))⟩⟩, fun h0 => Ok.gd.2 ⟨(by constructor <;> omega), Ok.some.2 (next _ ⟨x + 1, by simp, by omega, ?_⟩ (by simp only; omega))⟩⟩⟩, fun hge => Ok.some.2 (exit _ ?_)⟩
  · rw [List.range_succ, List.filter_append, List.map_append, ← h2, List.filter_cons_of_pos (by simpa using h0)]; rfl
  · rw [List.range_succ, List.filter_append, List.map_append, ← h2, List.filter_cons_of_neg (by simpa using h0)]; simp
  · rw [h2, show x = m by omega]
end
end Go.Acq
