/- Texts of this claim, one behind the other. -/
import Derived.Test.YtnppjbofdkokkaaGreatDoorA2
import Derived.Test.YtnppjbofdkokkaaGreatDoorA3
import Derived.Test.YtnppjbofdkokkaaGreatDoorA1
import Derived.Lib.ParseIntBTie
set_option linter.unusedVariables false
set_option linter.unusedSimpArgs false
namespace Go.Proofs.YtnppjbofdkokkaaGreatDoor.Ax
open Go Go.Acq Go.RowKit Go.Proofs
set_option maxHeartbeats 8000000
set_option maxRecDepth 20000
theorem Zd7 : Kx Tryz.prog 9 = some 16 := by kernel_rfl
theorem Zam : Yg Tryz.prog 10 = true := by kernel_rfl
theorem Zdy : Yg Tryz.prog 15 = true := by kernel_rfl
theorem Ze1 : Yg Tryz.prog 26 = true := by kernel_rfl
theorem Wk : Yg Tryz.prog 27 = true := by kernel_rfl
theorem Z8m : Yg Tryz.prog 29 = true := by kernel_rfl
theorem Z85 : Yg Tryz.prog 30 = true := by kernel_rfl
theorem Z4v : intT Tryz.prog 3 = some .i64 := by kernel_rfl
theorem Z5o : (Tryz.prog.underlying 5).isSome = true := by kernel_rfl
theorem Zao : ElemT Tryz.prog 37 2 1 8 (iV 0) := ⟨Xm, Wa, Z4a, Gt, rfl⟩
theorem Us : ElemT Tryz.prog 43 9 1 16 (.string ByteArray.empty) := ⟨Yl, Yo, Zd7, Gd, rfl⟩
theorem w_acequialaw28_SaySpoilt {n0 : Net} {l1 : List Int} {marks2 : List Bool} {at3 : Int} {w8 E4 m2 : Option Addr} {w7 w9 E6 E7 m4 m3 : Nat} (w : World) (E5 : RS w [] Zt 3 w8 w7 w9 n0.Arcs) (H6 : RS w [] iC 1 E4 E6 E7 l1) (y4 : RS w [] boolC 1 m2 m4 m3 marks2) (hG : GK Tryz.prog w []) {r0 : Bool} (H : Z32 n0 l1 marks2 at3 = some r0) : Fnc Tryz.prog 5 #[.agg #[iV n0.N, iV n0.S, iV n0.T, .slice w8 w7 w9], .slice E4 E6 E7, .slice m2 m4 m3, .int .u8 at3] w [] (fun v N => v = .bool r0 ∧ N = []) := by
 unfold Z32 at H; refine Fnc.enter (vs := [.agg #[iV n0.N, iV n0.S, iV n0.T, .slice w8 w7 w9], .slice E4 E6 E7, .slice m2 m4 m3, .int .u8 at3]) Tryz.func5 rfl rfl (Inv.refl w) ?_; refine sR Y2 rfl ?_; refine Wl Za ?_; intro b1; refine aN Za ?_; refine Zo ?_; obtain ⟨r3, e4, H⟩ := Zu H; refine rG Y3 rfl ?_; refine Xc Za Yx Zq rfl ?_; refine Yc Zam Za (fun wc hwc => Z9x (n0 := n0) (verts1 := 20) (arcs2 := 30) wc (E5.mono hwc) e4) ?_; rintro _ _ ⟨b7, n6, c7, j8, rfl, rfl, p9, d4, L7, d5⟩; refine Uf Za Yt Z27 Zz ?_; refine dS ?_; obtain ⟨t1, L8, H⟩ := Zu H; refine rG Y4 rfl ?_; refine Xc Za Yx Zq rfl ?_; refine Zd Za ?_; refine Yc Zdy Za (fun wc hwc => Zap (n0 := r3) (l1 := l1) wc (hwc.rs (f := Zt) (s := 3) (xs := r3.Arcs) (j := j8) (fun _ => rfl) Xh p9 d4 d5) (H6.mono hwc) L8) ?_; rintro _ _ ⟨r5, K2, K3, A5, rfl, rfl, v3, F0, L9, F1⟩; refine aN Za ?_; refine Zr (aT [2, 3, 4, 9] rfl) ?_; refine Zo ?_; obtain ⟨⟨A1, P0⟩, M0, H⟩ := Zu H; refine rG Y8 rfl ?_; refine Xc Za Yx Xh rfl ?_; refine Zd Za ?_; refine Yc Z46 Za (fun wc hwc => Z3e (n0 := r3) (f1 := t1) wc (hwc.rs (f := Zt) (s := 3) (xs := r3.Arcs) (j := j8) (fun _ => rfl) Xa p9 d4 d5) (rsI hwc Zq v3 F0 F1) (hG.mono hwc) M0) ?_; rintro _ _ ⟨v4, n29, c30, B5, rfl, rfl, H7, H8, M1, H9⟩; refine Zd Za ?_; refine TO.extract Zc ?_; refine TO.extract Zc ?_; refine Yi Za ?_; refine aN Za ?_; refine Zo ?_; refine sR Y2 rfl ?_; refine Zd Za ?_; refine Zx Zs ?_; refine dN ?_; refine Zr (aT [2, 3, 4, 9, 10, 42] rfl) ?_; rcases Zv H with ⟨I0, H⟩ | ⟨I0, H⟩
 · refine Xf rfl I0 ?_; refine sR Y1 rfl ?_; refine aN Za ?_; refine T.ret ?_; refine Ya ?_; obtain rfl := ret1 H; exact Ye Za (Res.tmp rfl) Zk ⟨rfl, rfl⟩
 ·
  refine Xe rfl I0 ?_; refine T.skip ?_; refine Yh ?_; refine sR Y2 rfl ?_; refine TO.makeFunc Zc ?_; refine aN Za ?_; refine Zo ?_; obtain ⟨M2, M3, H⟩ := Zu H; obtain ⟨a3, M4, H⟩ := Zu H; refine rG Y5 rfl ?_; refine Zd Za ?_; refine Z1x (xs := A1) Za Wm Je Ky (fun wc hwc => (hwc.rs (f := (intC .u8)) (s := 1) (xs := A1) (j := B5) (fun _ => rfl) Zq H7 H8 H9)) ?_; refine Yc Z85 Za (fun wc hwc => Z8j (s0 := (bu A1)) (s1 := ([10] : Str)) wc  M3) ?_; rintro _ _ ⟨rfl, rfl⟩; refine Yc Z8m Za (fun wc hwc => Z81 (s0 := M2) (sep1 := ([10] : Str)) wc (hG.mono hwc) M4) ?_; rintro _ _ ⟨c9, d6, p1, r4, rfl, rfl, a8, c8, M5, d3⟩; refine aN Za ?_; obtain ⟨K4, M6, H⟩ := Uh H; refine sR Y6 rfl ?_; refine Zd Za ?_; refine Z61 Za Z5o Z4v (Ll K4.1 K4.2) ?_; refine Zd Za ?_; refine Yq (xs := a3) a8 Zc Yl ?_; refine TO.rem Zc M6 ?_; refine aN Za ?_; refine Zr (aT [2, 3, 4, 9, 12, 13, 14] rfl) ?_; refine Zo ?_; obtain ⟨A2, M7, M8, K5, H⟩ := gd4 H; obtain ⟨M9, H⟩ := Yj H; apply Kf [⟨[], false, [], fun _ v e => ∃ (B8 : Nat), v = nV B8 0 0 ∧ e = [(eA (some B8) Zn ([] : List Str) ([]) 9)]⟩, rV [] _, rV [] _, rV [1, 2] _, ⟨[0, 3], false, [0], fun _ v e => ∃ (v6 : Option Nat) (c58 : Nat) (E8 : List Value), v = sV v6 (0 + (at3.tmod (a3.length : Int)).toNat) c58 ∧ e = [(eA v6 Zn (a3.take (at3.tmod (a3.length : Int)).toNat) E8 9)] ∧ (0 + (at3.tmod (a3.length : Int)).toNat) ≤ c58 ∧ E8.length = (c58 - (0 + (at3.tmod (a3.length : Int)).toNat)) * 1 ∧ (v6 = none → c58 = 0)⟩, rV [] _, rV [] _, rV [6] _, rV [5, 7] _] [53, 54, 55, 56, 57, 58, 59, 60, 61] 9 (Uy [[]]) [[]] [] [(eA c9 Zn a3 r4 9), (eA v4 (intC .u8) A1 B5 5), (eI r5 t1 A5 2), (eC b1 #[iV r3.N, iV r3.S, iV r3.T, sV b7 n6 c7] 24), (eA b7 Zt r3.Arcs j8 58)]
  · exact We
  · exact rfl
  · kernel_rfl
  · kernel_rfl
  · kernel_rfl
  · exact rfl
  · exact rfl
  · exact rfl
  · exact rfl
  · exact Yk (by repeat constructor)
  ·
   refine ⟨?_, ?_, ?_, ?_, ?_, ?_, ?_, ?_, ?_, trivial⟩
   · rintro vs es Es Hx -; refine Zg (D := []) rfl ?_; refine Nn Zz Yl Yo ?_; intro B8; refine Zb ?_; exact Zh rfl ⟨B8, rfl, rfl⟩ (Yk (by repeat constructor)) rfl
   · rintro vs es Es Hx -; refine Zg (D := []) rfl ?_; refine Zd Za ?_; refine Zb ?_; exact Zh rfl ⟨rfl, rfl⟩ (Ze _) rfl
   · rintro vs es Es Hx -; refine Zg (D := []) rfl ?_; refine Zd Za ?_; refine Zb ?_; exact Zh rfl ⟨rfl, rfl⟩ (Ze _) rfl
   · rintro vs es Es Hx ⟨⟨e0, k6⟩, ⟨e6, l4⟩, -⟩; refine Zg (D := [(54, vs 1), (55, vs 2)]) rfl ?_; rw [e0, e6]; refine Z0f (xs := a3) a8 c8 A2 Zc Yl Yo ?_; refine Zb ?_; exact Zh rfl ⟨rfl, rfl⟩ (Ze _) (by show [(54, vs 1), (55, vs 2)] = _; rw [e0, e6])
   · rintro vs es Es Hx ⟨⟨B8, e1, j1⟩, ⟨e3, i7⟩, -⟩; refine Zg (D := [(53, vs 0), (56, vs 3)]) rfl ?_; rw [e1, e3]; refine Ym (H := _ ++ ((es 0 ++ (es 3 ++ ([]))) ++ _)) rfl ?_; rw [j1, i7]; refine Vs (f := Zn) (s := 1) (xs := ([] : List Str)) (ob := some B8) (j := ([])) (ys := (a3.take (at3.tmod (a3.length : Int)).toNat)) (fun _ => rfl) (fun _ => rfl) Us M7 Zc Wu rfl (Nat.le_refl _) (Wh 0 _) Xd (fun wc hwc => (RS.take (hwc.rs (f := Zn) (s := 1) (xs := a3) (j := r4) (fun _ => rfl) Zq a8 c8 d3) A2)) ?_; intro v6 c58 E8 B9 C0 C1; refine Zb ?_; exact Zh rfl ⟨v6, c58, E8, rfl, rfl, B9, C0, C1⟩ (by show Pick (_ ++ (_ ++ ((es 3 ++ ([])) ++ _))) _; rw [i7]; exact Yk (by repeat constructor)) (by show [(53, vs 0), (56, vs 3)] = _; rw [e1, e3])
   · rintro vs es Es Hx -; refine Zg (D := []) rfl ?_; refine Zd Za ?_; refine Zb ?_; exact Zh rfl ⟨rfl, rfl⟩ (Ze _) rfl
   · rintro vs es Es Hx -; refine Zg (D := []) rfl ?_; refine Zd Za ?_; refine Zb ?_; exact Zh rfl ⟨rfl, rfl⟩ (Ze _) rfl
   · rintro vs es Es Hx ⟨⟨d9, j2⟩, -⟩; refine Zg (D := [(59, vs 6)]) rfl ?_; rw [d9]; refine Wi M8 Zc ?_; refine Zb ?_; exact Zh rfl ⟨rfl, rfl⟩ (Ze _) (by show [(59, vs 6)] = _; rw [d9])
   · rintro vs es Es Hx ⟨⟨c4, h1⟩, ⟨e7, l5⟩, -⟩; refine Zg (D := [(58, vs 5), (60, vs 7)]) rfl ?_; rw [c4, e7]; refine Ji (xs := a3) a8 K5 Zc Yl Yo ?_; refine Zb ?_; exact Zh rfl ⟨rfl, rfl⟩ (Ze _) (by show [(58, vs 5), (60, vs 7)] = _; rw [c4, e7])
  ·
   rintro vs es hb ⟨⟨B8, e1, j1⟩, ⟨e0, k6⟩, ⟨e6, l4⟩, ⟨e3, i7⟩, ⟨v6, c58, E8, b3, c0, B9, C0, C1⟩, ⟨c4, h1⟩, ⟨d9, j2⟩, ⟨e7, l5⟩, ⟨i6, p2⟩, -⟩ hHR; obtain rfl : hb = [] := hHR; refine Zg (D := [(53, vs 0), (54, vs 1), (55, vs 2), (56, vs 3), (57, vs 4), (58, vs 5), (59, vs 6), (60, vs 7), (61, vs 8)]) rfl ?_; refine Ym (H := _ ++ (_ ++ (es 1 ++ (es 2 ++ (es 3 ++ (es 4 ++ (es 5 ++ (es 6 ++ (es 7 ++ (es 8 ++ ([]))))))))))) rfl ?_; rw [k6, l4, i7, c0, h1, j2, l5, p2]; rw [e1, e0, e6, e3, b3, c4, d9, e7, i6]; clear i6 e7 d9 c4 b3 e3 e6 e0 e1 j1 k6 l4 i7 c0 h1 j2 l5 p2; refine Vs (f := Zn) (s := 1) (xs := (a3.take (at3.tmod (a3.length : Int)).toNat)) (ob := v6) (j := E8) (ys := (a3.drop ((at3.tmod (a3.length : Int)) + 1).toNat)) (fun _ => rfl) (fun _ => rfl) Us M9 Zc Wu (Ws (Ug A2)) B9 C0 C1 (fun wc hwc => (RS.drop (hwc.rs (f := Zn) (s := 1) (xs := a3) (j := r4) (fun _ => rfl) Zq a8 c8 d3) K5)) ?_; intro r6 F2 x5 v7 N0 v8; refine aN Za ?_; refine Zr (aT [2, 3, 4, 9, 12, 13, 14, 15] rfl) ?_; refine Zo ?_; obtain ⟨N1, A6, N2, K6, H⟩ := gd4 H; obtain ⟨N3, H⟩ := Yj H; apply Kf [⟨[], false, [], fun _ v e => ∃ (C2 : Nat), v = nV C2 0 0 ∧ e = [(eA (some C2) Zn ([] : List Str) ([]) 9)]⟩, rV [] _, rV [] _, rV [2] _, rV [1, 3] _, ⟨[0, 4], false, [0], fun _ v e => ∃ (v9 : Option Nat) (C3 : Nat) (E9 : List Value), v = sV v9 (0 + ((at3.tmod (a3.length : Int)) + 1).toNat) C3 ∧ e = [(eA v9 Zn (a3.take ((at3.tmod (a3.length : Int)) + 1).toNat) E9 9)] ∧ (0 + ((at3.tmod (a3.length : Int)) + 1).toNat) ≤ C3 ∧ E9.length = (C3 - (0 + ((at3.tmod (a3.length : Int)) + 1).toNat)) * 1 ∧ (v9 = none → C3 = 0)⟩, rV [] _, rV [] _, rV [6, 7] _] [63, 64, 65, 66, 67, 68, 69, 70, 71] 9 (Uy [[]]) [[]] [] [(eA r6 Zn ((a3.take (at3.tmod (a3.length : Int)).toNat) ++ (a3.drop ((at3.tmod (a3.length : Int)) + 1).toNat)) x5 9), (eA c9 Zn a3 r4 9), (eA v4 (intC .u8) A1 B5 5), (eI r5 t1 A5 2), (eC b1 #[iV r3.N, iV r3.S, iV r3.T, sV b7 n6 c7] 24), (eA b7 Zt r3.Arcs j8 58)]
   · exact We
   · exact rfl
   · kernel_rfl
   · kernel_rfl
   · kernel_rfl
   · exact rfl
   · exact rfl
   · exact rfl
   · exact rfl
   · exact Yk (by repeat constructor)
   ·
    refine ⟨?_, ?_, ?_, ?_, ?_, ?_, ?_, ?_, ?_, trivial⟩
    · rintro vs es Es Hx -; refine Zg (D := []) rfl ?_; refine Nn Zz Yl Yo ?_; intro C2; refine Zb ?_; exact Zh rfl ⟨C2, rfl, rfl⟩ (Yk (by repeat constructor)) rfl
    · rintro vs es Es Hx -; refine Zg (D := []) rfl ?_; refine Zd Za ?_; refine Zb ?_; exact Zh rfl ⟨rfl, rfl⟩ (Ze _) rfl
    · rintro vs es Es Hx -; refine Zg (D := []) rfl ?_; refine Zd Za ?_; refine Zb ?_; exact Zh rfl ⟨rfl, rfl⟩ (Ze _) rfl
    · rintro vs es Es Hx ⟨⟨e6, l4⟩, -⟩; refine Zg (D := [(65, vs 2)]) rfl ?_; rw [e6]; refine Wi N1 Zc ?_; refine Zb ?_; exact Zh rfl ⟨rfl, rfl⟩ (Ze _) (by show [(65, vs 2)] = _; rw [e6])
    · rintro vs es Es Hx ⟨⟨e0, k6⟩, ⟨e3, i7⟩, -⟩; refine Zg (D := [(64, vs 1), (66, vs 3)]) rfl ?_; rw [e0, e3]; refine Z0f (xs := a3) a8 c8 A6 Zc Yl Yo ?_; refine Zb ?_; exact Zh rfl ⟨rfl, rfl⟩ (Ze _) (by show [(64, vs 1), (66, vs 3)] = _; rw [e0, e3])
    · rintro vs es Es Hx ⟨⟨C2, e1, j1⟩, ⟨b3, c0⟩, -⟩; refine Zg (D := [(63, vs 0), (67, vs 4)]) rfl ?_; rw [e1, b3]; refine Ym (H := _ ++ ((es 0 ++ (es 4 ++ ([]))) ++ _)) rfl ?_; rw [j1, c0]; refine Vs (f := Zn) (s := 1) (xs := ([] : List Str)) (ob := some C2) (j := ([])) (ys := (a3.take ((at3.tmod (a3.length : Int)) + 1).toNat)) (fun _ => rfl) (fun _ => rfl) Us N2 Zc tk6 rfl (Nat.le_refl _) (Wh 0 _) Xd (fun wc hwc => (RS.take (hwc.rs (f := Zn) (s := 1) (xs := a3) (j := r4) (fun _ => rfl) Xh a8 c8 d3) A6)) ?_; intro v9 C3 E9 C4 C5 C6; refine Zb ?_; exact Zh rfl ⟨v9, C3, E9, rfl, rfl, C4, C5, C6⟩ (by show Pick (_ ++ (_ ++ ((es 4 ++ ([])) ++ _))) _; rw [c0]; exact Yk (by repeat constructor)) (by show [(63, vs 0), (67, vs 4)] = _; rw [e1, b3])
    · rintro vs es Es Hx -; refine Zg (D := []) rfl ?_; refine Zd Za ?_; refine Zb ?_; exact Zh rfl ⟨rfl, rfl⟩ (Ze _) rfl
    · rintro vs es Es Hx -; refine Zg (D := []) rfl ?_; refine Zd Za ?_; refine Zb ?_; exact Zh rfl ⟨rfl, rfl⟩ (Ze _) rfl
    · rintro vs es Es Hx ⟨⟨d9, j2⟩, ⟨e7, l5⟩, -⟩; refine Zg (D := [(69, vs 6), (70, vs 7)]) rfl ?_; rw [d9, e7]; refine Ji (xs := a3) a8 K6 Zc Yl Yo ?_; refine Zb ?_; exact Zh rfl ⟨rfl, rfl⟩ (Ze _) (by show [(69, vs 6), (70, vs 7)] = _; rw [d9, e7])
   ·
    rintro vs es hb ⟨⟨C2, e1, j1⟩, ⟨e0, k6⟩, ⟨e6, l4⟩, ⟨e3, i7⟩, ⟨b3, c0⟩, ⟨v9, C3, E9, c4, h1, C4, C5, C6⟩, ⟨d9, j2⟩, ⟨e7, l5⟩, ⟨i6, p2⟩, -⟩ hHR; obtain rfl : hb = [] := hHR; refine Zg (D := [(63, vs 0), (64, vs 1), (65, vs 2), (66, vs 3), (67, vs 4), (68, vs 5), (69, vs 6), (70, vs 7), (71, vs 8)]) rfl ?_; refine Ym (H := _ ++ (_ ++ (es 1 ++ (es 2 ++ (es 3 ++ (es 4 ++ (es 5 ++ (es 6 ++ (es 7 ++ (es 8 ++ ([]))))))))))) rfl ?_; rw [k6, l4, i7, c0, h1, j2, l5, p2]; rw [e1, e0, e6, e3, b3, c4, d9, e7, i6]; clear i6 e7 d9 c4 b3 e3 e6 e0 e1 j1 k6 l4 i7 c0 h1 j2 l5 p2; refine Vs (f := Zn) (s := 1) (xs := (a3.take ((at3.tmod (a3.length : Int)) + 1).toNat)) (ob := v9) (j := E9) (ys := (a3.drop (at3.tmod (a3.length : Int)).toNat)) (fun _ => rfl) (fun _ => rfl) Us N3 Zc tk6 (Ws (Ug A6)) C4 C5 C6 (fun wc hwc => (RS.drop (hwc.rs (f := Zn) (s := 1) (xs := a3) (j := r4) (fun _ => rfl) Xh a8 c8 d3) K6)) ?_; intro s8 c89 y5 x6 N4 x7; refine aN Za ?_; refine Zr (aT [2, 3, 4, 9, 12, 13, 15, 16] rfl) ?_; refine Zo ?_; refine Zo ?_; refine Vc (fun (y6 : Bool) => Ke marks2 at3 r3 t1 y6 = some r0) (fun (y6 : Bool) => [(2, .slice m2 m4 m3), (3, .int .u8 at3), (4, pV b1), (9, sV r5 K2 K3), (122, .bool y6)]) (fun (y6 : Bool) => [(eC b1 #[iV r3.N, iV r3.S, iV r3.T, sV b7 n6 c7] 24), (eA b7 Zt r3.Arcs j8 58), (eI r5 t1 A5 2)]) ?_ ?_
    ·
     obtain ⟨A3, B6, H⟩ := Zu H; rcases Zv H with ⟨A7, H⟩ | ⟨A7, H⟩
     ·
      apply Z0z [(73, _), (74, _), (75, _), (76, _), (77, _), (78, _), (79, _), (80, _), (81, _), (82, _), (83, _), (84, _), (85, _), (86, _), (87, _), (88, _), (89, _), (90, _), (91, _), (92, _), (93, _), (94, _), (95, _), (96, _), (97, _), (98, _), (99, _), (100, _), (101, _), (102, _), (103, _), (104, _), (105, _), (106, _), (107, _), (108, _), (109, _), (110, _), (111, _), (112, _), (113, _), (114, _)]
      · exact We
      · kernel_rfl
      · kernel_rfl
      · exact rfl
      · exact rfl
      ·
       refine ⟨?_, ?_, ?_, ?_, ?_, ?_, ?_, ?_, ?_, ?_, ?_, ?_, ?_, ?_, ?_, ?_, ?_, ?_, ?_, ?_, ?_, ?_, ?_, ?_, ?_, ?_, ?_, ?_, ?_, ?_, ?_, ?_, ?_, ?_, ?_, ?_, ?_, ?_, ?_, ?_, ?_, ?_, trivial⟩
       · intro Es; refine Zd Za ?_; exact Zb (X.ob rfl (Ze _))
       · intro Es; refine Zd Za ?_; exact Zb (X.ob rfl (Ze _))
       · intro Es; refine Xi Wk Zc (fun wc hwc => Wn (lines0 := a3) (c1 := r3) wc (hwc.rs (f := Zn) (s := 1) (xs := a3) (j := r4) (fun _ => rfl) Xa a8 c8 d3) (hwc.rs (f := Zt) (s := 3) (xs := r3.Arcs) (j := j8) (fun _ => rfl) Xv p9 d4 d5) (hwc.hb (cs := [iV r3.N, iV r3.S, iV r3.T, sV b7 n6 c7]) Xt) (hG.mono hwc) B6) ?_; rintro _ _ ⟨rfl, rfl⟩; exact Zb (X.ob rfl (Ze _))
       · intro Es; refine TO.not Za ?_; exact Zb (X.ob rfl (Ze _))
       · intro Es; refine Zd Za ?_; refine Zw (t := 77) (b' := true) rfl A7 ?_; exact Zb (Ra rfl (Ze _))
       · intro Es; refine Zi Za ?_; exact Zb (X.ob rfl (Ze _))
       · intro Es; refine Zi Za ?_; exact Zb (X.ob rfl (Ze _))
       · intro Es; refine Zi Za ?_; exact Zb (X.ob rfl (Ze _))
       · intro Es; refine Yr Zc ?_; exact Zb (X.ob rfl (Ze _))
       · intro Es; refine Zd Za ?_; exact Zb (X.ob rfl (Ze _))
       · intro Es; refine Zi Za ?_; exact Zb (X.ob rfl (Ze _))
       · intro Es; refine Zi Za ?_; exact Zb (X.ob rfl (Ze _))
       · intro Es; refine Zi Za ?_; exact Zb (X.ob rfl (Ze _))
       · intro Es; refine Yr Zc ?_; exact Zb (X.ob rfl (Ze _))
       · intro Es; refine Zd Za ?_; exact Zb (X.ob rfl (Ze _))
       · intro Es; refine Zi Za ?_; exact Zb (X.ob rfl (Ze _))
       · intro Es; refine Zi Za ?_; exact Zb (X.ob rfl (Ze _))
       · intro Es; refine Zi Za ?_; exact Zb (X.ob rfl (Ze _))
       · intro Es; refine Zi Za ?_; exact Zb (X.ob rfl (Ze _))
       · intro Es; refine Yu Za ?_; exact Zb (X.ob rfl (Ze _))
       · intro Es; refine Yu Za ?_; exact Zb (X.ob rfl (Ze _))
       · intro Es; refine Yu Za ?_; exact Zb (X.ob rfl (Ze _))
       · intro Es; refine Yu Za ?_; exact Zb (X.ob rfl (Ze _))
       · intro Es; refine Yu Za ?_; exact Zb (X.ob rfl (Ze _))
       · intro Es; refine Yu Za ?_; exact Zb (X.ob rfl (Ze _))
       · intro Es; refine Yu Za ?_; exact Zb (X.ob rfl (Ze _))
       · intro Es; refine Yu Za ?_; exact Zb (X.ob rfl (Ze _))
       · intro Es; refine Yu Za ?_; exact Zb (X.ob rfl (Ze _))
       · intro Es; refine Yu Za ?_; exact Zb (X.ob rfl (Ze _))
       · intro Es; refine Yu Za ?_; exact Zb (X.ob rfl (Ze _))
       · intro Es; refine Zi Za ?_; exact Zb (X.ob rfl (Ze _))
       · intro Es; refine Yr Zc ?_; exact Zb (X.ob rfl (Ze _))
       · intro Es; refine Zd Za ?_; exact Zb (X.ob rfl (Ze _))
       · intro Es; refine Zi Za ?_; exact Zb (X.ob rfl (Ze _))
       · intro Es; refine Zi Za ?_; exact Zb (X.ob rfl (Ze _))
       · intro Es; refine Zi Za ?_; exact Zb (X.ob rfl (Ze _))
       · intro Es; refine Zi Za ?_; exact Zb (X.ob rfl (Ze _))
       · intro Es; refine Zi Za ?_; exact Zb (X.ob rfl (Ze _))
       · intro Es; refine Zi Za ?_; exact Zb (X.ob rfl (Ze _))
       · intro Es; refine Zi Za ?_; exact Zb (X.ob rfl (Ze _))
       · intro Es; refine Zi Za ?_; exact Zb (X.ob rfl (Ze _))
       · intro Es; refine Zi Za ?_; exact Zb (X.ob rfl (Ze _))
      refine Zi Za ?_; refine Zi Za ?_; refine Yu Za ?_; refine Yu Za ?_; refine Yu Za ?_; refine Yu Za ?_; refine Zi Za ?_; refine Yr Zc ?_; refine Zb ?_; exact Yz true H (aF rfl) (Zj Wu (Zj Wu (Zj Kw Zk)))
     ·
      obtain ⟨A4, C7, H⟩ := Zu H; rcases Zv H with ⟨u3, H⟩ | ⟨u3, H⟩
      ·
       apply Z0z [(73, _), (74, _), (75, _), (76, _), (77, _), (78, _), (79, _), (80, _), (81, _), (82, _), (83, _), (84, _), (85, _), (86, _), (87, _), (88, _), (89, _), (90, _), (91, _), (92, _), (93, _), (94, _), (95, _), (96, _), (97, _), (98, _), (99, _), (100, _), (101, _), (102, _), (103, _), (104, _), (105, _), (106, _), (107, _), (108, _), (109, _), (110, _), (111, _), (112, _), (113, _), (114, _)]
       · exact We
       · kernel_rfl
       · kernel_rfl
       · exact rfl
       · exact rfl
       ·
        refine ⟨?_, ?_, ?_, ?_, ?_, ?_, ?_, ?_, ?_, ?_, ?_, ?_, ?_, ?_, ?_, ?_, ?_, ?_, ?_, ?_, ?_, ?_, ?_, ?_, ?_, ?_, ?_, ?_, ?_, ?_, ?_, ?_, ?_, ?_, ?_, ?_, ?_, ?_, ?_, ?_, ?_, ?_, trivial⟩
        · intro Es; refine Zd Za ?_; exact Zb (X.ob rfl (Ze _))
        · intro Es; refine Zd Za ?_; exact Zb (X.ob rfl (Ze _))
        · intro Es; refine Xi Wk Zc (fun wc hwc => Wn (lines0 := a3) (c1 := r3) wc (hwc.rs (f := Zn) (s := 1) (xs := a3) (j := r4) (fun _ => rfl) Xa a8 c8 d3) (hwc.rs (f := Zt) (s := 3) (xs := r3.Arcs) (j := j8) (fun _ => rfl) Xv p9 d4 d5) (hwc.hb (cs := [iV r3.N, iV r3.S, iV r3.T, sV b7 n6 c7]) Xt) (hG.mono hwc) B6) ?_; rintro _ _ ⟨rfl, rfl⟩; exact Zb (X.ob rfl (Ze _))
        · intro Es; refine TO.not Za ?_; exact Zb (X.ob rfl (Ze _))
        · intro Es; refine Zd Za ?_; refine Zw (t := 77) (b' := false) rfl (Bool.eq_false_iff.2 A7) ?_; exact Zb (Ra rfl (Ze _))
        · intro Es; refine Zd Za ?_; exact Zb (X.ob rfl (Ze _))
        · intro Es; refine Zd Za ?_; exact Zb (X.ob rfl (Ze _))
        · intro Es; refine Xi Wk Zc (fun wc hwc => Wn (lines0 := ((a3.take (at3.tmod (a3.length : Int)).toNat) ++ (a3.drop ((at3.tmod (a3.length : Int)) + 1).toNat))) (c1 := r3) wc (hwc.rs (f := Zn) (s := 1) (xs := ((a3.take (at3.tmod (a3.length : Int)).toNat) ++ (a3.drop ((at3.tmod (a3.length : Int)) + 1).toNat))) (j := x5) (fun _ => rfl) Xh (Wy (Ws (Ug A2)) (Wz a8)) v7 v8) (hwc.rs (f := Zt) (s := 3) (xs := r3.Arcs) (j := j8) (fun _ => rfl) Xv p9 d4 d5) (hwc.hb (cs := [iV r3.N, iV r3.S, iV r3.T, sV b7 n6 c7]) Xt) (hG.mono hwc) C7) ?_; rintro _ _ ⟨rfl, rfl⟩; exact Zb (X.ob rfl (Ze _))
        · intro Es; refine Yf Zc ?_; exact Zb (X.ob rfl (Ze _))
        · intro Es; refine Zd Za ?_; refine Zw (t := 82) (b' := true) rfl u3 ?_; exact Zb (Ra rfl (Ze _))
        · intro Es; refine Zi Za ?_; exact Zb (X.ob rfl (Ze _))
        · intro Es; refine Zi Za ?_; exact Zb (X.ob rfl (Ze _))
        · intro Es; refine Zi Za ?_; exact Zb (X.ob rfl (Ze _))
        · intro Es; refine Yr Zc ?_; exact Zb (X.ob rfl (Ze _))
        · intro Es; refine Zd Za ?_; exact Zb (X.ob rfl (Ze _))
        · intro Es; refine Zi Za ?_; exact Zb (X.ob rfl (Ze _))
        · intro Es; refine Zi Za ?_; exact Zb (X.ob rfl (Ze _))
        · intro Es; refine Zi Za ?_; exact Zb (X.ob rfl (Ze _))
        · intro Es; refine Zi Za ?_; exact Zb (X.ob rfl (Ze _))
        · intro Es; refine Yu Za ?_; exact Zb (X.ob rfl (Ze _))
        · intro Es; refine Yu Za ?_; exact Zb (X.ob rfl (Ze _))
        · intro Es; refine Yu Za ?_; exact Zb (X.ob rfl (Ze _))
        · intro Es; refine Yu Za ?_; exact Zb (X.ob rfl (Ze _))
        · intro Es; refine Yu Za ?_; exact Zb (X.ob rfl (Ze _))
        · intro Es; refine Yu Za ?_; exact Zb (X.ob rfl (Ze _))
        · intro Es; refine Yu Za ?_; exact Zb (X.ob rfl (Ze _))
        · intro Es; refine Yu Za ?_; exact Zb (X.ob rfl (Ze _))
        · intro Es; refine Yu Za ?_; exact Zb (X.ob rfl (Ze _))
        · intro Es; refine Yu Za ?_; exact Zb (X.ob rfl (Ze _))
        · intro Es; refine Yu Za ?_; exact Zb (X.ob rfl (Ze _))
        · intro Es; refine Zi Za ?_; exact Zb (X.ob rfl (Ze _))
        · intro Es; refine Yr Zc ?_; exact Zb (X.ob rfl (Ze _))
        · intro Es; refine Zd Za ?_; exact Zb (X.ob rfl (Ze _))
        · intro Es; refine Zi Za ?_; exact Zb (X.ob rfl (Ze _))
        · intro Es; refine Zi Za ?_; exact Zb (X.ob rfl (Ze _))
        · intro Es; refine Zi Za ?_; exact Zb (X.ob rfl (Ze _))
        · intro Es; refine Zi Za ?_; exact Zb (X.ob rfl (Ze _))
        · intro Es; refine Zi Za ?_; exact Zb (X.ob rfl (Ze _))
        · intro Es; refine Zi Za ?_; exact Zb (X.ob rfl (Ze _))
        · intro Es; refine Zi Za ?_; exact Zb (X.ob rfl (Ze _))
        · intro Es; refine Zi Za ?_; exact Zb (X.ob rfl (Ze _))
        · intro Es; refine Zi Za ?_; exact Zb (X.ob rfl (Ze _))
       refine Zi Za ?_; refine Zi Za ?_; refine Yu Za ?_; refine Yu Za ?_; refine Yu Za ?_; refine Yu Za ?_; refine Zi Za ?_; refine Yr Zc ?_; refine Zb ?_; exact Yz true H (aF rfl) (Zj Wu (Zj Wu (Zj Kw Zk)))
      ·
       obtain ⟨t0, x8, H⟩ := Zu H; rcases Zv H with ⟨w0, H⟩ | ⟨w0, H⟩
       ·
        apply Z0z [(73, _), (74, _), (75, _), (76, _), (77, _), (78, _), (79, _), (80, _), (81, _), (82, _), (83, _), (84, _), (85, _), (86, _), (87, _), (88, _), (89, _), (90, _), (91, _), (92, _), (93, _), (94, _), (95, _), (96, _), (97, _), (98, _), (99, _), (100, _), (101, _), (102, _), (103, _), (104, _), (105, _), (106, _), (107, _), (108, _), (109, _), (110, _), (111, _), (112, _), (113, _), (114, _)]
        · exact We
        · kernel_rfl
        · kernel_rfl
        · exact rfl
        · exact rfl
        ·
         refine ⟨?_, ?_, ?_, ?_, ?_, ?_, ?_, ?_, ?_, ?_, ?_, ?_, ?_, ?_, ?_, ?_, ?_, ?_, ?_, ?_, ?_, ?_, ?_, ?_, ?_, ?_, ?_, ?_, ?_, ?_, ?_, ?_, ?_, ?_, ?_, ?_, ?_, ?_, ?_, ?_, ?_, ?_, trivial⟩
         · intro Es; refine Zd Za ?_; exact Zb (X.ob rfl (Ze _))
         · intro Es; refine Zd Za ?_; exact Zb (X.ob rfl (Ze _))
         · intro Es; refine Xi Wk Zc (fun wc hwc => Wn (lines0 := a3) (c1 := r3) wc (hwc.rs (f := Zn) (s := 1) (xs := a3) (j := r4) (fun _ => rfl) Xa a8 c8 d3) (hwc.rs (f := Zt) (s := 3) (xs := r3.Arcs) (j := j8) (fun _ => rfl) Xv p9 d4 d5) (hwc.hb (cs := [iV r3.N, iV r3.S, iV r3.T, sV b7 n6 c7]) Xt) (hG.mono hwc) B6) ?_; rintro _ _ ⟨rfl, rfl⟩; exact Zb (X.ob rfl (Ze _))
         · intro Es; refine TO.not Za ?_; exact Zb (X.ob rfl (Ze _))
         · intro Es; refine Zd Za ?_; refine Zw (t := 77) (b' := false) rfl (Bool.eq_false_iff.2 A7) ?_; exact Zb (Ra rfl (Ze _))
         · intro Es; refine Zd Za ?_; exact Zb (X.ob rfl (Ze _))
         · intro Es; refine Zd Za ?_; exact Zb (X.ob rfl (Ze _))
         · intro Es; refine Xi Wk Zc (fun wc hwc => Wn (lines0 := ((a3.take (at3.tmod (a3.length : Int)).toNat) ++ (a3.drop ((at3.tmod (a3.length : Int)) + 1).toNat))) (c1 := r3) wc (hwc.rs (f := Zn) (s := 1) (xs := ((a3.take (at3.tmod (a3.length : Int)).toNat) ++ (a3.drop ((at3.tmod (a3.length : Int)) + 1).toNat))) (j := x5) (fun _ => rfl) Xh (Wy (Ws (Ug A2)) (Wz a8)) v7 v8) (hwc.rs (f := Zt) (s := 3) (xs := r3.Arcs) (j := j8) (fun _ => rfl) Xv p9 d4 d5) (hwc.hb (cs := [iV r3.N, iV r3.S, iV r3.T, sV b7 n6 c7]) Xt) (hG.mono hwc) C7) ?_; rintro _ _ ⟨rfl, rfl⟩; exact Zb (X.ob rfl (Ze _))
         · intro Es; refine Yf Zc ?_; exact Zb (X.ob rfl (Ze _))
         · intro Es; refine Zd Za ?_; refine Zw (t := 82) (b' := false) rfl (Bool.eq_false_iff.2 u3) ?_; exact Zb (Ra rfl (Ze _))
         · intro Es; refine Zd Za ?_; exact Zb (X.ob rfl (Ze _))
         · intro Es; refine Zd Za ?_; exact Zb (X.ob rfl (Ze _))
         · intro Es; refine Xi Wk Zc (fun wc hwc => Wn (lines0 := ((a3.take ((at3.tmod (a3.length : Int)) + 1).toNat) ++ (a3.drop (at3.tmod (a3.length : Int)).toNat))) (c1 := r3) wc (hwc.rs (f := Zn) (s := 1) (xs := ((a3.take ((at3.tmod (a3.length : Int)) + 1).toNat) ++ (a3.drop (at3.tmod (a3.length : Int)).toNat))) (j := y5) (fun _ => rfl) Zq (Wy (Ws (Ug A6)) (Wz a8)) x6 x7) (hwc.rs (f := Zt) (s := 3) (xs := r3.Arcs) (j := j8) (fun _ => rfl) Xv p9 d4 d5) (hwc.hb (cs := [iV r3.N, iV r3.S, iV r3.T, sV b7 n6 c7]) Xt) (hG.mono hwc) x8) ?_; rintro _ _ ⟨rfl, rfl⟩; exact Zb (X.ob rfl (Ze _))
         · intro Es; refine Yf Zc ?_; exact Zb (X.ob rfl (Ze _))
         · intro Es; refine Zd Za ?_; refine Zw (t := 87) (b' := true) rfl w0 ?_; exact Zb (Ra rfl (Ze _))
         · intro Es; refine Zi Za ?_; exact Zb (X.ob rfl (Ze _))
         · intro Es; refine Zi Za ?_; exact Zb (X.ob rfl (Ze _))
         · intro Es; refine Zi Za ?_; exact Zb (X.ob rfl (Ze _))
         · intro Es; refine Zi Za ?_; exact Zb (X.ob rfl (Ze _))
         · intro Es; refine Yu Za ?_; exact Zb (X.ob rfl (Ze _))
         · intro Es; refine Yu Za ?_; exact Zb (X.ob rfl (Ze _))
         · intro Es; refine Yu Za ?_; exact Zb (X.ob rfl (Ze _))
         · intro Es; refine Yu Za ?_; exact Zb (X.ob rfl (Ze _))
         · intro Es; refine Yu Za ?_; exact Zb (X.ob rfl (Ze _))
         · intro Es; refine Yu Za ?_; exact Zb (X.ob rfl (Ze _))
         · intro Es; refine Yu Za ?_; exact Zb (X.ob rfl (Ze _))
         · intro Es; refine Yu Za ?_; exact Zb (X.ob rfl (Ze _))
         · intro Es; refine Yu Za ?_; exact Zb (X.ob rfl (Ze _))
         · intro Es; refine Yu Za ?_; exact Zb (X.ob rfl (Ze _))
         · intro Es; refine Yu Za ?_; exact Zb (X.ob rfl (Ze _))
         · intro Es; refine Zi Za ?_; exact Zb (X.ob rfl (Ze _))
         · intro Es; refine Yr Zc ?_; exact Zb (X.ob rfl (Ze _))
         · intro Es; refine Zd Za ?_; exact Zb (X.ob rfl (Ze _))
         · intro Es; refine Zi Za ?_; exact Zb (X.ob rfl (Ze _))
         · intro Es; refine Zi Za ?_; exact Zb (X.ob rfl (Ze _))
         · intro Es; refine Zi Za ?_; exact Zb (X.ob rfl (Ze _))
         · intro Es; refine Zi Za ?_; exact Zb (X.ob rfl (Ze _))
         · intro Es; refine Zi Za ?_; exact Zb (X.ob rfl (Ze _))
         · intro Es; refine Zi Za ?_; exact Zb (X.ob rfl (Ze _))
         · intro Es; refine Zi Za ?_; exact Zb (X.ob rfl (Ze _))
         · intro Es; refine Zi Za ?_; exact Zb (X.ob rfl (Ze _))
         · intro Es; refine Zi Za ?_; exact Zb (X.ob rfl (Ze _))
        refine Zi Za ?_; refine Zi Za ?_; refine Yu Za ?_; refine Yu Za ?_; refine Yu Za ?_; refine Yu Za ?_; refine Zi Za ?_; refine Yr Zc ?_; refine Zb ?_; exact Yz true H (aF rfl) (Zj Wu (Zj Wu (Zj Kw Zk)))
       ·
        rcases Zv H with ⟨x9, H⟩ | ⟨x9, H⟩
        ·
         obtain ⟨y0, C8, y1, C9, H⟩ := gd4 H; obtain ⟨u1, D0, H⟩ := Zu H; rcases Zv H with ⟨A8, H⟩ | ⟨A8, H⟩
         ·
          apply Kf (⟨[], false, [], Zl (.func (.func 27) #[] #[pV b1])⟩ :: ⟨[], false, [], Zl (sV c9 d6 p1)⟩ :: ⟨[0, 1], false, [], Zl (.bool A3)⟩ :: ⟨[2], false, [], Zl (.bool (!A3))⟩ :: ⟨[3], false, [], Zl (.bool false)⟩ :: ⟨[4], false, [], Zl (.func (.func 27) #[] #[pV b1])⟩ :: ⟨[4], false, [], Zl (sV r6 ((0 + (at3.tmod (a3.length : Int)).toNat) + (d6 - ((at3.tmod (a3.length : Int)) + 1).toNat)) F2)⟩ :: ⟨[4, 5, 6], false, [], Zl (.bool A4)⟩ :: ⟨[4, 7], false, [], Zl (.bool A4)⟩ :: ⟨[8], false, [], Zl (.bool false)⟩ :: ⟨[9], false, [], Zl (.func (.func 27) #[] #[pV b1])⟩ :: ⟨[9], false, [], Zl (sV s8 ((0 + ((at3.tmod (a3.length : Int)) + 1).toNat) + (d6 - (at3.tmod (a3.length : Int)).toNat)) c89)⟩ :: ⟨[9, 10, 11], false, [], Zl (.bool t0)⟩ :: ⟨[9, 12], false, [], Zl (.bool t0)⟩ :: ⟨[13], false, [], Zl (.bool false)⟩ :: ⟨[14], false, [], Zl (sV c9 d6 p1)⟩ :: ⟨[14, 15], false, [], Zl (iV (a3.length : Int))⟩ :: ⟨[14, 16], false, [], Zl (.bool (decide (1 < (a3.length : Int))))⟩ :: ⟨[14, 17], false, [], Zl (.bool true)⟩ :: ⟨[18], false, [], Zl (.func (.func 27) #[] #[pV b1])⟩ :: ⟨[18], false, [], fun _ v e => ∃ (j3 : Nat), v = nV j3 0 0 ∧ e = [(eA (some j3) Zn ([] : List Str) ([]) 9)]⟩ :: ⟨[18], false, [], Zl (sV c9 d6 p1)⟩ :: ⟨[18, 21], false, [], Zl (.slice (Vk (sb c9) (1 : Int).toNat p1 1) (d6 - (1 : Int).toNat) (p1 - (1 : Int).toNat))⟩ :: ⟨[18, 20, 22], false, [20], fun _ v e => ∃ (c5 : Option Nat) (h4 : Nat) (j4 : List Value), v = sV c5 (0 + (d6 - (1 : Int).toNat)) h4 ∧ e = [(eA c5 Zn (a3.drop (1 : Int).toNat) j4 9)] ∧ (0 + (d6 - (1 : Int).toNat)) ≤ h4 ∧ j4.length = (h4 - (0 + (d6 - (1 : Int).toNat))) * 1 ∧ (c5 = none → h4 = 0)⟩ :: ⟨[18], false, [], Zl (sV c9 d6 p1)⟩ :: rV [18, 24] _ :: ⟨[18, 24, 25], false, [], Zl (.string (bs (a3.getD (0 : Int).toNat ([] : Str))))⟩ :: ⟨[18, 26], false, [], fun _ v e => ∃ (l6 : Nat), v = nV l6 1 1 ∧ e = [(eA (some l6) Zn ([(a3.getD (0 : Int).toNat ([] : Str))]) ([]) 9)]⟩ :: ⟨[18, 23, 27], false, [23], fun _ v e => ∃ (d7 : Option Nat) (h5 : Nat) (j5 : List Value), v = sV d7 ((0 + (d6 - (1 : Int).toNat)) + 1) h5 ∧ e = [(eA d7 Zn ((a3.drop (1 : Int).toNat) ++ ([(a3.getD (0 : Int).toNat ([] : Str))])) j5 9)] ∧ ((0 + (d6 - (1 : Int).toNat)) + 1) ≤ h5 ∧ j5.length = (h5 - ((0 + (d6 - (1 : Int).toNat)) + 1)) * 1 ∧ (d7 = none → h5 = 0)⟩ :: ⟨[18, 19, 28], false, [], Zl (.bool u1)⟩ :: ⟨[14, 18, 29], false, [], Zl (.bool u1)⟩ :: ⟨[14, 30], false, [], Zl (.bool u1)⟩ :: ⟨[31], false, [], Zl (.bool true)⟩ :: ⟨[32], false, [], Zl (undef)⟩ :: ⟨[32], false, [], Zl (undef)⟩ :: ⟨[32, 34], false, [], Zl (undef)⟩ :: ⟨[32, 35], false, [], Zl (undef)⟩ :: ⟨[32, 36], false, [], Zl (undef)⟩ :: ⟨[32, 37], false, [], Zl (undef)⟩ :: ⟨[32], false, [], Zl (undef)⟩ :: ⟨[32, 39], false, [], Zl (undef)⟩ :: ⟨[32, 38, 40], false, [], Zl (undef)⟩ :: []) [73, 74, 75, 76, 77, 78, 79, 80, 81, 82, 83, 84, 85, 86, 87, 88, 89, 90, 91, 92, 93, 94, 95, 96, 97, 98, 99, 100, 101, 102, 103, 104, 105, 106, 107, 108, 109, 110, 111, 112, 113, 114] 42 (Uy [[]]) [[]] [] [(eA s8 Zn ((a3.take ((at3.tmod (a3.length : Int)) + 1).toNat) ++ (a3.drop (at3.tmod (a3.length : Int)).toNat)) y5 9), (eA r6 Zn ((a3.take (at3.tmod (a3.length : Int)).toNat) ++ (a3.drop ((at3.tmod (a3.length : Int)) + 1).toNat)) x5 9), (eA c9 Zn a3 r4 9), (eA v4 (intC .u8) A1 B5 5), (eI r5 t1 A5 2), (eC b1 #[iV r3.N, iV r3.S, iV r3.T, sV b7 n6 c7] 24), (eA b7 Zt r3.Arcs j8 58)]
          · exact We
          · exact rfl
          · kernel_rfl
          · kernel_rfl
          · kernel_rfl
          · kernel_rfl
          · exact rfl
          · exact rfl
          · exact rfl
          · exact Yk (by repeat constructor)
          ·
           refine ⟨?_, ?_, ?_, ?_, ?_, ?_, ?_, ?_, ?_, ?_, ?_, ?_, ?_, ?_, ?_, ?_, ?_, ?_, ?_, ?_, ?_, ?_, ?_, ?_, ?_, ?_, ?_, ?_, ?_, ?_, ?_, ?_, ?_, ?_, ?_, ?_, ?_, ?_, ?_, ?_, ?_, ?_, trivial⟩
           · rintro vs es Es Hx -; refine Zg (D := []) rfl ?_; refine Zd Za ?_; refine Zb ?_; exact Zh rfl ⟨rfl, rfl⟩ (Ze _) rfl
           · rintro vs es Es Hx -; refine Zg (D := []) rfl ?_; refine Zd Za ?_; refine Zb ?_; exact Zh rfl ⟨rfl, rfl⟩ (Ze _) rfl
           · rintro vs es Es Hx ⟨⟨e1, j1⟩, ⟨e0, k6⟩, -⟩; refine Zg (D := [(73, vs 0), (74, vs 1)]) rfl ?_; rw [e1, e0]; refine Xi Wk Zc (fun wc hwc => Wn (lines0 := a3) (c1 := r3) wc (hwc.rs (f := Zn) (s := 1) (xs := a3) (j := r4) (fun _ => rfl) Xa a8 c8 d3) (hwc.rs (f := Zt) (s := 3) (xs := r3.Arcs) (j := j8) (fun _ => rfl) Xv p9 d4 d5) (hwc.hb (cs := [iV r3.N, iV r3.S, iV r3.T, sV b7 n6 c7]) Xt) (hG.mono hwc) B6) ?_; rintro _ _ ⟨rfl, rfl⟩; refine Zb ?_; exact Zh rfl ⟨rfl, rfl⟩ (Ze _) (by show [(73, vs 0), (74, vs 1)] = _; rw [e1, e0])
           · rintro vs es Es Hx ⟨⟨e6, l4⟩, -⟩; refine Zg (D := [(75, vs 2)]) rfl ?_; rw [e6]; refine TO.not Za ?_; refine Zb ?_; exact Zh rfl ⟨rfl, rfl⟩ (Ze _) (by show [(75, vs 2)] = _; rw [e6])
           · rintro vs es Es Hx ⟨⟨e3, i7⟩, -⟩; refine Zg (D := [(76, vs 3)]) rfl ?_; rw [e3]; refine Zd Za ?_; refine Zw (t := 77) (b' := false) rfl (Bool.eq_false_iff.2 A7) ?_; refine Zb ?_; exact Wv rfl ⟨rfl, rfl⟩ (Ze _) (by show [(76, vs 3)] = _; rw [e3])
           · rintro vs es Es Hx ⟨⟨b3, c0⟩, -⟩; refine Zg (D := [(77, vs 4)]) rfl ?_; rw [b3]; refine Zd Za ?_; refine Zb ?_; exact Zh rfl ⟨rfl, rfl⟩ (Ze _) (by show [(77, vs 4)] = _; rw [b3])
           · rintro vs es Es Hx ⟨⟨b3, c0⟩, -⟩; refine Zg (D := [(77, vs 4)]) rfl ?_; rw [b3]; refine Zd Za ?_; refine Zb ?_; exact Zh rfl ⟨rfl, rfl⟩ (Ze _) (by show [(77, vs 4)] = _; rw [b3])
           · rintro vs es Es Hx ⟨⟨b3, c0⟩, ⟨c4, h1⟩, ⟨d9, j2⟩, -⟩; refine Zg (D := [(77, vs 4), (78, vs 5), (79, vs 6)]) rfl ?_; rw [b3, c4, d9]; refine Xi Wk Zc (fun wc hwc => Wn (lines0 := ((a3.take (at3.tmod (a3.length : Int)).toNat) ++ (a3.drop ((at3.tmod (a3.length : Int)) + 1).toNat))) (c1 := r3) wc (hwc.rs (f := Zn) (s := 1) (xs := ((a3.take (at3.tmod (a3.length : Int)).toNat) ++ (a3.drop ((at3.tmod (a3.length : Int)) + 1).toNat))) (j := x5) (fun _ => rfl) Xh (Wy (Ws (Ug A2)) (Wz a8)) v7 v8) (hwc.rs (f := Zt) (s := 3) (xs := r3.Arcs) (j := j8) (fun _ => rfl) Xv p9 d4 d5) (hwc.hb (cs := [iV r3.N, iV r3.S, iV r3.T, sV b7 n6 c7]) Xt) (hG.mono hwc) C7) ?_; rintro _ _ ⟨rfl, rfl⟩; refine Zb ?_; exact Zh rfl ⟨rfl, rfl⟩ (Ze _) (by show [(77, vs 4), (78, vs 5), (79, vs 6)] = _; rw [b3, c4, d9])
           · rintro vs es Es Hx ⟨⟨b3, c0⟩, ⟨e7, l5⟩, -⟩; refine Zg (D := [(77, vs 4), (80, vs 7)]) rfl ?_; rw [b3, e7]; refine Yf Zc ?_; refine Zb ?_; exact Zh rfl ⟨rfl, rfl⟩ (Ze _) (by show [(77, vs 4), (80, vs 7)] = _; rw [b3, e7])
           · rintro vs es Es Hx ⟨⟨i6, p2⟩, -⟩; refine Zg (D := [(81, vs 8)]) rfl ?_; rw [i6]; refine Zd Za ?_; refine Zw (t := 82) (b' := false) rfl (Bool.eq_false_iff.2 u3) ?_; refine Zb ?_; exact Wv rfl ⟨rfl, rfl⟩ (Ze _) (by show [(81, vs 8)] = _; rw [i6])
           · rintro vs es Es Hx ⟨⟨c6, p3⟩, -⟩; refine Zg (D := [(82, vs 9)]) rfl ?_; rw [c6]; refine Zd Za ?_; refine Zb ?_; exact Zh rfl ⟨rfl, rfl⟩ (Ze _) (by show [(82, vs 9)] = _; rw [c6])
           · rintro vs es Es Hx ⟨⟨c6, p3⟩, -⟩; refine Zg (D := [(82, vs 9)]) rfl ?_; rw [c6]; refine Zd Za ?_; refine Zb ?_; exact Zh rfl ⟨rfl, rfl⟩ (Ze _) (by show [(82, vs 9)] = _; rw [c6])
           · rintro vs es Es Hx ⟨⟨c6, p3⟩, ⟨d0, i8⟩, ⟨d1, i9⟩, -⟩; refine Zg (D := [(82, vs 9), (83, vs 10), (84, vs 11)]) rfl ?_; rw [c6, d0, d1]; refine Xi Wk Zc (fun wc hwc => Wn (lines0 := ((a3.take ((at3.tmod (a3.length : Int)) + 1).toNat) ++ (a3.drop (at3.tmod (a3.length : Int)).toNat))) (c1 := r3) wc (hwc.rs (f := Zn) (s := 1) (xs := ((a3.take ((at3.tmod (a3.length : Int)) + 1).toNat) ++ (a3.drop (at3.tmod (a3.length : Int)).toNat))) (j := y5) (fun _ => rfl) Zq (Wy (Ws (Ug A6)) (Wz a8)) x6 x7) (hwc.rs (f := Zt) (s := 3) (xs := r3.Arcs) (j := j8) (fun _ => rfl) Xv p9 d4 d5) (hwc.hb (cs := [iV r3.N, iV r3.S, iV r3.T, sV b7 n6 c7]) Xt) (hG.mono hwc) x8) ?_; rintro _ _ ⟨rfl, rfl⟩; refine Zb ?_; exact Zh rfl ⟨rfl, rfl⟩ (Ze _) (by show [(82, vs 9), (83, vs 10), (84, vs 11)] = _; rw [c6, d0, d1])
           · rintro vs es Es Hx ⟨⟨c6, p3⟩, ⟨d8, j6⟩, -⟩; refine Zg (D := [(82, vs 9), (85, vs 12)]) rfl ?_; rw [c6, d8]; refine Yf Zc ?_; refine Zb ?_; exact Zh rfl ⟨rfl, rfl⟩ (Ze _) (by show [(82, vs 9), (85, vs 12)] = _; rw [c6, d8])
           · rintro vs es Es Hx ⟨⟨e5, k2⟩, -⟩; refine Zg (D := [(86, vs 13)]) rfl ?_; rw [e5]; refine Zd Za ?_; refine Zw (t := 87) (b' := false) rfl (Bool.eq_false_iff.2 w0) ?_; refine Zb ?_; exact Wv rfl ⟨rfl, rfl⟩ (Ze _) (by show [(86, vs 13)] = _; rw [e5])
           · rintro vs es Es Hx ⟨⟨a6, b6⟩, -⟩; refine Zg (D := [(87, vs 14)]) rfl ?_; rw [a6]; refine Zd Za ?_; refine Zb ?_; exact Zh rfl ⟨rfl, rfl⟩ (Ze _) (by show [(87, vs 14)] = _; rw [a6])
           · rintro vs es Es Hx ⟨⟨a6, b6⟩, ⟨e8, k3⟩, -⟩; refine Zg (D := [(87, vs 14), (88, vs 15)]) rfl ?_; rw [a6, e8]; refine Yq (xs := a3) a8 Zc Yl ?_; refine Zb ?_; exact Zh rfl ⟨rfl, rfl⟩ (Ze _) (by show [(87, vs 14), (88, vs 15)] = _; rw [a6, e8])
           · rintro vs es Es Hx ⟨⟨a6, b6⟩, ⟨e9, m5⟩, -⟩; refine Zg (D := [(87, vs 14), (89, vs 16)]) rfl ?_; rw [a6, e9]; refine Zx Zs ?_; refine Zb ?_; exact Zh rfl ⟨rfl, rfl⟩ (Ze _) (by show [(87, vs 14), (89, vs 16)] = _; rw [a6, e9])
           · rintro vs es Es Hx ⟨⟨a6, b6⟩, ⟨f0, m6⟩, -⟩; refine Zg (D := [(87, vs 14), (90, vs 17)]) rfl ?_; rw [a6, f0]; refine Zd Za ?_; refine Zw (t := 91) (b' := true) rfl (decide_eq_true x9) ?_; refine Zb ?_; exact Wv rfl ⟨rfl, rfl⟩ (Ze _) (by show [(87, vs 14), (90, vs 17)] = _; rw [a6, f0])
           · rintro vs es Es Hx ⟨⟨a2, a7⟩, -⟩; refine Zg (D := [(91, vs 18)]) rfl ?_; rw [a2]; refine Zd Za ?_; refine Zb ?_; exact Zh rfl ⟨rfl, rfl⟩ (Ze _) (by show [(91, vs 18)] = _; rw [a2])
           · rintro vs es Es Hx ⟨⟨a2, a7⟩, -⟩; refine Zg (D := [(91, vs 18)]) rfl ?_; rw [a2]; refine Nn Zz Yl Yo ?_; intro j3; refine Zb ?_; exact Zh rfl ⟨j3, rfl, rfl⟩ (Yk (by repeat constructor)) (by show [(91, vs 18)] = _; rw [a2])
           · rintro vs es Es Hx ⟨⟨a2, a7⟩, -⟩; refine Zg (D := [(91, vs 18)]) rfl ?_; rw [a2]; refine Zd Za ?_; refine Zb ?_; exact Zh rfl ⟨rfl, rfl⟩ (Ze _) (by show [(91, vs 18)] = _; rw [a2])
           · rintro vs es Es Hx ⟨⟨a2, a7⟩, ⟨f2, m7⟩, -⟩; refine Zg (D := [(91, vs 18), (94, vs 21)]) rfl ?_; rw [a2, f2]; refine Ji (xs := a3) a8 y0 Zc Yl Yo ?_; refine Zb ?_; exact Zh rfl ⟨rfl, rfl⟩ (Ze _) (by show [(91, vs 18), (94, vs 21)] = _; rw [a2, f2])
           · rintro vs es Es Hx ⟨⟨a2, a7⟩, ⟨j3, f3, m8⟩, ⟨f4, h8⟩, -⟩; refine Zg (D := [(91, vs 18), (93, vs 20), (95, vs 22)]) rfl ?_; rw [a2, f3, f4]; refine Ym (H := _ ++ ((es 18 ++ (es 20 ++ (es 22 ++ ([])))) ++ _)) rfl ?_; rw [a7, m8, h8]; refine Vs (f := Zn) (s := 1) (xs := ([] : List Str)) (ob := some j3) (j := ([])) (ys := (a3.drop (1 : Int).toNat)) (fun _ => rfl) (fun _ => rfl) Us C8 Zc Jb rfl (Nat.le_refl _) (Wh 0 _) Xd (fun wc hwc => (RS.drop (hwc.rs (f := Zn) (s := 1) (xs := a3) (j := r4) (fun _ => rfl) Xa a8 c8 d3) y0)) ?_; intro c5 h4 j4 k7 k8 k9; refine Zb ?_; exact Zh rfl ⟨c5, h4, j4, rfl, rfl, k7, k8, k9⟩ (by show Pick (_ ++ (_ ++ ((es 18 ++ (es 22 ++ ([]))) ++ _))) _; rw [a7, h8]; exact Yk (by repeat constructor)) (by show [(91, vs 18), (93, vs 20), (95, vs 22)] = _; rw [a2, f3, f4])
           · rintro vs es Es Hx ⟨⟨a2, a7⟩, -⟩; refine Zg (D := [(91, vs 18)]) rfl ?_; rw [a2]; refine Zd Za ?_; refine Zb ?_; exact Zh rfl ⟨rfl, rfl⟩ (Ze _) (by show [(91, vs 18)] = _; rw [a2])
           · rintro vs es Es Hx ⟨⟨a2, a7⟩, ⟨d2, k4⟩, -⟩; refine Zg (D := [(91, vs 18), (97, vs 24)]) rfl ?_; rw [a2, d2]; refine Vz d3 c8 a8 y1 Zc Yl Yo ?_; refine Zb ?_; exact Zh rfl ⟨rfl, rfl⟩ (Ze _) (by show [(91, vs 18), (97, vs 24)] = _; rw [a2, d2])
           · rintro vs es Es Hx ⟨⟨a2, a7⟩, ⟨d2, k4⟩, ⟨f5, m9⟩, -⟩; refine Zg (D := [(91, vs 18), (97, vs 24), (98, vs 25)]) rfl ?_; rw [a2, d2, f5]; refine Kl (f := Zn) (v := .string (bs (a3.getD (0 : Int).toNat ([] : Str)))) ([] : Str) (fun _ => rfl) d3 c8 a8 y1 Zc Wg Xa ?_; refine Zb ?_; exact Zh rfl ⟨rfl, rfl⟩ (Ze _) (by show [(91, vs 18), (97, vs 24), (98, vs 25)] = _; rw [a2, d2, f5])
           · rintro vs es Es Hx ⟨⟨a2, a7⟩, ⟨f6, n7⟩, -⟩; refine Zg (D := [(91, vs 18), (99, vs 26)]) rfl ?_; rw [a2, f6]; refine Vq [.string ByteArray.empty] [0] Za Yl Yo Gd Xj (by simp only [Xx, setCells, Value.cells, List.toList_toArray, List.getD_cons_zero, List.getD_cons_succ, List.set_cons_zero, List.set_cons_succ]; rfl) (by kernel_rfl) ?_; intro l6; refine Zb ?_; exact Zh rfl ⟨l6, rfl, rfl⟩ (Yk (by repeat constructor)) (by show [(91, vs 18), (99, vs 26)] = _; rw [a2, f6])
           · rintro vs es Es Hx ⟨⟨a2, a7⟩, ⟨c5, h4, j4, f7, n8, k7, k8, k9⟩, ⟨l6, f8, h9⟩, -⟩; refine Zg (D := [(91, vs 18), (96, vs 23), (100, vs 27)]) rfl ?_; rw [a2, f7, f8]; refine Ym (H := _ ++ ((es 18 ++ (es 23 ++ (es 27 ++ ([])))) ++ _)) rfl ?_; rw [a7, n8, h9]; refine Vs (f := Zn) (s := 1) (xs := (a3.drop (1 : Int).toNat)) (ob := c5) (j := j4) (ys := [(a3.getD (0 : Int).toNat ([] : Str))]) (fun _ => rfl) (fun _ => rfl) Us C9 Zc Jb (Ws (Wz a8)) k7 k8 k9 (fun wc hwc => (hwc.rs (f := Zn) (s := 1) (xs := [(a3.getD (0 : Int).toNat ([] : Str))]) (j := ([])) (fun _ => rfl) mm8 rfl (Nat.le_refl _) Xd)) ?_; intro d7 h5 j5 l0 q0 l3; refine Zb ?_; exact Zh rfl ⟨d7, h5, j5, rfl, rfl, l0, q0, l3⟩ (by show Pick (_ ++ (_ ++ ((es 18 ++ (es 27 ++ ([]))) ++ _))) _; rw [a7, h9]; exact Yk (by repeat constructor)) (by show [(91, vs 18), (96, vs 23), (100, vs 27)] = _; rw [a2, f7, f8])
           · rintro vs es Es Hx ⟨⟨a2, a7⟩, ⟨f9, i4⟩, ⟨d7, h5, j5, g0, i5, l0, q0, l3⟩, -⟩; refine Zg (D := [(91, vs 18), (92, vs 19), (101, vs 28)]) rfl ?_; rw [a2, f9, g0]; refine Ym (H := _ ++ ((es 18 ++ (es 19 ++ (es 28 ++ ([])))) ++ _)) rfl ?_; rw [a7, i4, i5]; refine Xi Wk Zc (fun wc hwc => Wn (lines0 := ((a3.drop (1 : Int).toNat) ++ ([(a3.getD (0 : Int).toNat ([] : Str))]))) (c1 := r3) wc (hwc.rs (f := Zn) (s := 1) (xs := ((a3.drop (1 : Int).toNat) ++ ([(a3.getD (0 : Int).toNat ([] : Str))]))) (j := j5) (fun _ => rfl) mm7 (Wy (Ws (Wz a8)) rfl) l0 l3) (hwc.rs (f := Zt) (s := 3) (xs := r3.Arcs) (j := j8) (fun _ => rfl) Xv p9 d4 d5) (hwc.hb (cs := [iV r3.N, iV r3.S, iV r3.T, sV b7 n6 c7]) Xt) (hG.mono hwc) D0) ?_; rintro _ _ ⟨rfl, rfl⟩; refine Zb ?_; exact Zh rfl ⟨rfl, rfl⟩ (by show Pick (_ ++ (_ ++ ((es 18 ++ (es 19 ++ (es 28 ++ ([])))) ++ _))) _; rw [a7, i4, i5]; exact Yk (by repeat constructor)) (by show [(91, vs 18), (92, vs 19), (101, vs 28)] = _; rw [a2, f9, g0])
           · rintro vs es Es Hx ⟨⟨a6, b6⟩, ⟨a2, a7⟩, ⟨g1, o0⟩, -⟩; refine Zg (D := [(87, vs 14), (91, vs 18), (102, vs 29)]) rfl ?_; rw [a6, a2, g1]; refine Yr Zc ?_; refine Zb ?_; exact Zh rfl ⟨rfl, rfl⟩ (Ze _) (by show [(87, vs 14), (91, vs 18), (102, vs 29)] = _; rw [a6, a2, g1])
           · rintro vs es Es Hx ⟨⟨a6, b6⟩, ⟨g2, o1⟩, -⟩; refine Zg (D := [(87, vs 14), (103, vs 30)]) rfl ?_; rw [a6, g2]; refine Yf Zc ?_; refine Zb ?_; exact Zh rfl ⟨rfl, rfl⟩ (Ze _) (by show [(87, vs 14), (103, vs 30)] = _; rw [a6, g2])
           · rintro vs es Es Hx ⟨⟨g3, o2⟩, -⟩; refine Zg (D := [(104, vs 31)]) rfl ?_; rw [g3]; refine Zd Za ?_; refine Zw (t := 105) (b' := true) rfl A8 ?_; refine Zb ?_; exact Wv rfl ⟨rfl, rfl⟩ (Ze _) (by show [(104, vs 31)] = _; rw [g3])
           · rintro vs es Es Hx ⟨⟨a4, a9⟩, -⟩; refine Zg (D := [(105, vs 32)]) rfl ?_; rw [a4]; refine Zi Za ?_; refine Zb ?_; exact Zh rfl ⟨rfl, rfl⟩ (Ze _) (by show [(105, vs 32)] = _; rw [a4])
           · rintro vs es Es Hx ⟨⟨a4, a9⟩, -⟩; refine Zg (D := [(105, vs 32)]) rfl ?_; rw [a4]; refine Zi Za ?_; refine Zb ?_; exact Zh rfl ⟨rfl, rfl⟩ (Ze _) (by show [(105, vs 32)] = _; rw [a4])
           · rintro vs es Es Hx ⟨⟨a4, a9⟩, ⟨b8, j7⟩, -⟩; refine Zg (D := [(105, vs 32), (107, vs 34)]) rfl ?_; rw [a4, b8]; refine Zi Za ?_; refine Zb ?_; exact Zh rfl ⟨rfl, rfl⟩ (Ze _) (by show [(105, vs 32), (107, vs 34)] = _; rw [a4, b8])
           · rintro vs es Es Hx ⟨⟨a4, a9⟩, ⟨g4, o3⟩, -⟩; refine Zg (D := [(105, vs 32), (108, vs 35)]) rfl ?_; rw [a4, g4]; refine Zi Za ?_; refine Zb ?_; exact Zh rfl ⟨rfl, rfl⟩ (Ze _) (by show [(105, vs 32), (108, vs 35)] = _; rw [a4, g4])
           · rintro vs es Es Hx ⟨⟨a4, a9⟩, ⟨g5, o4⟩, -⟩; refine Zg (D := [(105, vs 32), (109, vs 36)]) rfl ?_; rw [a4, g5]; refine Zi Za ?_; refine Zb ?_; exact Zh rfl ⟨rfl, rfl⟩ (Ze _) (by show [(105, vs 32), (109, vs 36)] = _; rw [a4, g5])
           · rintro vs es Es Hx ⟨⟨a4, a9⟩, ⟨g6, o6⟩, -⟩; refine Zg (D := [(105, vs 32), (110, vs 37)]) rfl ?_; rw [a4, g6]; refine Zi Za ?_; refine Zb ?_; exact Zh rfl ⟨rfl, rfl⟩ (Ze _) (by show [(105, vs 32), (110, vs 37)] = _; rw [a4, g6])
           · rintro vs es Es Hx ⟨⟨a4, a9⟩, -⟩; refine Zg (D := [(105, vs 32)]) rfl ?_; rw [a4]; refine Zi Za ?_; refine Zb ?_; exact Zh rfl ⟨rfl, rfl⟩ (Ze _) (by show [(105, vs 32)] = _; rw [a4])
           · rintro vs es Es Hx ⟨⟨a4, a9⟩, ⟨g7, o7⟩, -⟩; refine Zg (D := [(105, vs 32), (112, vs 39)]) rfl ?_; rw [a4, g7]; refine Zi Za ?_; refine Zb ?_; exact Zh rfl ⟨rfl, rfl⟩ (Ze _) (by show [(105, vs 32), (112, vs 39)] = _; rw [a4, g7])
           · rintro vs es Es Hx ⟨⟨a4, a9⟩, ⟨g8, o8⟩, ⟨g9, h3⟩, -⟩; refine Zg (D := [(105, vs 32), (111, vs 38), (113, vs 40)]) rfl ?_; rw [a4, g8, g9]; refine Zi Za ?_; refine Zb ?_; exact Zh rfl ⟨rfl, rfl⟩ (Ze _) (by show [(105, vs 32), (111, vs 38), (113, vs 40)] = _; rw [a4, g8, g9])
          · rintro vs es hb ⟨⟨e1, j1⟩, ⟨e0, k6⟩, ⟨e6, l4⟩, ⟨e3, i7⟩, ⟨b3, c0⟩, ⟨c4, h1⟩, ⟨d9, j2⟩, ⟨e7, l5⟩, ⟨i6, p2⟩, ⟨c6, p3⟩, ⟨d0, i8⟩, ⟨d1, i9⟩, ⟨d8, j6⟩, ⟨e5, k2⟩, ⟨a6, b6⟩, ⟨e8, k3⟩, ⟨e9, m5⟩, ⟨f0, m6⟩, ⟨a2, a7⟩, ⟨f9, i4⟩, ⟨j3, f3, m8⟩, ⟨f2, m7⟩, ⟨f4, h8⟩, ⟨c5, h4, j4, f7, n8, k7, k8, k9⟩, ⟨d2, k4⟩, ⟨f5, m9⟩, ⟨f6, n7⟩, ⟨l6, f8, h9⟩, ⟨d7, h5, j5, g0, i5, l0, q0, l3⟩, ⟨g1, o0⟩, ⟨g2, o1⟩, ⟨g3, o2⟩, ⟨a4, a9⟩, ⟨q6, q7⟩, ⟨b8, j7⟩, ⟨g4, o3⟩, ⟨g5, o4⟩, ⟨g6, o6⟩, ⟨g8, o8⟩, ⟨g7, o7⟩, ⟨g9, h3⟩, ⟨q8, q9⟩, -⟩ hHR; obtain rfl : hb = [] := hHR; refine Zg (D := [(73, vs 0), (74, vs 1), (75, vs 2), (76, vs 3), (77, vs 4), (78, vs 5), (79, vs 6), (80, vs 7), (81, vs 8), (82, vs 9), (83, vs 10), (84, vs 11), (85, vs 12), (86, vs 13), (87, vs 14), (88, vs 15), (89, vs 16), (90, vs 17), (91, vs 18), (92, vs 19), (93, vs 20), (94, vs 21), (95, vs 22), (96, vs 23), (97, vs 24), (98, vs 25), (99, vs 26), (100, vs 27), (101, vs 28), (102, vs 29), (103, vs 30), (104, vs 31), (105, vs 32), (106, vs 33), (107, vs 34), (108, vs 35), (109, vs 36), (110, vs 37), (111, vs 38), (112, vs 39), (113, vs 40), (114, vs 41)]) rfl ?_; refine Ym (H := _ ++ (_ ++ (es 0 ++ (es 1 ++ (es 2 ++ (es 3 ++ (es 4 ++ (es 5 ++ (es 6 ++ (es 7 ++ (es 8 ++ (es 9 ++ (es 10 ++ (es 11 ++ (es 12 ++ (es 13 ++ (es 14 ++ (es 15 ++ (es 16 ++ (es 17 ++ (es 18 ++ (es 19 ++ (es 21 ++ (es 22 ++ (es 24 ++ (es 25 ++ (es 26 ++ (es 27 ++ (es 28 ++ (es 29 ++ (es 30 ++ (es 31 ++ (es 32 ++ (es 33 ++ (es 34 ++ (es 35 ++ (es 36 ++ (es 37 ++ (es 38 ++ (es 39 ++ (es 40 ++ (es 41 ++ ([]))))))))))))))))))))))))))))))))))))))))))) rfl ?_; rw [j1, k6, l4, i7, c0, h1, j2, l5, p2, p3, i8, i9, j6, k2, b6, k3, m5, m6, a7, i4, m7, h8, k4, m9, n7, h9, i5, o0, o1, o2, a9, q7, j7, o3, o4, o6, o8, o7, h3, q9]; rw [e1, e0, e6, e3, b3, c4, d9, e7, i6, c6, d0, d1, d8, e5, a6, e8, e9, f0, a2, f9, f3, f2, f4, f7, d2, f5, f6, f8, g0, g1, g2, g3, a4, q6, b8, g4, g5, g6, g8, g7, g9, q8]; clear q8 g9 g7 g8 g6 g5 g4 b8 q6 a4 g3 g2 g1 g0 f8 f6 f5 d2 f7 f4 f2 f3 f9 a2 f0 e9 e8 a6 e5 d8 d1 d0 c6 i6 e7 d9 c4 b3 e3 e6 e0 e1 j1 k6 l4 i7 c0 h1 j2 l5 p2 p3 i8 i9 j6 k2 b6 k3 m5 m6 a7 i4 m8 m7 h8 n8 k4 m9 n7 h9 i5 o0 o1 o2 a9 q7 j7 o3 o4 o6 o8 o7 h3 q9; refine Zi Za ?_; refine Zi Za ?_; refine Yu Za ?_; refine Yu Za ?_; refine Yu Za ?_; refine Yu Za ?_; refine Zi Za ?_; refine Yr Zc ?_; refine Zb ?_; exact Yz true H (aF rfl) (Zj Wu (Zj Wu (Zj Kw Zk)))
         ·
          obtain ⟨A9, F3, B0, F4, H⟩ := gd4 H; obtain ⟨N5, F5, H⟩ := Zu H; rcases Zv H with ⟨D1, H⟩ | ⟨D1, H⟩
          ·
           obtain ⟨F6, H⟩ := Yj H; apply Kf (⟨[], false, [], Zl (.func (.func 27) #[] #[pV b1])⟩ :: ⟨[], false, [], Zl (sV c9 d6 p1)⟩ :: ⟨[0, 1], false, [], Zl (.bool A3)⟩ :: ⟨[2], false, [], Zl (.bool (!A3))⟩ :: ⟨[3], false, [], Zl (.bool false)⟩ :: ⟨[4], false, [], Zl (.func (.func 27) #[] #[pV b1])⟩ :: ⟨[4], false, [], Zl (sV r6 ((0 + (at3.tmod (a3.length : Int)).toNat) + (d6 - ((at3.tmod (a3.length : Int)) + 1).toNat)) F2)⟩ :: ⟨[4, 5, 6], false, [], Zl (.bool A4)⟩ :: ⟨[4, 7], false, [], Zl (.bool A4)⟩ :: ⟨[8], false, [], Zl (.bool false)⟩ :: ⟨[9], false, [], Zl (.func (.func 27) #[] #[pV b1])⟩ :: ⟨[9], false, [], Zl (sV s8 ((0 + ((at3.tmod (a3.length : Int)) + 1).toNat) + (d6 - (at3.tmod (a3.length : Int)).toNat)) c89)⟩ :: ⟨[9, 10, 11], false, [], Zl (.bool t0)⟩ :: ⟨[9, 12], false, [], Zl (.bool t0)⟩ :: ⟨[13], false, [], Zl (.bool false)⟩ :: ⟨[14], false, [], Zl (sV c9 d6 p1)⟩ :: ⟨[14, 15], false, [], Zl (iV (a3.length : Int))⟩ :: ⟨[14, 16], false, [], Zl (.bool (decide (1 < (a3.length : Int))))⟩ :: ⟨[14, 17], false, [], Zl (.bool true)⟩ :: ⟨[18], false, [], Zl (.func (.func 27) #[] #[pV b1])⟩ :: ⟨[18], false, [], fun _ v e => ∃ (j3 : Nat), v = nV j3 0 0 ∧ e = [(eA (some j3) Zn ([] : List Str) ([]) 9)]⟩ :: ⟨[18], false, [], Zl (sV c9 d6 p1)⟩ :: ⟨[18, 21], false, [], Zl (.slice (Vk (sb c9) (1 : Int).toNat p1 1) (d6 - (1 : Int).toNat) (p1 - (1 : Int).toNat))⟩ :: ⟨[18, 20, 22], false, [20], fun _ v e => ∃ (c5 : Option Nat) (h4 : Nat) (j4 : List Value), v = sV c5 (0 + (d6 - (1 : Int).toNat)) h4 ∧ e = [(eA c5 Zn (a3.drop (1 : Int).toNat) j4 9)] ∧ (0 + (d6 - (1 : Int).toNat)) ≤ h4 ∧ j4.length = (h4 - (0 + (d6 - (1 : Int).toNat))) * 1 ∧ (c5 = none → h4 = 0)⟩ :: ⟨[18], false, [], Zl (sV c9 d6 p1)⟩ :: rV [18, 24] _ :: ⟨[18, 24, 25], false, [], Zl (.string (bs (a3.getD (0 : Int).toNat ([] : Str))))⟩ :: ⟨[18, 26], false, [], fun _ v e => ∃ (l6 : Nat), v = nV l6 1 1 ∧ e = [(eA (some l6) Zn ([(a3.getD (0 : Int).toNat ([] : Str))]) ([]) 9)]⟩ :: ⟨[18, 23, 27], false, [23], fun _ v e => ∃ (d7 : Option Nat) (h5 : Nat) (j5 : List Value), v = sV d7 ((0 + (d6 - (1 : Int).toNat)) + 1) h5 ∧ e = [(eA d7 Zn ((a3.drop (1 : Int).toNat) ++ ([(a3.getD (0 : Int).toNat ([] : Str))])) j5 9)] ∧ ((0 + (d6 - (1 : Int).toNat)) + 1) ≤ h5 ∧ j5.length = (h5 - ((0 + (d6 - (1 : Int).toNat)) + 1)) * 1 ∧ (d7 = none → h5 = 0)⟩ :: ⟨[18, 19, 28], false, [], Zl (.bool u1)⟩ :: ⟨[14, 18, 29], false, [], Zl (.bool u1)⟩ :: ⟨[14, 30], false, [], Zl (.bool u1)⟩ :: ⟨[31], false, [], Zl (.bool false)⟩ :: ⟨[32], false, [], Zl (.func (.func 27) #[] #[pV b1])⟩ :: ⟨[32], false, [], Zl (sV c9 d6 p1)⟩ :: rV [32, 34] _ :: ⟨[32, 34, 35], false, [], Zl (.string (bs (a3.getD (0 : Int).toNat ([] : Str))))⟩ :: ⟨[32, 36], false, [], Zl (.string (bs ((a3.getD (0 : Int).toNat ([] : Str)) ++ ([48] : Str))))⟩ :: ⟨[32, 37], false, [], fun _ v e => ∃ (q3 : Nat), v = nV q3 1 1 ∧ e = [(eA (some q3) Zn ([((a3.getD (0 : Int).toNat ([] : Str)) ++ ([48] : Str))]) ([]) 9)]⟩ :: ⟨[32], false, [], Zl (sV c9 d6 p1)⟩ :: ⟨[32, 39], false, [], Zl (.slice (Vk (sb c9) (1 : Int).toNat p1 1) (d6 - (1 : Int).toNat) (p1 - (1 : Int).toNat))⟩ :: ⟨[32, 38, 40], false, [38], fun _ v e => ∃ (l7 : Option Nat) (c137 : Nat) (r1 : List Value), v = sV l7 (1 + (d6 - (1 : Int).toNat)) c137 ∧ e = [(eA l7 Zn (([((a3.getD (0 : Int).toNat ([] : Str)) ++ ([48] : Str))]) ++ (a3.drop (1 : Int).toNat)) r1 9)] ∧ (1 + (d6 - (1 : Int).toNat)) ≤ c137 ∧ r1.length = (c137 - (1 + (d6 - (1 : Int).toNat))) * 1 ∧ (l7 = none → c137 = 0)⟩ :: []) [73, 74, 75, 76, 77, 78, 79, 80, 81, 82, 83, 84, 85, 86, 87, 88, 89, 90, 91, 92, 93, 94, 95, 96, 97, 98, 99, 100, 101, 102, 103, 104, 105, 106, 107, 108, 109, 110, 111, 112, 113, 114] 42 (Uy [[]]) [[]] [] [(eA s8 Zn ((a3.take ((at3.tmod (a3.length : Int)) + 1).toNat) ++ (a3.drop (at3.tmod (a3.length : Int)).toNat)) y5 9), (eA r6 Zn ((a3.take (at3.tmod (a3.length : Int)).toNat) ++ (a3.drop ((at3.tmod (a3.length : Int)) + 1).toNat)) x5 9), (eA c9 Zn a3 r4 9), (eA v4 (intC .u8) A1 B5 5), (eI r5 t1 A5 2), (eC b1 #[iV r3.N, iV r3.S, iV r3.T, sV b7 n6 c7] 24), (eA b7 Zt r3.Arcs j8 58)]
           · exact We
           · exact rfl
           · kernel_rfl
           · kernel_rfl
           · kernel_rfl
           · kernel_rfl
           · exact rfl
           · exact rfl
           · exact rfl
           · exact Yk (by repeat constructor)
           ·
            refine ⟨?_, ?_, ?_, ?_, ?_, ?_, ?_, ?_, ?_, ?_, ?_, ?_, ?_, ?_, ?_, ?_, ?_, ?_, ?_, ?_, ?_, ?_, ?_, ?_, ?_, ?_, ?_, ?_, ?_, ?_, ?_, ?_, ?_, ?_, ?_, ?_, ?_, ?_, ?_, ?_, ?_, ?_, trivial⟩
            · rintro vs es Es Hx -; refine Zg (D := []) rfl ?_; refine Zd Za ?_; refine Zb ?_; exact Zh rfl ⟨rfl, rfl⟩ (Ze _) rfl
            · rintro vs es Es Hx -; refine Zg (D := []) rfl ?_; refine Zd Za ?_; refine Zb ?_; exact Zh rfl ⟨rfl, rfl⟩ (Ze _) rfl
            · rintro vs es Es Hx ⟨⟨e1, j1⟩, ⟨e0, k6⟩, -⟩; refine Zg (D := [(73, vs 0), (74, vs 1)]) rfl ?_; rw [e1, e0]; refine Xi Wk Zc (fun wc hwc => Wn (lines0 := a3) (c1 := r3) wc (hwc.rs (f := Zn) (s := 1) (xs := a3) (j := r4) (fun _ => rfl) Xa a8 c8 d3) (hwc.rs (f := Zt) (s := 3) (xs := r3.Arcs) (j := j8) (fun _ => rfl) Xv p9 d4 d5) (hwc.hb (cs := [iV r3.N, iV r3.S, iV r3.T, sV b7 n6 c7]) Xt) (hG.mono hwc) B6) ?_; rintro _ _ ⟨rfl, rfl⟩; refine Zb ?_; exact Zh rfl ⟨rfl, rfl⟩ (Ze _) (by show [(73, vs 0), (74, vs 1)] = _; rw [e1, e0])
            · rintro vs es Es Hx ⟨⟨e6, l4⟩, -⟩; refine Zg (D := [(75, vs 2)]) rfl ?_; rw [e6]; refine TO.not Za ?_; refine Zb ?_; exact Zh rfl ⟨rfl, rfl⟩ (Ze _) (by show [(75, vs 2)] = _; rw [e6])
            · rintro vs es Es Hx ⟨⟨e3, i7⟩, -⟩; refine Zg (D := [(76, vs 3)]) rfl ?_; rw [e3]; refine Zd Za ?_; refine Zw (t := 77) (b' := false) rfl (Bool.eq_false_iff.2 A7) ?_; refine Zb ?_; exact Wv rfl ⟨rfl, rfl⟩ (Ze _) (by show [(76, vs 3)] = _; rw [e3])
            · rintro vs es Es Hx ⟨⟨b3, c0⟩, -⟩; refine Zg (D := [(77, vs 4)]) rfl ?_; rw [b3]; refine Zd Za ?_; refine Zb ?_; exact Zh rfl ⟨rfl, rfl⟩ (Ze _) (by show [(77, vs 4)] = _; rw [b3])
            · rintro vs es Es Hx ⟨⟨b3, c0⟩, -⟩; refine Zg (D := [(77, vs 4)]) rfl ?_; rw [b3]; refine Zd Za ?_; refine Zb ?_; exact Zh rfl ⟨rfl, rfl⟩ (Ze _) (by show [(77, vs 4)] = _; rw [b3])
            · rintro vs es Es Hx ⟨⟨b3, c0⟩, ⟨c4, h1⟩, ⟨d9, j2⟩, -⟩; refine Zg (D := [(77, vs 4), (78, vs 5), (79, vs 6)]) rfl ?_; rw [b3, c4, d9]; refine Xi Wk Zc (fun wc hwc => Wn (lines0 := ((a3.take (at3.tmod (a3.length : Int)).toNat) ++ (a3.drop ((at3.tmod (a3.length : Int)) + 1).toNat))) (c1 := r3) wc (hwc.rs (f := Zn) (s := 1) (xs := ((a3.take (at3.tmod (a3.length : Int)).toNat) ++ (a3.drop ((at3.tmod (a3.length : Int)) + 1).toNat))) (j := x5) (fun _ => rfl) Xh (Wy (Ws (Ug A2)) (Wz a8)) v7 v8) (hwc.rs (f := Zt) (s := 3) (xs := r3.Arcs) (j := j8) (fun _ => rfl) Xv p9 d4 d5) (hwc.hb (cs := [iV r3.N, iV r3.S, iV r3.T, sV b7 n6 c7]) Xt) (hG.mono hwc) C7) ?_; rintro _ _ ⟨rfl, rfl⟩; refine Zb ?_; exact Zh rfl ⟨rfl, rfl⟩ (Ze _) (by show [(77, vs 4), (78, vs 5), (79, vs 6)] = _; rw [b3, c4, d9])
            · rintro vs es Es Hx ⟨⟨b3, c0⟩, ⟨e7, l5⟩, -⟩; refine Zg (D := [(77, vs 4), (80, vs 7)]) rfl ?_; rw [b3, e7]; refine Yf Zc ?_; refine Zb ?_; exact Zh rfl ⟨rfl, rfl⟩ (Ze _) (by show [(77, vs 4), (80, vs 7)] = _; rw [b3, e7])
            · rintro vs es Es Hx ⟨⟨i6, p2⟩, -⟩; refine Zg (D := [(81, vs 8)]) rfl ?_; rw [i6]; refine Zd Za ?_; refine Zw (t := 82) (b' := false) rfl (Bool.eq_false_iff.2 u3) ?_; refine Zb ?_; exact Wv rfl ⟨rfl, rfl⟩ (Ze _) (by show [(81, vs 8)] = _; rw [i6])
            · rintro vs es Es Hx ⟨⟨c6, p3⟩, -⟩; refine Zg (D := [(82, vs 9)]) rfl ?_; rw [c6]; refine Zd Za ?_; refine Zb ?_; exact Zh rfl ⟨rfl, rfl⟩ (Ze _) (by show [(82, vs 9)] = _; rw [c6])
            · rintro vs es Es Hx ⟨⟨c6, p3⟩, -⟩; refine Zg (D := [(82, vs 9)]) rfl ?_; rw [c6]; refine Zd Za ?_; refine Zb ?_; exact Zh rfl ⟨rfl, rfl⟩ (Ze _) (by show [(82, vs 9)] = _; rw [c6])
            · rintro vs es Es Hx ⟨⟨c6, p3⟩, ⟨d0, i8⟩, ⟨d1, i9⟩, -⟩; refine Zg (D := [(82, vs 9), (83, vs 10), (84, vs 11)]) rfl ?_; rw [c6, d0, d1]; refine Xi Wk Zc (fun wc hwc => Wn (lines0 := ((a3.take ((at3.tmod (a3.length : Int)) + 1).toNat) ++ (a3.drop (at3.tmod (a3.length : Int)).toNat))) (c1 := r3) wc (hwc.rs (f := Zn) (s := 1) (xs := ((a3.take ((at3.tmod (a3.length : Int)) + 1).toNat) ++ (a3.drop (at3.tmod (a3.length : Int)).toNat))) (j := y5) (fun _ => rfl) Zq (Wy (Ws (Ug A6)) (Wz a8)) x6 x7) (hwc.rs (f := Zt) (s := 3) (xs := r3.Arcs) (j := j8) (fun _ => rfl) Xv p9 d4 d5) (hwc.hb (cs := [iV r3.N, iV r3.S, iV r3.T, sV b7 n6 c7]) Xt) (hG.mono hwc) x8) ?_; rintro _ _ ⟨rfl, rfl⟩; refine Zb ?_; exact Zh rfl ⟨rfl, rfl⟩ (Ze _) (by show [(82, vs 9), (83, vs 10), (84, vs 11)] = _; rw [c6, d0, d1])
            · rintro vs es Es Hx ⟨⟨c6, p3⟩, ⟨d8, j6⟩, -⟩; refine Zg (D := [(82, vs 9), (85, vs 12)]) rfl ?_; rw [c6, d8]; refine Yf Zc ?_; refine Zb ?_; exact Zh rfl ⟨rfl, rfl⟩ (Ze _) (by show [(82, vs 9), (85, vs 12)] = _; rw [c6, d8])
            · rintro vs es Es Hx ⟨⟨e5, k2⟩, -⟩; refine Zg (D := [(86, vs 13)]) rfl ?_; rw [e5]; refine Zd Za ?_; refine Zw (t := 87) (b' := false) rfl (Bool.eq_false_iff.2 w0) ?_; refine Zb ?_; exact Wv rfl ⟨rfl, rfl⟩ (Ze _) (by show [(86, vs 13)] = _; rw [e5])
            · rintro vs es Es Hx ⟨⟨a6, b6⟩, -⟩; refine Zg (D := [(87, vs 14)]) rfl ?_; rw [a6]; refine Zd Za ?_; refine Zb ?_; exact Zh rfl ⟨rfl, rfl⟩ (Ze _) (by show [(87, vs 14)] = _; rw [a6])
            · rintro vs es Es Hx ⟨⟨a6, b6⟩, ⟨e8, k3⟩, -⟩; refine Zg (D := [(87, vs 14), (88, vs 15)]) rfl ?_; rw [a6, e8]; refine Yq (xs := a3) a8 Zc Yl ?_; refine Zb ?_; exact Zh rfl ⟨rfl, rfl⟩ (Ze _) (by show [(87, vs 14), (88, vs 15)] = _; rw [a6, e8])
            · rintro vs es Es Hx ⟨⟨a6, b6⟩, ⟨e9, m5⟩, -⟩; refine Zg (D := [(87, vs 14), (89, vs 16)]) rfl ?_; rw [a6, e9]; refine Zx Zs ?_; refine Zb ?_; exact Zh rfl ⟨rfl, rfl⟩ (Ze _) (by show [(87, vs 14), (89, vs 16)] = _; rw [a6, e9])
            · rintro vs es Es Hx ⟨⟨a6, b6⟩, ⟨f0, m6⟩, -⟩; refine Zg (D := [(87, vs 14), (90, vs 17)]) rfl ?_; rw [a6, f0]; refine Zd Za ?_; refine Zw (t := 91) (b' := true) rfl (decide_eq_true x9) ?_; refine Zb ?_; exact Wv rfl ⟨rfl, rfl⟩ (Ze _) (by show [(87, vs 14), (90, vs 17)] = _; rw [a6, f0])
            · rintro vs es Es Hx ⟨⟨a2, a7⟩, -⟩; refine Zg (D := [(91, vs 18)]) rfl ?_; rw [a2]; refine Zd Za ?_; refine Zb ?_; exact Zh rfl ⟨rfl, rfl⟩ (Ze _) (by show [(91, vs 18)] = _; rw [a2])
            · rintro vs es Es Hx ⟨⟨a2, a7⟩, -⟩; refine Zg (D := [(91, vs 18)]) rfl ?_; rw [a2]; refine Nn Zz Yl Yo ?_; intro j3; refine Zb ?_; exact Zh rfl ⟨j3, rfl, rfl⟩ (Yk (by repeat constructor)) (by show [(91, vs 18)] = _; rw [a2])
            · rintro vs es Es Hx ⟨⟨a2, a7⟩, -⟩; refine Zg (D := [(91, vs 18)]) rfl ?_; rw [a2]; refine Zd Za ?_; refine Zb ?_; exact Zh rfl ⟨rfl, rfl⟩ (Ze _) (by show [(91, vs 18)] = _; rw [a2])
            · rintro vs es Es Hx ⟨⟨a2, a7⟩, ⟨f2, m7⟩, -⟩; refine Zg (D := [(91, vs 18), (94, vs 21)]) rfl ?_; rw [a2, f2]; refine Ji (xs := a3) a8 y0 Zc Yl Yo ?_; refine Zb ?_; exact Zh rfl ⟨rfl, rfl⟩ (Ze _) (by show [(91, vs 18), (94, vs 21)] = _; rw [a2, f2])
            · rintro vs es Es Hx ⟨⟨a2, a7⟩, ⟨j3, f3, m8⟩, ⟨f4, h8⟩, -⟩; refine Zg (D := [(91, vs 18), (93, vs 20), (95, vs 22)]) rfl ?_; rw [a2, f3, f4]; refine Ym (H := _ ++ ((es 18 ++ (es 20 ++ (es 22 ++ ([])))) ++ _)) rfl ?_; rw [a7, m8, h8]; refine Vs (f := Zn) (s := 1) (xs := ([] : List Str)) (ob := some j3) (j := ([])) (ys := (a3.drop (1 : Int).toNat)) (fun _ => rfl) (fun _ => rfl) Us C8 Zc Jb rfl (Nat.le_refl _) (Wh 0 _) Xd (fun wc hwc => (RS.drop (hwc.rs (f := Zn) (s := 1) (xs := a3) (j := r4) (fun _ => rfl) Xa a8 c8 d3) y0)) ?_; intro c5 h4 j4 k7 k8 k9; refine Zb ?_; exact Zh rfl ⟨c5, h4, j4, rfl, rfl, k7, k8, k9⟩ (by show Pick (_ ++ (_ ++ ((es 18 ++ (es 22 ++ ([]))) ++ _))) _; rw [a7, h8]; exact Yk (by repeat constructor)) (by show [(91, vs 18), (93, vs 20), (95, vs 22)] = _; rw [a2, f3, f4])
            · rintro vs es Es Hx ⟨⟨a2, a7⟩, -⟩; refine Zg (D := [(91, vs 18)]) rfl ?_; rw [a2]; refine Zd Za ?_; refine Zb ?_; exact Zh rfl ⟨rfl, rfl⟩ (Ze _) (by show [(91, vs 18)] = _; rw [a2])
            · rintro vs es Es Hx ⟨⟨a2, a7⟩, ⟨d2, k4⟩, -⟩; refine Zg (D := [(91, vs 18), (97, vs 24)]) rfl ?_; rw [a2, d2]; refine Vz d3 c8 a8 y1 Zc Yl Yo ?_; refine Zb ?_; exact Zh rfl ⟨rfl, rfl⟩ (Ze _) (by show [(91, vs 18), (97, vs 24)] = _; rw [a2, d2])
            · rintro vs es Es Hx ⟨⟨a2, a7⟩, ⟨d2, k4⟩, ⟨f5, m9⟩, -⟩; refine Zg (D := [(91, vs 18), (97, vs 24), (98, vs 25)]) rfl ?_; rw [a2, d2, f5]; refine Kl (f := Zn) (v := .string (bs (a3.getD (0 : Int).toNat ([] : Str)))) ([] : Str) (fun _ => rfl) d3 c8 a8 y1 Zc Wg Xa ?_; refine Zb ?_; exact Zh rfl ⟨rfl, rfl⟩ (Ze _) (by show [(91, vs 18), (97, vs 24), (98, vs 25)] = _; rw [a2, d2, f5])
            · rintro vs es Es Hx ⟨⟨a2, a7⟩, ⟨f6, n7⟩, -⟩; refine Zg (D := [(91, vs 18), (99, vs 26)]) rfl ?_; rw [a2, f6]; refine Vq [.string ByteArray.empty] [0] Za Yl Yo Gd Xj (by simp only [Xx, setCells, Value.cells, List.toList_toArray, List.getD_cons_zero, List.getD_cons_succ, List.set_cons_zero, List.set_cons_succ]; rfl) (by kernel_rfl) ?_; intro l6; refine Zb ?_; exact Zh rfl ⟨l6, rfl, rfl⟩ (Yk (by repeat constructor)) (by show [(91, vs 18), (99, vs 26)] = _; rw [a2, f6])
            · rintro vs es Es Hx ⟨⟨a2, a7⟩, ⟨c5, h4, j4, f7, n8, k7, k8, k9⟩, ⟨l6, f8, h9⟩, -⟩; refine Zg (D := [(91, vs 18), (96, vs 23), (100, vs 27)]) rfl ?_; rw [a2, f7, f8]; refine Ym (H := _ ++ ((es 18 ++ (es 23 ++ (es 27 ++ ([])))) ++ _)) rfl ?_; rw [a7, n8, h9]; refine Vs (f := Zn) (s := 1) (xs := (a3.drop (1 : Int).toNat)) (ob := c5) (j := j4) (ys := [(a3.getD (0 : Int).toNat ([] : Str))]) (fun _ => rfl) (fun _ => rfl) Us C9 Zc Jb (Ws (Wz a8)) k7 k8 k9 (fun wc hwc => (hwc.rs (f := Zn) (s := 1) (xs := [(a3.getD (0 : Int).toNat ([] : Str))]) (j := ([])) (fun _ => rfl) mm8 rfl (Nat.le_refl _) Xd)) ?_; intro d7 h5 j5 l0 q0 l3; refine Zb ?_; exact Zh rfl ⟨d7, h5, j5, rfl, rfl, l0, q0, l3⟩ (by show Pick (_ ++ (_ ++ ((es 18 ++ (es 27 ++ ([]))) ++ _))) _; rw [a7, h9]; exact Yk (by repeat constructor)) (by show [(91, vs 18), (96, vs 23), (100, vs 27)] = _; rw [a2, f7, f8])
            · rintro vs es Es Hx ⟨⟨a2, a7⟩, ⟨f9, i4⟩, ⟨d7, h5, j5, g0, i5, l0, q0, l3⟩, -⟩; refine Zg (D := [(91, vs 18), (92, vs 19), (101, vs 28)]) rfl ?_; rw [a2, f9, g0]; refine Ym (H := _ ++ ((es 18 ++ (es 19 ++ (es 28 ++ ([])))) ++ _)) rfl ?_; rw [a7, i4, i5]; refine Xi Wk Zc (fun wc hwc => Wn (lines0 := ((a3.drop (1 : Int).toNat) ++ ([(a3.getD (0 : Int).toNat ([] : Str))]))) (c1 := r3) wc (hwc.rs (f := Zn) (s := 1) (xs := ((a3.drop (1 : Int).toNat) ++ ([(a3.getD (0 : Int).toNat ([] : Str))]))) (j := j5) (fun _ => rfl) mm7 (Wy (Ws (Wz a8)) rfl) l0 l3) (hwc.rs (f := Zt) (s := 3) (xs := r3.Arcs) (j := j8) (fun _ => rfl) Xv p9 d4 d5) (hwc.hb (cs := [iV r3.N, iV r3.S, iV r3.T, sV b7 n6 c7]) Xt) (hG.mono hwc) D0) ?_; rintro _ _ ⟨rfl, rfl⟩; refine Zb ?_; exact Zh rfl ⟨rfl, rfl⟩ (by show Pick (_ ++ (_ ++ ((es 18 ++ (es 19 ++ (es 28 ++ ([])))) ++ _))) _; rw [a7, i4, i5]; exact Yk (by repeat constructor)) (by show [(91, vs 18), (92, vs 19), (101, vs 28)] = _; rw [a2, f9, g0])
            · rintro vs es Es Hx ⟨⟨a6, b6⟩, ⟨a2, a7⟩, ⟨g1, o0⟩, -⟩; refine Zg (D := [(87, vs 14), (91, vs 18), (102, vs 29)]) rfl ?_; rw [a6, a2, g1]; refine Yr Zc ?_; refine Zb ?_; exact Zh rfl ⟨rfl, rfl⟩ (Ze _) (by show [(87, vs 14), (91, vs 18), (102, vs 29)] = _; rw [a6, a2, g1])
            · rintro vs es Es Hx ⟨⟨a6, b6⟩, ⟨g2, o1⟩, -⟩; refine Zg (D := [(87, vs 14), (103, vs 30)]) rfl ?_; rw [a6, g2]; refine Yf Zc ?_; refine Zb ?_; exact Zh rfl ⟨rfl, rfl⟩ (Ze _) (by show [(87, vs 14), (103, vs 30)] = _; rw [a6, g2])
            · rintro vs es Es Hx ⟨⟨g3, o2⟩, -⟩; refine Zg (D := [(104, vs 31)]) rfl ?_; rw [g3]; refine Zd Za ?_; refine Zw (t := 105) (b' := false) rfl (Bool.eq_false_iff.2 A8) ?_; refine Zb ?_; exact Wv rfl ⟨rfl, rfl⟩ (Ze _) (by show [(104, vs 31)] = _; rw [g3])
            · rintro vs es Es Hx ⟨⟨a4, a9⟩, -⟩; refine Zg (D := [(105, vs 32)]) rfl ?_; rw [a4]; refine Zd Za ?_; refine Zb ?_; exact Zh rfl ⟨rfl, rfl⟩ (Ze _) (by show [(105, vs 32)] = _; rw [a4])
            · rintro vs es Es Hx ⟨⟨a4, a9⟩, -⟩; refine Zg (D := [(105, vs 32)]) rfl ?_; rw [a4]; refine Zd Za ?_; refine Zb ?_; exact Zh rfl ⟨rfl, rfl⟩ (Ze _) (by show [(105, vs 32)] = _; rw [a4])
            · rintro vs es Es Hx ⟨⟨a4, a9⟩, ⟨b8, j7⟩, -⟩; refine Zg (D := [(105, vs 32), (107, vs 34)]) rfl ?_; rw [a4, b8]; refine Vz d3 c8 a8 A9 Zc Yl Yo ?_; refine Zb ?_; exact Zh rfl ⟨rfl, rfl⟩ (Ze _) (by show [(105, vs 32), (107, vs 34)] = _; rw [a4, b8])
            · rintro vs es Es Hx ⟨⟨a4, a9⟩, ⟨b8, j7⟩, ⟨g4, o3⟩, -⟩; refine Zg (D := [(105, vs 32), (107, vs 34), (108, vs 35)]) rfl ?_; rw [a4, b8, g4]; refine Kl (f := Zn) (v := .string (bs (a3.getD (0 : Int).toNat ([] : Str)))) ([] : Str) (fun _ => rfl) d3 c8 a8 A9 Zc Wg Xa ?_; refine Zb ?_; exact Zh rfl ⟨rfl, rfl⟩ (Ze _) (by show [(105, vs 32), (107, vs 34), (108, vs 35)] = _; rw [a4, b8, g4])
            · rintro vs es Es Hx ⟨⟨a4, a9⟩, ⟨g5, o4⟩, -⟩; refine Zg (D := [(105, vs 32), (109, vs 36)]) rfl ?_; rw [a4, g5]; refine Kq (p := (a3.getD (0 : Int).toNat ([] : Str))) (q := ([48] : Str)) F3 Zc ?_; refine Zb ?_; exact Zh rfl ⟨rfl, rfl⟩ (Ze _) (by show [(105, vs 32), (109, vs 36)] = _; rw [a4, g5])
            · rintro vs es Es Hx ⟨⟨a4, a9⟩, ⟨g6, o6⟩, -⟩; refine Zg (D := [(105, vs 32), (110, vs 37)]) rfl ?_; rw [a4, g6]; refine Vq [.string ByteArray.empty] [0] Za Yl Yo Gd Xj (by simp only [Xx, setCells, Value.cells, List.toList_toArray, List.getD_cons_zero, List.getD_cons_succ, List.set_cons_zero, List.set_cons_succ]; rfl) (by kernel_rfl) ?_; intro q3; refine Zb ?_; exact Zh rfl ⟨q3, rfl, rfl⟩ (Yk (by repeat constructor)) (by show [(105, vs 32), (110, vs 37)] = _; rw [a4, g6])
            · rintro vs es Es Hx ⟨⟨a4, a9⟩, -⟩; refine Zg (D := [(105, vs 32)]) rfl ?_; rw [a4]; refine Zd Za ?_; refine Zb ?_; exact Zh rfl ⟨rfl, rfl⟩ (Ze _) (by show [(105, vs 32)] = _; rw [a4])
            · rintro vs es Es Hx ⟨⟨a4, a9⟩, ⟨g7, o7⟩, -⟩; refine Zg (D := [(105, vs 32), (112, vs 39)]) rfl ?_; rw [a4, g7]; refine Ji (xs := a3) a8 B0 Zc Yl Yo ?_; refine Zb ?_; exact Zh rfl ⟨rfl, rfl⟩ (Ze _) (by show [(105, vs 32), (112, vs 39)] = _; rw [a4, g7])
            · rintro vs es Es Hx ⟨⟨a4, a9⟩, ⟨q3, g8, o8⟩, ⟨g9, h3⟩, -⟩; refine Zg (D := [(105, vs 32), (111, vs 38), (113, vs 40)]) rfl ?_; rw [a4, g8, g9]; refine Ym (H := _ ++ ((es 32 ++ (es 38 ++ (es 40 ++ ([])))) ++ _)) rfl ?_; rw [a9, o8, h3]; refine Vs (f := Zn) (s := 1) (xs := [((a3.getD (0 : Int).toNat ([] : Str)) ++ ([48] : Str))]) (ob := some q3) (j := ([])) (ys := (a3.drop (1 : Int).toNat)) (fun _ => rfl) (fun _ => rfl) Us F4 Zc Jb rfl (Nat.le_refl _) (Wh _ _) Xd (fun wc hwc => (RS.drop (hwc.rs (f := Zn) (s := 1) (xs := a3) (j := r4) (fun _ => rfl) Xa a8 c8 d3) B0)) ?_; intro l7 c137 r1 r7 u5 r8; refine Zb ?_; exact Zh rfl ⟨l7, c137, r1, rfl, rfl, r7, u5, r8⟩ (by show Pick (_ ++ (_ ++ ((es 32 ++ (es 40 ++ ([]))) ++ _))) _; rw [a9, h3]; exact Yk (by repeat constructor)) (by show [(105, vs 32), (111, vs 38), (113, vs 40)] = _; rw [a4, g8, g9])
           · rintro vs es hb ⟨⟨e1, j1⟩, ⟨e0, k6⟩, ⟨e6, l4⟩, ⟨e3, i7⟩, ⟨b3, c0⟩, ⟨c4, h1⟩, ⟨d9, j2⟩, ⟨e7, l5⟩, ⟨i6, p2⟩, ⟨c6, p3⟩, ⟨d0, i8⟩, ⟨d1, i9⟩, ⟨d8, j6⟩, ⟨e5, k2⟩, ⟨a6, b6⟩, ⟨e8, k3⟩, ⟨e9, m5⟩, ⟨f0, m6⟩, ⟨a2, a7⟩, ⟨f9, i4⟩, ⟨j3, f3, m8⟩, ⟨f2, m7⟩, ⟨f4, h8⟩, ⟨c5, h4, j4, f7, n8, k7, k8, k9⟩, ⟨d2, k4⟩, ⟨f5, m9⟩, ⟨f6, n7⟩, ⟨l6, f8, h9⟩, ⟨d7, h5, j5, g0, i5, l0, q0, l3⟩, ⟨g1, o0⟩, ⟨g2, o1⟩, ⟨g3, o2⟩, ⟨a4, a9⟩, ⟨q6, q7⟩, ⟨b8, j7⟩, ⟨g4, o3⟩, ⟨g5, o4⟩, ⟨g6, o6⟩, ⟨q3, g8, o8⟩, ⟨g7, o7⟩, ⟨g9, h3⟩, ⟨l7, c137, r1, q8, q9, r7, u5, r8⟩, -⟩ hHR; obtain rfl : hb = [] := hHR; refine Zg (D := [(73, vs 0), (74, vs 1), (75, vs 2), (76, vs 3), (77, vs 4), (78, vs 5), (79, vs 6), (80, vs 7), (81, vs 8), (82, vs 9), (83, vs 10), (84, vs 11), (85, vs 12), (86, vs 13), (87, vs 14), (88, vs 15), (89, vs 16), (90, vs 17), (91, vs 18), (92, vs 19), (93, vs 20), (94, vs 21), (95, vs 22), (96, vs 23), (97, vs 24), (98, vs 25), (99, vs 26), (100, vs 27), (101, vs 28), (102, vs 29), (103, vs 30), (104, vs 31), (105, vs 32), (106, vs 33), (107, vs 34), (108, vs 35), (109, vs 36), (110, vs 37), (111, vs 38), (112, vs 39), (113, vs 40), (114, vs 41)]) rfl ?_; refine Ym (H := _ ++ (_ ++ (es 0 ++ (es 1 ++ (es 2 ++ (es 3 ++ (es 4 ++ (es 5 ++ (es 6 ++ (es 7 ++ (es 8 ++ (es 9 ++ (es 10 ++ (es 11 ++ (es 12 ++ (es 13 ++ (es 14 ++ (es 15 ++ (es 16 ++ (es 17 ++ (es 18 ++ (es 19 ++ (es 21 ++ (es 22 ++ (es 24 ++ (es 25 ++ (es 26 ++ (es 27 ++ (es 28 ++ (es 29 ++ (es 30 ++ (es 31 ++ (es 32 ++ (es 33 ++ (es 34 ++ (es 35 ++ (es 36 ++ (es 37 ++ (es 39 ++ (es 40 ++ (es 41 ++ ([])))))))))))))))))))))))))))))))))))))))))) rfl ?_; rw [j1, k6, l4, i7, c0, h1, j2, l5, p2, p3, i8, i9, j6, k2, b6, k3, m5, m6, a7, i4, m7, h8, k4, m9, n7, h9, i5, o0, o1, o2, a9, q7, j7, o3, o4, o6, o7, h3, q9]; rw [e1, e0, e6, e3, b3, c4, d9, e7, i6, c6, d0, d1, d8, e5, a6, e8, e9, f0, a2, f9, f3, f2, f4, f7, d2, f5, f6, f8, g0, g1, g2, g3, a4, q6, b8, g4, g5, g6, g8, g7, g9, q8]; clear q8 g9 g7 g8 g6 g5 g4 b8 q6 a4 g3 g2 g1 g0 f8 f6 f5 d2 f7 f4 f2 f3 f9 a2 f0 e9 e8 a6 e5 d8 d1 d0 c6 i6 e7 d9 c4 b3 e3 e6 e0 e1 j1 k6 l4 i7 c0 h1 j2 l5 p2 p3 i8 i9 j6 k2 b6 k3 m5 m6 a7 i4 m8 m7 h8 n8 k4 m9 n7 h9 i5 o0 o1 o2 a9 q7 j7 o3 o4 o6 o8 o7 h3 q9; refine Xi Wk Zc (fun wc hwc => Wn (lines0 := (([((a3.getD (0 : Int).toNat ([] : Str)) ++ ([48] : Str))]) ++ (a3.drop (1 : Int).toNat))) (c1 := r3) wc (hwc.rs (f := Zn) (s := 1) (xs := (([((a3.getD (0 : Int).toNat ([] : Str)) ++ ([48] : Str))]) ++ (a3.drop (1 : Int).toNat))) (j := r1) (fun _ => rfl) mm9 (Wy rfl (Wz a8)) r7 r8) (hwc.rs (f := Zt) (s := 3) (xs := r3.Arcs) (j := j8) (fun _ => rfl) Xv p9 d4 d5) (hwc.hb (cs := [iV r3.N, iV r3.S, iV r3.T, sV b7 n6 c7]) Xt) (hG.mono hwc) F5) ?_; rintro _ _ ⟨rfl, rfl⟩; refine Zd Za ?_; refine Zw (t := 116) (b' := true) rfl D1 ?_; refine Zd Za ?_; refine Vz d3 c8 a8 F6 Zc Yl Yo ?_; refine Kl (f := Zn) (v := .string (bs (a3.getD (0 : Int).toNat ([] : Str)))) ([] : Str) (fun _ => rfl) d3 c8 a8 F6 Zc Wg Xa ?_; refine Ng (p := (a3.getD (0 : Int).toNat ([] : Str))) (q := ([115, 32, 48] : Str)) Zc ?_; refine Yr Zc ?_; refine Yf Zc ?_; refine Zb ?_; exact Yz (decide (¬((a3.getD (0 : Int).toNat ([] : Str)) = ([115, 32, 48] : Str)))) H (aF rfl) (Zj Wu (Zj Wu (Zj Kw Zk)))
          ·
           apply Kf (⟨[], false, [], Zl (.func (.func 27) #[] #[pV b1])⟩ :: ⟨[], false, [], Zl (sV c9 d6 p1)⟩ :: ⟨[0, 1], false, [], Zl (.bool A3)⟩ :: ⟨[2], false, [], Zl (.bool (!A3))⟩ :: ⟨[3], false, [], Zl (.bool false)⟩ :: ⟨[4], false, [], Zl (.func (.func 27) #[] #[pV b1])⟩ :: ⟨[4], false, [], Zl (sV r6 ((0 + (at3.tmod (a3.length : Int)).toNat) + (d6 - ((at3.tmod (a3.length : Int)) + 1).toNat)) F2)⟩ :: ⟨[4, 5, 6], false, [], Zl (.bool A4)⟩ :: ⟨[4, 7], false, [], Zl (.bool A4)⟩ :: ⟨[8], false, [], Zl (.bool false)⟩ :: ⟨[9], false, [], Zl (.func (.func 27) #[] #[pV b1])⟩ :: ⟨[9], false, [], Zl (sV s8 ((0 + ((at3.tmod (a3.length : Int)) + 1).toNat) + (d6 - (at3.tmod (a3.length : Int)).toNat)) c89)⟩ :: ⟨[9, 10, 11], false, [], Zl (.bool t0)⟩ :: ⟨[9, 12], false, [], Zl (.bool t0)⟩ :: ⟨[13], false, [], Zl (.bool false)⟩ :: ⟨[14], false, [], Zl (sV c9 d6 p1)⟩ :: ⟨[14, 15], false, [], Zl (iV (a3.length : Int))⟩ :: ⟨[14, 16], false, [], Zl (.bool (decide (1 < (a3.length : Int))))⟩ :: ⟨[14, 17], false, [], Zl (.bool true)⟩ :: ⟨[18], false, [], Zl (.func (.func 27) #[] #[pV b1])⟩ :: ⟨[18], false, [], fun _ v e => ∃ (j3 : Nat), v = nV j3 0 0 ∧ e = [(eA (some j3) Zn ([] : List Str) ([]) 9)]⟩ :: ⟨[18], false, [], Zl (sV c9 d6 p1)⟩ :: ⟨[18, 21], false, [], Zl (.slice (Vk (sb c9) (1 : Int).toNat p1 1) (d6 - (1 : Int).toNat) (p1 - (1 : Int).toNat))⟩ :: ⟨[18, 20, 22], false, [20], fun _ v e => ∃ (c5 : Option Nat) (h4 : Nat) (j4 : List Value), v = sV c5 (0 + (d6 - (1 : Int).toNat)) h4 ∧ e = [(eA c5 Zn (a3.drop (1 : Int).toNat) j4 9)] ∧ (0 + (d6 - (1 : Int).toNat)) ≤ h4 ∧ j4.length = (h4 - (0 + (d6 - (1 : Int).toNat))) * 1 ∧ (c5 = none → h4 = 0)⟩ :: ⟨[18], false, [], Zl (sV c9 d6 p1)⟩ :: rV [18, 24] _ :: ⟨[18, 24, 25], false, [], Zl (.string (bs (a3.getD (0 : Int).toNat ([] : Str))))⟩ :: ⟨[18, 26], false, [], fun _ v e => ∃ (l6 : Nat), v = nV l6 1 1 ∧ e = [(eA (some l6) Zn ([(a3.getD (0 : Int).toNat ([] : Str))]) ([]) 9)]⟩ :: ⟨[18, 23, 27], false, [23], fun _ v e => ∃ (d7 : Option Nat) (h5 : Nat) (j5 : List Value), v = sV d7 ((0 + (d6 - (1 : Int).toNat)) + 1) h5 ∧ e = [(eA d7 Zn ((a3.drop (1 : Int).toNat) ++ ([(a3.getD (0 : Int).toNat ([] : Str))])) j5 9)] ∧ ((0 + (d6 - (1 : Int).toNat)) + 1) ≤ h5 ∧ j5.length = (h5 - ((0 + (d6 - (1 : Int).toNat)) + 1)) * 1 ∧ (d7 = none → h5 = 0)⟩ :: ⟨[18, 19, 28], false, [], Zl (.bool u1)⟩ :: ⟨[14, 18, 29], false, [], Zl (.bool u1)⟩ :: ⟨[14, 30], false, [], Zl (.bool u1)⟩ :: ⟨[31], false, [], Zl (.bool false)⟩ :: ⟨[32], false, [], Zl (.func (.func 27) #[] #[pV b1])⟩ :: ⟨[32], false, [], Zl (sV c9 d6 p1)⟩ :: rV [32, 34] _ :: ⟨[32, 34, 35], false, [], Zl (.string (bs (a3.getD (0 : Int).toNat ([] : Str))))⟩ :: ⟨[32, 36], false, [], Zl (.string (bs ((a3.getD (0 : Int).toNat ([] : Str)) ++ ([48] : Str))))⟩ :: ⟨[32, 37], false, [], fun _ v e => ∃ (q3 : Nat), v = nV q3 1 1 ∧ e = [(eA (some q3) Zn ([((a3.getD (0 : Int).toNat ([] : Str)) ++ ([48] : Str))]) ([]) 9)]⟩ :: ⟨[32], false, [], Zl (sV c9 d6 p1)⟩ :: ⟨[32, 39], false, [], Zl (.slice (Vk (sb c9) (1 : Int).toNat p1 1) (d6 - (1 : Int).toNat) (p1 - (1 : Int).toNat))⟩ :: ⟨[32, 38, 40], false, [38], fun _ v e => ∃ (l7 : Option Nat) (c137 : Nat) (r1 : List Value), v = sV l7 (1 + (d6 - (1 : Int).toNat)) c137 ∧ e = [(eA l7 Zn (([((a3.getD (0 : Int).toNat ([] : Str)) ++ ([48] : Str))]) ++ (a3.drop (1 : Int).toNat)) r1 9)] ∧ (1 + (d6 - (1 : Int).toNat)) ≤ c137 ∧ r1.length = (c137 - (1 + (d6 - (1 : Int).toNat))) * 1 ∧ (l7 = none → c137 = 0)⟩ :: []) [73, 74, 75, 76, 77, 78, 79, 80, 81, 82, 83, 84, 85, 86, 87, 88, 89, 90, 91, 92, 93, 94, 95, 96, 97, 98, 99, 100, 101, 102, 103, 104, 105, 106, 107, 108, 109, 110, 111, 112, 113, 114] 42 (Uy [[]]) [[]] [] [(eA s8 Zn ((a3.take ((at3.tmod (a3.length : Int)) + 1).toNat) ++ (a3.drop (at3.tmod (a3.length : Int)).toNat)) y5 9), (eA r6 Zn ((a3.take (at3.tmod (a3.length : Int)).toNat) ++ (a3.drop ((at3.tmod (a3.length : Int)) + 1).toNat)) x5 9), (eA c9 Zn a3 r4 9), (eA v4 (intC .u8) A1 B5 5), (eI r5 t1 A5 2), (eC b1 #[iV r3.N, iV r3.S, iV r3.T, sV b7 n6 c7] 24), (eA b7 Zt r3.Arcs j8 58)]
           · exact We
           · exact rfl
           · kernel_rfl
           · kernel_rfl
           · kernel_rfl
           · kernel_rfl
           · exact rfl
           · exact rfl
           · exact rfl
           · exact Yk (by repeat constructor)
           ·
            refine ⟨?_, ?_, ?_, ?_, ?_, ?_, ?_, ?_, ?_, ?_, ?_, ?_, ?_, ?_, ?_, ?_, ?_, ?_, ?_, ?_, ?_, ?_, ?_, ?_, ?_, ?_, ?_, ?_, ?_, ?_, ?_, ?_, ?_, ?_, ?_, ?_, ?_, ?_, ?_, ?_, ?_, ?_, trivial⟩
            · rintro vs es Es Hx -; refine Zg (D := []) rfl ?_; refine Zd Za ?_; refine Zb ?_; exact Zh rfl ⟨rfl, rfl⟩ (Ze _) rfl
            · rintro vs es Es Hx -; refine Zg (D := []) rfl ?_; refine Zd Za ?_; refine Zb ?_; exact Zh rfl ⟨rfl, rfl⟩ (Ze _) rfl
            · rintro vs es Es Hx ⟨⟨e1, j1⟩, ⟨e0, k6⟩, -⟩; refine Zg (D := [(73, vs 0), (74, vs 1)]) rfl ?_; rw [e1, e0]; refine Xi Wk Zc (fun wc hwc => Wn (lines0 := a3) (c1 := r3) wc (hwc.rs (f := Zn) (s := 1) (xs := a3) (j := r4) (fun _ => rfl) Xa a8 c8 d3) (hwc.rs (f := Zt) (s := 3) (xs := r3.Arcs) (j := j8) (fun _ => rfl) Xv p9 d4 d5) (hwc.hb (cs := [iV r3.N, iV r3.S, iV r3.T, sV b7 n6 c7]) Xt) (hG.mono hwc) B6) ?_; rintro _ _ ⟨rfl, rfl⟩; refine Zb ?_; exact Zh rfl ⟨rfl, rfl⟩ (Ze _) (by show [(73, vs 0), (74, vs 1)] = _; rw [e1, e0])
            · rintro vs es Es Hx ⟨⟨e6, l4⟩, -⟩; refine Zg (D := [(75, vs 2)]) rfl ?_; rw [e6]; refine TO.not Za ?_; refine Zb ?_; exact Zh rfl ⟨rfl, rfl⟩ (Ze _) (by show [(75, vs 2)] = _; rw [e6])
            · rintro vs es Es Hx ⟨⟨e3, i7⟩, -⟩; refine Zg (D := [(76, vs 3)]) rfl ?_; rw [e3]; refine Zd Za ?_; refine Zw (t := 77) (b' := false) rfl (Bool.eq_false_iff.2 A7) ?_; refine Zb ?_; exact Wv rfl ⟨rfl, rfl⟩ (Ze _) (by show [(76, vs 3)] = _; rw [e3])
            · rintro vs es Es Hx ⟨⟨b3, c0⟩, -⟩; refine Zg (D := [(77, vs 4)]) rfl ?_; rw [b3]; refine Zd Za ?_; refine Zb ?_; exact Zh rfl ⟨rfl, rfl⟩ (Ze _) (by show [(77, vs 4)] = _; rw [b3])
            · rintro vs es Es Hx ⟨⟨b3, c0⟩, -⟩; refine Zg (D := [(77, vs 4)]) rfl ?_; rw [b3]; refine Zd Za ?_; refine Zb ?_; exact Zh rfl ⟨rfl, rfl⟩ (Ze _) (by show [(77, vs 4)] = _; rw [b3])
            · rintro vs es Es Hx ⟨⟨b3, c0⟩, ⟨c4, h1⟩, ⟨d9, j2⟩, -⟩; refine Zg (D := [(77, vs 4), (78, vs 5), (79, vs 6)]) rfl ?_; rw [b3, c4, d9]; refine Xi Wk Zc (fun wc hwc => Wn (lines0 := ((a3.take (at3.tmod (a3.length : Int)).toNat) ++ (a3.drop ((at3.tmod (a3.length : Int)) + 1).toNat))) (c1 := r3) wc (hwc.rs (f := Zn) (s := 1) (xs := ((a3.take (at3.tmod (a3.length : Int)).toNat) ++ (a3.drop ((at3.tmod (a3.length : Int)) + 1).toNat))) (j := x5) (fun _ => rfl) Xh (Wy (Ws (Ug A2)) (Wz a8)) v7 v8) (hwc.rs (f := Zt) (s := 3) (xs := r3.Arcs) (j := j8) (fun _ => rfl) Xv p9 d4 d5) (hwc.hb (cs := [iV r3.N, iV r3.S, iV r3.T, sV b7 n6 c7]) Xt) (hG.mono hwc) C7) ?_; rintro _ _ ⟨rfl, rfl⟩; refine Zb ?_; exact Zh rfl ⟨rfl, rfl⟩ (Ze _) (by show [(77, vs 4), (78, vs 5), (79, vs 6)] = _; rw [b3, c4, d9])
            · rintro vs es Es Hx ⟨⟨b3, c0⟩, ⟨e7, l5⟩, -⟩; refine Zg (D := [(77, vs 4), (80, vs 7)]) rfl ?_; rw [b3, e7]; refine Yf Zc ?_; refine Zb ?_; exact Zh rfl ⟨rfl, rfl⟩ (Ze _) (by show [(77, vs 4), (80, vs 7)] = _; rw [b3, e7])
            · rintro vs es Es Hx ⟨⟨i6, p2⟩, -⟩; refine Zg (D := [(81, vs 8)]) rfl ?_; rw [i6]; refine Zd Za ?_; refine Zw (t := 82) (b' := false) rfl (Bool.eq_false_iff.2 u3) ?_; refine Zb ?_; exact Wv rfl ⟨rfl, rfl⟩ (Ze _) (by show [(81, vs 8)] = _; rw [i6])
            · rintro vs es Es Hx ⟨⟨c6, p3⟩, -⟩; refine Zg (D := [(82, vs 9)]) rfl ?_; rw [c6]; refine Zd Za ?_; refine Zb ?_; exact Zh rfl ⟨rfl, rfl⟩ (Ze _) (by show [(82, vs 9)] = _; rw [c6])
            · rintro vs es Es Hx ⟨⟨c6, p3⟩, -⟩; refine Zg (D := [(82, vs 9)]) rfl ?_; rw [c6]; refine Zd Za ?_; refine Zb ?_; exact Zh rfl ⟨rfl, rfl⟩ (Ze _) (by show [(82, vs 9)] = _; rw [c6])
            · rintro vs es Es Hx ⟨⟨c6, p3⟩, ⟨d0, i8⟩, ⟨d1, i9⟩, -⟩; refine Zg (D := [(82, vs 9), (83, vs 10), (84, vs 11)]) rfl ?_; rw [c6, d0, d1]; refine Xi Wk Zc (fun wc hwc => Wn (lines0 := ((a3.take ((at3.tmod (a3.length : Int)) + 1).toNat) ++ (a3.drop (at3.tmod (a3.length : Int)).toNat))) (c1 := r3) wc (hwc.rs (f := Zn) (s := 1) (xs := ((a3.take ((at3.tmod (a3.length : Int)) + 1).toNat) ++ (a3.drop (at3.tmod (a3.length : Int)).toNat))) (j := y5) (fun _ => rfl) Zq (Wy (Ws (Ug A6)) (Wz a8)) x6 x7) (hwc.rs (f := Zt) (s := 3) (xs := r3.Arcs) (j := j8) (fun _ => rfl) Xv p9 d4 d5) (hwc.hb (cs := [iV r3.N, iV r3.S, iV r3.T, sV b7 n6 c7]) Xt) (hG.mono hwc) x8) ?_; rintro _ _ ⟨rfl, rfl⟩; refine Zb ?_; exact Zh rfl ⟨rfl, rfl⟩ (Ze _) (by show [(82, vs 9), (83, vs 10), (84, vs 11)] = _; rw [c6, d0, d1])
            · rintro vs es Es Hx ⟨⟨c6, p3⟩, ⟨d8, j6⟩, -⟩; refine Zg (D := [(82, vs 9), (85, vs 12)]) rfl ?_; rw [c6, d8]; refine Yf Zc ?_; refine Zb ?_; exact Zh rfl ⟨rfl, rfl⟩ (Ze _) (by show [(82, vs 9), (85, vs 12)] = _; rw [c6, d8])
            · rintro vs es Es Hx ⟨⟨e5, k2⟩, -⟩; refine Zg (D := [(86, vs 13)]) rfl ?_; rw [e5]; refine Zd Za ?_; refine Zw (t := 87) (b' := false) rfl (Bool.eq_false_iff.2 w0) ?_; refine Zb ?_; exact Wv rfl ⟨rfl, rfl⟩ (Ze _) (by show [(86, vs 13)] = _; rw [e5])
            · rintro vs es Es Hx ⟨⟨a6, b6⟩, -⟩; refine Zg (D := [(87, vs 14)]) rfl ?_; rw [a6]; refine Zd Za ?_; refine Zb ?_; exact Zh rfl ⟨rfl, rfl⟩ (Ze _) (by show [(87, vs 14)] = _; rw [a6])
            · rintro vs es Es Hx ⟨⟨a6, b6⟩, ⟨e8, k3⟩, -⟩; refine Zg (D := [(87, vs 14), (88, vs 15)]) rfl ?_; rw [a6, e8]; refine Yq (xs := a3) a8 Zc Yl ?_; refine Zb ?_; exact Zh rfl ⟨rfl, rfl⟩ (Ze _) (by show [(87, vs 14), (88, vs 15)] = _; rw [a6, e8])
            · rintro vs es Es Hx ⟨⟨a6, b6⟩, ⟨e9, m5⟩, -⟩; refine Zg (D := [(87, vs 14), (89, vs 16)]) rfl ?_; rw [a6, e9]; refine Zx Zs ?_; refine Zb ?_; exact Zh rfl ⟨rfl, rfl⟩ (Ze _) (by show [(87, vs 14), (89, vs 16)] = _; rw [a6, e9])
            · rintro vs es Es Hx ⟨⟨a6, b6⟩, ⟨f0, m6⟩, -⟩; refine Zg (D := [(87, vs 14), (90, vs 17)]) rfl ?_; rw [a6, f0]; refine Zd Za ?_; refine Zw (t := 91) (b' := true) rfl (decide_eq_true x9) ?_; refine Zb ?_; exact Wv rfl ⟨rfl, rfl⟩ (Ze _) (by show [(87, vs 14), (90, vs 17)] = _; rw [a6, f0])
            · rintro vs es Es Hx ⟨⟨a2, a7⟩, -⟩; refine Zg (D := [(91, vs 18)]) rfl ?_; rw [a2]; refine Zd Za ?_; refine Zb ?_; exact Zh rfl ⟨rfl, rfl⟩ (Ze _) (by show [(91, vs 18)] = _; rw [a2])
            · rintro vs es Es Hx ⟨⟨a2, a7⟩, -⟩; refine Zg (D := [(91, vs 18)]) rfl ?_; rw [a2]; refine Nn Zz Yl Yo ?_; intro j3; refine Zb ?_; exact Zh rfl ⟨j3, rfl, rfl⟩ (Yk (by repeat constructor)) (by show [(91, vs 18)] = _; rw [a2])
            · rintro vs es Es Hx ⟨⟨a2, a7⟩, -⟩; refine Zg (D := [(91, vs 18)]) rfl ?_; rw [a2]; refine Zd Za ?_; refine Zb ?_; exact Zh rfl ⟨rfl, rfl⟩ (Ze _) (by show [(91, vs 18)] = _; rw [a2])
            · rintro vs es Es Hx ⟨⟨a2, a7⟩, ⟨f2, m7⟩, -⟩; refine Zg (D := [(91, vs 18), (94, vs 21)]) rfl ?_; rw [a2, f2]; refine Ji (xs := a3) a8 y0 Zc Yl Yo ?_; refine Zb ?_; exact Zh rfl ⟨rfl, rfl⟩ (Ze _) (by show [(91, vs 18), (94, vs 21)] = _; rw [a2, f2])
            · rintro vs es Es Hx ⟨⟨a2, a7⟩, ⟨j3, f3, m8⟩, ⟨f4, h8⟩, -⟩; refine Zg (D := [(91, vs 18), (93, vs 20), (95, vs 22)]) rfl ?_; rw [a2, f3, f4]; refine Ym (H := _ ++ ((es 18 ++ (es 20 ++ (es 22 ++ ([])))) ++ _)) rfl ?_; rw [a7, m8, h8]; refine Vs (f := Zn) (s := 1) (xs := ([] : List Str)) (ob := some j3) (j := ([])) (ys := (a3.drop (1 : Int).toNat)) (fun _ => rfl) (fun _ => rfl) Us C8 Zc Jb rfl (Nat.le_refl _) (Wh 0 _) Xd (fun wc hwc => (RS.drop (hwc.rs (f := Zn) (s := 1) (xs := a3) (j := r4) (fun _ => rfl) Xa a8 c8 d3) y0)) ?_; intro c5 h4 j4 k7 k8 k9; refine Zb ?_; exact Zh rfl ⟨c5, h4, j4, rfl, rfl, k7, k8, k9⟩ (by show Pick (_ ++ (_ ++ ((es 18 ++ (es 22 ++ ([]))) ++ _))) _; rw [a7, h8]; exact Yk (by repeat constructor)) (by show [(91, vs 18), (93, vs 20), (95, vs 22)] = _; rw [a2, f3, f4])
            · rintro vs es Es Hx ⟨⟨a2, a7⟩, -⟩; refine Zg (D := [(91, vs 18)]) rfl ?_; rw [a2]; refine Zd Za ?_; refine Zb ?_; exact Zh rfl ⟨rfl, rfl⟩ (Ze _) (by show [(91, vs 18)] = _; rw [a2])
            · rintro vs es Es Hx ⟨⟨a2, a7⟩, ⟨d2, k4⟩, -⟩; refine Zg (D := [(91, vs 18), (97, vs 24)]) rfl ?_; rw [a2, d2]; refine Vz d3 c8 a8 y1 Zc Yl Yo ?_; refine Zb ?_; exact Zh rfl ⟨rfl, rfl⟩ (Ze _) (by show [(91, vs 18), (97, vs 24)] = _; rw [a2, d2])
            · rintro vs es Es Hx ⟨⟨a2, a7⟩, ⟨d2, k4⟩, ⟨f5, m9⟩, -⟩; refine Zg (D := [(91, vs 18), (97, vs 24), (98, vs 25)]) rfl ?_; rw [a2, d2, f5]; refine Kl (f := Zn) (v := .string (bs (a3.getD (0 : Int).toNat ([] : Str)))) ([] : Str) (fun _ => rfl) d3 c8 a8 y1 Zc Wg Xa ?_; refine Zb ?_; exact Zh rfl ⟨rfl, rfl⟩ (Ze _) (by show [(91, vs 18), (97, vs 24), (98, vs 25)] = _; rw [a2, d2, f5])
            · rintro vs es Es Hx ⟨⟨a2, a7⟩, ⟨f6, n7⟩, -⟩; refine Zg (D := [(91, vs 18), (99, vs 26)]) rfl ?_; rw [a2, f6]; refine Vq [.string ByteArray.empty] [0] Za Yl Yo Gd Xj (by simp only [Xx, setCells, Value.cells, List.toList_toArray, List.getD_cons_zero, List.getD_cons_succ, List.set_cons_zero, List.set_cons_succ]; rfl) (by kernel_rfl) ?_; intro l6; refine Zb ?_; exact Zh rfl ⟨l6, rfl, rfl⟩ (Yk (by repeat constructor)) (by show [(91, vs 18), (99, vs 26)] = _; rw [a2, f6])
            · rintro vs es Es Hx ⟨⟨a2, a7⟩, ⟨c5, h4, j4, f7, n8, k7, k8, k9⟩, ⟨l6, f8, h9⟩, -⟩; refine Zg (D := [(91, vs 18), (96, vs 23), (100, vs 27)]) rfl ?_; rw [a2, f7, f8]; refine Ym (H := _ ++ ((es 18 ++ (es 23 ++ (es 27 ++ ([])))) ++ _)) rfl ?_; rw [a7, n8, h9]; refine Vs (f := Zn) (s := 1) (xs := (a3.drop (1 : Int).toNat)) (ob := c5) (j := j4) (ys := [(a3.getD (0 : Int).toNat ([] : Str))]) (fun _ => rfl) (fun _ => rfl) Us C9 Zc Jb (Ws (Wz a8)) k7 k8 k9 (fun wc hwc => (hwc.rs (f := Zn) (s := 1) (xs := [(a3.getD (0 : Int).toNat ([] : Str))]) (j := ([])) (fun _ => rfl) mm8 rfl (Nat.le_refl _) Xd)) ?_; intro d7 h5 j5 l0 q0 l3; refine Zb ?_; exact Zh rfl ⟨d7, h5, j5, rfl, rfl, l0, q0, l3⟩ (by show Pick (_ ++ (_ ++ ((es 18 ++ (es 27 ++ ([]))) ++ _))) _; rw [a7, h9]; exact Yk (by repeat constructor)) (by show [(91, vs 18), (96, vs 23), (100, vs 27)] = _; rw [a2, f7, f8])
            · rintro vs es Es Hx ⟨⟨a2, a7⟩, ⟨f9, i4⟩, ⟨d7, h5, j5, g0, i5, l0, q0, l3⟩, -⟩; refine Zg (D := [(91, vs 18), (92, vs 19), (101, vs 28)]) rfl ?_; rw [a2, f9, g0]; refine Ym (H := _ ++ ((es 18 ++ (es 19 ++ (es 28 ++ ([])))) ++ _)) rfl ?_; rw [a7, i4, i5]; refine Xi Wk Zc (fun wc hwc => Wn (lines0 := ((a3.drop (1 : Int).toNat) ++ ([(a3.getD (0 : Int).toNat ([] : Str))]))) (c1 := r3) wc (hwc.rs (f := Zn) (s := 1) (xs := ((a3.drop (1 : Int).toNat) ++ ([(a3.getD (0 : Int).toNat ([] : Str))]))) (j := j5) (fun _ => rfl) mm7 (Wy (Ws (Wz a8)) rfl) l0 l3) (hwc.rs (f := Zt) (s := 3) (xs := r3.Arcs) (j := j8) (fun _ => rfl) Xv p9 d4 d5) (hwc.hb (cs := [iV r3.N, iV r3.S, iV r3.T, sV b7 n6 c7]) Xt) (hG.mono hwc) D0) ?_; rintro _ _ ⟨rfl, rfl⟩; refine Zb ?_; exact Zh rfl ⟨rfl, rfl⟩ (by show Pick (_ ++ (_ ++ ((es 18 ++ (es 19 ++ (es 28 ++ ([])))) ++ _))) _; rw [a7, i4, i5]; exact Yk (by repeat constructor)) (by show [(91, vs 18), (92, vs 19), (101, vs 28)] = _; rw [a2, f9, g0])
            · rintro vs es Es Hx ⟨⟨a6, b6⟩, ⟨a2, a7⟩, ⟨g1, o0⟩, -⟩; refine Zg (D := [(87, vs 14), (91, vs 18), (102, vs 29)]) rfl ?_; rw [a6, a2, g1]; refine Yr Zc ?_; refine Zb ?_; exact Zh rfl ⟨rfl, rfl⟩ (Ze _) (by show [(87, vs 14), (91, vs 18), (102, vs 29)] = _; rw [a6, a2, g1])
            · rintro vs es Es Hx ⟨⟨a6, b6⟩, ⟨g2, o1⟩, -⟩; refine Zg (D := [(87, vs 14), (103, vs 30)]) rfl ?_; rw [a6, g2]; refine Yf Zc ?_; refine Zb ?_; exact Zh rfl ⟨rfl, rfl⟩ (Ze _) (by show [(87, vs 14), (103, vs 30)] = _; rw [a6, g2])
            · rintro vs es Es Hx ⟨⟨g3, o2⟩, -⟩; refine Zg (D := [(104, vs 31)]) rfl ?_; rw [g3]; refine Zd Za ?_; refine Zw (t := 105) (b' := false) rfl (Bool.eq_false_iff.2 A8) ?_; refine Zb ?_; exact Wv rfl ⟨rfl, rfl⟩ (Ze _) (by show [(104, vs 31)] = _; rw [g3])
            · rintro vs es Es Hx ⟨⟨a4, a9⟩, -⟩; refine Zg (D := [(105, vs 32)]) rfl ?_; rw [a4]; refine Zd Za ?_; refine Zb ?_; exact Zh rfl ⟨rfl, rfl⟩ (Ze _) (by show [(105, vs 32)] = _; rw [a4])
            · rintro vs es Es Hx ⟨⟨a4, a9⟩, -⟩; refine Zg (D := [(105, vs 32)]) rfl ?_; rw [a4]; refine Zd Za ?_; refine Zb ?_; exact Zh rfl ⟨rfl, rfl⟩ (Ze _) (by show [(105, vs 32)] = _; rw [a4])
            · rintro vs es Es Hx ⟨⟨a4, a9⟩, ⟨b8, j7⟩, -⟩; refine Zg (D := [(105, vs 32), (107, vs 34)]) rfl ?_; rw [a4, b8]; refine Vz d3 c8 a8 A9 Zc Yl Yo ?_; refine Zb ?_; exact Zh rfl ⟨rfl, rfl⟩ (Ze _) (by show [(105, vs 32), (107, vs 34)] = _; rw [a4, b8])
            · rintro vs es Es Hx ⟨⟨a4, a9⟩, ⟨b8, j7⟩, ⟨g4, o3⟩, -⟩; refine Zg (D := [(105, vs 32), (107, vs 34), (108, vs 35)]) rfl ?_; rw [a4, b8, g4]; refine Kl (f := Zn) (v := .string (bs (a3.getD (0 : Int).toNat ([] : Str)))) ([] : Str) (fun _ => rfl) d3 c8 a8 A9 Zc Wg Xa ?_; refine Zb ?_; exact Zh rfl ⟨rfl, rfl⟩ (Ze _) (by show [(105, vs 32), (107, vs 34), (108, vs 35)] = _; rw [a4, b8, g4])
            · rintro vs es Es Hx ⟨⟨a4, a9⟩, ⟨g5, o4⟩, -⟩; refine Zg (D := [(105, vs 32), (109, vs 36)]) rfl ?_; rw [a4, g5]; refine Kq (p := (a3.getD (0 : Int).toNat ([] : Str))) (q := ([48] : Str)) F3 Zc ?_; refine Zb ?_; exact Zh rfl ⟨rfl, rfl⟩ (Ze _) (by show [(105, vs 32), (109, vs 36)] = _; rw [a4, g5])
            · rintro vs es Es Hx ⟨⟨a4, a9⟩, ⟨g6, o6⟩, -⟩; refine Zg (D := [(105, vs 32), (110, vs 37)]) rfl ?_; rw [a4, g6]; refine Vq [.string ByteArray.empty] [0] Za Yl Yo Gd Xj (by simp only [Xx, setCells, Value.cells, List.toList_toArray, List.getD_cons_zero, List.getD_cons_succ, List.set_cons_zero, List.set_cons_succ]; rfl) (by kernel_rfl) ?_; intro q3; refine Zb ?_; exact Zh rfl ⟨q3, rfl, rfl⟩ (Yk (by repeat constructor)) (by show [(105, vs 32), (110, vs 37)] = _; rw [a4, g6])
            · rintro vs es Es Hx ⟨⟨a4, a9⟩, -⟩; refine Zg (D := [(105, vs 32)]) rfl ?_; rw [a4]; refine Zd Za ?_; refine Zb ?_; exact Zh rfl ⟨rfl, rfl⟩ (Ze _) (by show [(105, vs 32)] = _; rw [a4])
            · rintro vs es Es Hx ⟨⟨a4, a9⟩, ⟨g7, o7⟩, -⟩; refine Zg (D := [(105, vs 32), (112, vs 39)]) rfl ?_; rw [a4, g7]; refine Ji (xs := a3) a8 B0 Zc Yl Yo ?_; refine Zb ?_; exact Zh rfl ⟨rfl, rfl⟩ (Ze _) (by show [(105, vs 32), (112, vs 39)] = _; rw [a4, g7])
            · rintro vs es Es Hx ⟨⟨a4, a9⟩, ⟨q3, g8, o8⟩, ⟨g9, h3⟩, -⟩; refine Zg (D := [(105, vs 32), (111, vs 38), (113, vs 40)]) rfl ?_; rw [a4, g8, g9]; refine Ym (H := _ ++ ((es 32 ++ (es 38 ++ (es 40 ++ ([])))) ++ _)) rfl ?_; rw [a9, o8, h3]; refine Vs (f := Zn) (s := 1) (xs := [((a3.getD (0 : Int).toNat ([] : Str)) ++ ([48] : Str))]) (ob := some q3) (j := ([])) (ys := (a3.drop (1 : Int).toNat)) (fun _ => rfl) (fun _ => rfl) Us F4 Zc Jb rfl (Nat.le_refl _) (Wh _ _) Xd (fun wc hwc => (RS.drop (hwc.rs (f := Zn) (s := 1) (xs := a3) (j := r4) (fun _ => rfl) Xa a8 c8 d3) B0)) ?_; intro l7 c137 r1 r7 u5 r8; refine Zb ?_; exact Zh rfl ⟨l7, c137, r1, rfl, rfl, r7, u5, r8⟩ (by show Pick (_ ++ (_ ++ ((es 32 ++ (es 40 ++ ([]))) ++ _))) _; rw [a9, h3]; exact Yk (by repeat constructor)) (by show [(105, vs 32), (111, vs 38), (113, vs 40)] = _; rw [a4, g8, g9])
           · rintro vs es hb ⟨⟨e1, j1⟩, ⟨e0, k6⟩, ⟨e6, l4⟩, ⟨e3, i7⟩, ⟨b3, c0⟩, ⟨c4, h1⟩, ⟨d9, j2⟩, ⟨e7, l5⟩, ⟨i6, p2⟩, ⟨c6, p3⟩, ⟨d0, i8⟩, ⟨d1, i9⟩, ⟨d8, j6⟩, ⟨e5, k2⟩, ⟨a6, b6⟩, ⟨e8, k3⟩, ⟨e9, m5⟩, ⟨f0, m6⟩, ⟨a2, a7⟩, ⟨f9, i4⟩, ⟨j3, f3, m8⟩, ⟨f2, m7⟩, ⟨f4, h8⟩, ⟨c5, h4, j4, f7, n8, k7, k8, k9⟩, ⟨d2, k4⟩, ⟨f5, m9⟩, ⟨f6, n7⟩, ⟨l6, f8, h9⟩, ⟨d7, h5, j5, g0, i5, l0, q0, l3⟩, ⟨g1, o0⟩, ⟨g2, o1⟩, ⟨g3, o2⟩, ⟨a4, a9⟩, ⟨q6, q7⟩, ⟨b8, j7⟩, ⟨g4, o3⟩, ⟨g5, o4⟩, ⟨g6, o6⟩, ⟨q3, g8, o8⟩, ⟨g7, o7⟩, ⟨g9, h3⟩, ⟨l7, c137, r1, q8, q9, r7, u5, r8⟩, -⟩ hHR; obtain rfl : hb = [] := hHR; refine Zg (D := [(73, vs 0), (74, vs 1), (75, vs 2), (76, vs 3), (77, vs 4), (78, vs 5), (79, vs 6), (80, vs 7), (81, vs 8), (82, vs 9), (83, vs 10), (84, vs 11), (85, vs 12), (86, vs 13), (87, vs 14), (88, vs 15), (89, vs 16), (90, vs 17), (91, vs 18), (92, vs 19), (93, vs 20), (94, vs 21), (95, vs 22), (96, vs 23), (97, vs 24), (98, vs 25), (99, vs 26), (100, vs 27), (101, vs 28), (102, vs 29), (103, vs 30), (104, vs 31), (105, vs 32), (106, vs 33), (107, vs 34), (108, vs 35), (109, vs 36), (110, vs 37), (111, vs 38), (112, vs 39), (113, vs 40), (114, vs 41)]) rfl ?_; refine Ym (H := _ ++ (_ ++ (es 0 ++ (es 1 ++ (es 2 ++ (es 3 ++ (es 4 ++ (es 5 ++ (es 6 ++ (es 7 ++ (es 8 ++ (es 9 ++ (es 10 ++ (es 11 ++ (es 12 ++ (es 13 ++ (es 14 ++ (es 15 ++ (es 16 ++ (es 17 ++ (es 18 ++ (es 19 ++ (es 21 ++ (es 22 ++ (es 24 ++ (es 25 ++ (es 26 ++ (es 27 ++ (es 28 ++ (es 29 ++ (es 30 ++ (es 31 ++ (es 32 ++ (es 33 ++ (es 34 ++ (es 35 ++ (es 36 ++ (es 37 ++ (es 39 ++ (es 40 ++ (es 41 ++ ([])))))))))))))))))))))))))))))))))))))))))) rfl ?_; rw [j1, k6, l4, i7, c0, h1, j2, l5, p2, p3, i8, i9, j6, k2, b6, k3, m5, m6, a7, i4, m7, h8, k4, m9, n7, h9, i5, o0, o1, o2, a9, q7, j7, o3, o4, o6, o7, h3, q9]; rw [e1, e0, e6, e3, b3, c4, d9, e7, i6, c6, d0, d1, d8, e5, a6, e8, e9, f0, a2, f9, f3, f2, f4, f7, d2, f5, f6, f8, g0, g1, g2, g3, a4, q6, b8, g4, g5, g6, g8, g7, g9, q8]; clear q8 g9 g7 g8 g6 g5 g4 b8 q6 a4 g3 g2 g1 g0 f8 f6 f5 d2 f7 f4 f2 f3 f9 a2 f0 e9 e8 a6 e5 d8 d1 d0 c6 i6 e7 d9 c4 b3 e3 e6 e0 e1 j1 k6 l4 i7 c0 h1 j2 l5 p2 p3 i8 i9 j6 k2 b6 k3 m5 m6 a7 i4 m8 m7 h8 n8 k4 m9 n7 h9 i5 o0 o1 o2 a9 q7 j7 o3 o4 o6 o8 o7 h3 q9; refine Xi Wk Zc (fun wc hwc => Wn (lines0 := (([((a3.getD (0 : Int).toNat ([] : Str)) ++ ([48] : Str))]) ++ (a3.drop (1 : Int).toNat))) (c1 := r3) wc (hwc.rs (f := Zn) (s := 1) (xs := (([((a3.getD (0 : Int).toNat ([] : Str)) ++ ([48] : Str))]) ++ (a3.drop (1 : Int).toNat))) (j := r1) (fun _ => rfl) mm9 (Wy rfl (Wz a8)) r7 r8) (hwc.rs (f := Zt) (s := 3) (xs := r3.Arcs) (j := j8) (fun _ => rfl) Xv p9 d4 d5) (hwc.hb (cs := [iV r3.N, iV r3.S, iV r3.T, sV b7 n6 c7]) Xt) (hG.mono hwc) F5) ?_; rintro _ _ ⟨rfl, rfl⟩; refine Zd Za ?_; refine Zw (t := 116) (b' := false) rfl (Bool.eq_false_iff.2 D1) ?_; refine Zi Za ?_; refine Zi Za ?_; refine Zi Za ?_; refine Zi Za ?_; refine Yf Zc ?_; refine Yf Zc ?_; refine Zb ?_; exact Yz false H (aF rfl) (Zj Wu (Zj Wu (Zj Kw Zk)))
        ·
         obtain ⟨B1, F7, B2, F8, H⟩ := gd4 H; obtain ⟨N6, F9, H⟩ := Zu H; rcases Zv H with ⟨D2, H⟩ | ⟨D2, H⟩
         ·
          obtain ⟨G0, H⟩ := Yj H; apply Kf (⟨[], false, [], Zl (.func (.func 27) #[] #[pV b1])⟩ :: ⟨[], false, [], Zl (sV c9 d6 p1)⟩ :: ⟨[0, 1], false, [], Zl (.bool A3)⟩ :: ⟨[2], false, [], Zl (.bool (!A3))⟩ :: ⟨[3], false, [], Zl (.bool false)⟩ :: ⟨[4], false, [], Zl (.func (.func 27) #[] #[pV b1])⟩ :: ⟨[4], false, [], Zl (sV r6 ((0 + (at3.tmod (a3.length : Int)).toNat) + (d6 - ((at3.tmod (a3.length : Int)) + 1).toNat)) F2)⟩ :: ⟨[4, 5, 6], false, [], Zl (.bool A4)⟩ :: ⟨[4, 7], false, [], Zl (.bool A4)⟩ :: ⟨[8], false, [], Zl (.bool false)⟩ :: ⟨[9], false, [], Zl (.func (.func 27) #[] #[pV b1])⟩ :: ⟨[9], false, [], Zl (sV s8 ((0 + ((at3.tmod (a3.length : Int)) + 1).toNat) + (d6 - (at3.tmod (a3.length : Int)).toNat)) c89)⟩ :: ⟨[9, 10, 11], false, [], Zl (.bool t0)⟩ :: ⟨[9, 12], false, [], Zl (.bool t0)⟩ :: ⟨[13], false, [], Zl (.bool false)⟩ :: ⟨[14], false, [], Zl (sV c9 d6 p1)⟩ :: ⟨[14, 15], false, [], Zl (iV (a3.length : Int))⟩ :: ⟨[14, 16], false, [], Zl (.bool (decide (1 < (a3.length : Int))))⟩ :: ⟨[14, 17], false, [], Zl (.bool false)⟩ :: ⟨[18], false, [], Zl (undef)⟩ :: ⟨[18], false, [], Zl (undef)⟩ :: ⟨[18], false, [], Zl (undef)⟩ :: ⟨[18, 21], false, [], Zl (undef)⟩ :: ⟨[18, 20, 22], false, [], Zl (undef)⟩ :: ⟨[18], false, [], Zl (undef)⟩ :: ⟨[18, 24], false, [], Zl (undef)⟩ :: ⟨[18, 25], false, [], Zl (undef)⟩ :: ⟨[18, 26], false, [], Zl (undef)⟩ :: ⟨[18, 23, 27], false, [], Zl (undef)⟩ :: ⟨[18, 19, 28], false, [], Zl (undef)⟩ :: ⟨[14, 18, 29], false, [], Zl (.bool false)⟩ :: ⟨[14, 30], false, [], Zl (.bool false)⟩ :: ⟨[31], false, [], Zl (.bool false)⟩ :: ⟨[32], false, [], Zl (.func (.func 27) #[] #[pV b1])⟩ :: ⟨[32], false, [], Zl (sV c9 d6 p1)⟩ :: rV [32, 34] _ :: ⟨[32, 34, 35], false, [], Zl (.string (bs (a3.getD (0 : Int).toNat ([] : Str))))⟩ :: ⟨[32, 36], false, [], Zl (.string (bs ((a3.getD (0 : Int).toNat ([] : Str)) ++ ([48] : Str))))⟩ :: ⟨[32, 37], false, [], fun _ v e => ∃ (q4 : Nat), v = nV q4 1 1 ∧ e = [(eA (some q4) Zn ([((a3.getD (0 : Int).toNat ([] : Str)) ++ ([48] : Str))]) ([]) 9)]⟩ :: ⟨[32], false, [], Zl (sV c9 d6 p1)⟩ :: ⟨[32, 39], false, [], Zl (.slice (Vk (sb c9) (1 : Int).toNat p1 1) (d6 - (1 : Int).toNat) (p1 - (1 : Int).toNat))⟩ :: ⟨[32, 38, 40], false, [38], fun _ v e => ∃ (l8 : Option Nat) (q5 : Nat) (r2 : List Value), v = sV l8 (1 + (d6 - (1 : Int).toNat)) q5 ∧ e = [(eA l8 Zn (([((a3.getD (0 : Int).toNat ([] : Str)) ++ ([48] : Str))]) ++ (a3.drop (1 : Int).toNat)) r2 9)] ∧ (1 + (d6 - (1 : Int).toNat)) ≤ q5 ∧ r2.length = (q5 - (1 + (d6 - (1 : Int).toNat))) * 1 ∧ (l8 = none → q5 = 0)⟩ :: []) [73, 74, 75, 76, 77, 78, 79, 80, 81, 82, 83, 84, 85, 86, 87, 88, 89, 90, 91, 92, 93, 94, 95, 96, 97, 98, 99, 100, 101, 102, 103, 104, 105, 106, 107, 108, 109, 110, 111, 112, 113, 114] 42 (Uy [[]]) [[]] [] [(eA s8 Zn ((a3.take ((at3.tmod (a3.length : Int)) + 1).toNat) ++ (a3.drop (at3.tmod (a3.length : Int)).toNat)) y5 9), (eA r6 Zn ((a3.take (at3.tmod (a3.length : Int)).toNat) ++ (a3.drop ((at3.tmod (a3.length : Int)) + 1).toNat)) x5 9), (eA c9 Zn a3 r4 9), (eA v4 (intC .u8) A1 B5 5), (eI r5 t1 A5 2), (eC b1 #[iV r3.N, iV r3.S, iV r3.T, sV b7 n6 c7] 24), (eA b7 Zt r3.Arcs j8 58)]
          · exact We
          · exact rfl
          · kernel_rfl
          · kernel_rfl
          · kernel_rfl
          · kernel_rfl
          · exact rfl
          · exact rfl
          · exact rfl
          · exact Yk (by repeat constructor)
          ·
           refine ⟨?_, ?_, ?_, ?_, ?_, ?_, ?_, ?_, ?_, ?_, ?_, ?_, ?_, ?_, ?_, ?_, ?_, ?_, ?_, ?_, ?_, ?_, ?_, ?_, ?_, ?_, ?_, ?_, ?_, ?_, ?_, ?_, ?_, ?_, ?_, ?_, ?_, ?_, ?_, ?_, ?_, ?_, trivial⟩
           · rintro vs es Es Hx -; refine Zg (D := []) rfl ?_; refine Zd Za ?_; refine Zb ?_; exact Zh rfl ⟨rfl, rfl⟩ (Ze _) rfl
           · rintro vs es Es Hx -; refine Zg (D := []) rfl ?_; refine Zd Za ?_; refine Zb ?_; exact Zh rfl ⟨rfl, rfl⟩ (Ze _) rfl
           · rintro vs es Es Hx ⟨⟨e1, j1⟩, ⟨e0, k6⟩, -⟩; refine Zg (D := [(73, vs 0), (74, vs 1)]) rfl ?_; rw [e1, e0]; refine Xi Wk Zc (fun wc hwc => Wn (lines0 := a3) (c1 := r3) wc (hwc.rs (f := Zn) (s := 1) (xs := a3) (j := r4) (fun _ => rfl) Xa a8 c8 d3) (hwc.rs (f := Zt) (s := 3) (xs := r3.Arcs) (j := j8) (fun _ => rfl) Xv p9 d4 d5) (hwc.hb (cs := [iV r3.N, iV r3.S, iV r3.T, sV b7 n6 c7]) Xt) (hG.mono hwc) B6) ?_; rintro _ _ ⟨rfl, rfl⟩; refine Zb ?_; exact Zh rfl ⟨rfl, rfl⟩ (Ze _) (by show [(73, vs 0), (74, vs 1)] = _; rw [e1, e0])
           · rintro vs es Es Hx ⟨⟨e6, l4⟩, -⟩; refine Zg (D := [(75, vs 2)]) rfl ?_; rw [e6]; refine TO.not Za ?_; refine Zb ?_; exact Zh rfl ⟨rfl, rfl⟩ (Ze _) (by show [(75, vs 2)] = _; rw [e6])
           · rintro vs es Es Hx ⟨⟨e3, i7⟩, -⟩; refine Zg (D := [(76, vs 3)]) rfl ?_; rw [e3]; refine Zd Za ?_; refine Zw (t := 77) (b' := false) rfl (Bool.eq_false_iff.2 A7) ?_; refine Zb ?_; exact Wv rfl ⟨rfl, rfl⟩ (Ze _) (by show [(76, vs 3)] = _; rw [e3])
           · rintro vs es Es Hx ⟨⟨b3, c0⟩, -⟩; refine Zg (D := [(77, vs 4)]) rfl ?_; rw [b3]; refine Zd Za ?_; refine Zb ?_; exact Zh rfl ⟨rfl, rfl⟩ (Ze _) (by show [(77, vs 4)] = _; rw [b3])
           · rintro vs es Es Hx ⟨⟨b3, c0⟩, -⟩; refine Zg (D := [(77, vs 4)]) rfl ?_; rw [b3]; refine Zd Za ?_; refine Zb ?_; exact Zh rfl ⟨rfl, rfl⟩ (Ze _) (by show [(77, vs 4)] = _; rw [b3])
           · rintro vs es Es Hx ⟨⟨b3, c0⟩, ⟨c4, h1⟩, ⟨d9, j2⟩, -⟩; refine Zg (D := [(77, vs 4), (78, vs 5), (79, vs 6)]) rfl ?_; rw [b3, c4, d9]; refine Xi Wk Zc (fun wc hwc => Wn (lines0 := ((a3.take (at3.tmod (a3.length : Int)).toNat) ++ (a3.drop ((at3.tmod (a3.length : Int)) + 1).toNat))) (c1 := r3) wc (hwc.rs (f := Zn) (s := 1) (xs := ((a3.take (at3.tmod (a3.length : Int)).toNat) ++ (a3.drop ((at3.tmod (a3.length : Int)) + 1).toNat))) (j := x5) (fun _ => rfl) Xh (Wy (Ws (Ug A2)) (Wz a8)) v7 v8) (hwc.rs (f := Zt) (s := 3) (xs := r3.Arcs) (j := j8) (fun _ => rfl) Xv p9 d4 d5) (hwc.hb (cs := [iV r3.N, iV r3.S, iV r3.T, sV b7 n6 c7]) Xt) (hG.mono hwc) C7) ?_; rintro _ _ ⟨rfl, rfl⟩; refine Zb ?_; exact Zh rfl ⟨rfl, rfl⟩ (Ze _) (by show [(77, vs 4), (78, vs 5), (79, vs 6)] = _; rw [b3, c4, d9])
           · rintro vs es Es Hx ⟨⟨b3, c0⟩, ⟨e7, l5⟩, -⟩; refine Zg (D := [(77, vs 4), (80, vs 7)]) rfl ?_; rw [b3, e7]; refine Yf Zc ?_; refine Zb ?_; exact Zh rfl ⟨rfl, rfl⟩ (Ze _) (by show [(77, vs 4), (80, vs 7)] = _; rw [b3, e7])
           · rintro vs es Es Hx ⟨⟨i6, p2⟩, -⟩; refine Zg (D := [(81, vs 8)]) rfl ?_; rw [i6]; refine Zd Za ?_; refine Zw (t := 82) (b' := false) rfl (Bool.eq_false_iff.2 u3) ?_; refine Zb ?_; exact Wv rfl ⟨rfl, rfl⟩ (Ze _) (by show [(81, vs 8)] = _; rw [i6])
           · rintro vs es Es Hx ⟨⟨c6, p3⟩, -⟩; refine Zg (D := [(82, vs 9)]) rfl ?_; rw [c6]; refine Zd Za ?_; refine Zb ?_; exact Zh rfl ⟨rfl, rfl⟩ (Ze _) (by show [(82, vs 9)] = _; rw [c6])
           · rintro vs es Es Hx ⟨⟨c6, p3⟩, -⟩; refine Zg (D := [(82, vs 9)]) rfl ?_; rw [c6]; refine Zd Za ?_; refine Zb ?_; exact Zh rfl ⟨rfl, rfl⟩ (Ze _) (by show [(82, vs 9)] = _; rw [c6])
           · rintro vs es Es Hx ⟨⟨c6, p3⟩, ⟨d0, i8⟩, ⟨d1, i9⟩, -⟩; refine Zg (D := [(82, vs 9), (83, vs 10), (84, vs 11)]) rfl ?_; rw [c6, d0, d1]; refine Xi Wk Zc (fun wc hwc => Wn (lines0 := ((a3.take ((at3.tmod (a3.length : Int)) + 1).toNat) ++ (a3.drop (at3.tmod (a3.length : Int)).toNat))) (c1 := r3) wc (hwc.rs (f := Zn) (s := 1) (xs := ((a3.take ((at3.tmod (a3.length : Int)) + 1).toNat) ++ (a3.drop (at3.tmod (a3.length : Int)).toNat))) (j := y5) (fun _ => rfl) Zq (Wy (Ws (Ug A6)) (Wz a8)) x6 x7) (hwc.rs (f := Zt) (s := 3) (xs := r3.Arcs) (j := j8) (fun _ => rfl) Xv p9 d4 d5) (hwc.hb (cs := [iV r3.N, iV r3.S, iV r3.T, sV b7 n6 c7]) Xt) (hG.mono hwc) x8) ?_; rintro _ _ ⟨rfl, rfl⟩; refine Zb ?_; exact Zh rfl ⟨rfl, rfl⟩ (Ze _) (by show [(82, vs 9), (83, vs 10), (84, vs 11)] = _; rw [c6, d0, d1])
           · rintro vs es Es Hx ⟨⟨c6, p3⟩, ⟨d8, j6⟩, -⟩; refine Zg (D := [(82, vs 9), (85, vs 12)]) rfl ?_; rw [c6, d8]; refine Yf Zc ?_; refine Zb ?_; exact Zh rfl ⟨rfl, rfl⟩ (Ze _) (by show [(82, vs 9), (85, vs 12)] = _; rw [c6, d8])
           · rintro vs es Es Hx ⟨⟨e5, k2⟩, -⟩; refine Zg (D := [(86, vs 13)]) rfl ?_; rw [e5]; refine Zd Za ?_; refine Zw (t := 87) (b' := false) rfl (Bool.eq_false_iff.2 w0) ?_; refine Zb ?_; exact Wv rfl ⟨rfl, rfl⟩ (Ze _) (by show [(86, vs 13)] = _; rw [e5])
           · rintro vs es Es Hx ⟨⟨a6, b6⟩, -⟩; refine Zg (D := [(87, vs 14)]) rfl ?_; rw [a6]; refine Zd Za ?_; refine Zb ?_; exact Zh rfl ⟨rfl, rfl⟩ (Ze _) (by show [(87, vs 14)] = _; rw [a6])
           · rintro vs es Es Hx ⟨⟨a6, b6⟩, ⟨e8, k3⟩, -⟩; refine Zg (D := [(87, vs 14), (88, vs 15)]) rfl ?_; rw [a6, e8]; refine Yq (xs := a3) a8 Zc Yl ?_; refine Zb ?_; exact Zh rfl ⟨rfl, rfl⟩ (Ze _) (by show [(87, vs 14), (88, vs 15)] = _; rw [a6, e8])
           · rintro vs es Es Hx ⟨⟨a6, b6⟩, ⟨e9, m5⟩, -⟩; refine Zg (D := [(87, vs 14), (89, vs 16)]) rfl ?_; rw [a6, e9]; refine Zx Zs ?_; refine Zb ?_; exact Zh rfl ⟨rfl, rfl⟩ (Ze _) (by show [(87, vs 14), (89, vs 16)] = _; rw [a6, e9])
           · rintro vs es Es Hx ⟨⟨a6, b6⟩, ⟨f0, m6⟩, -⟩; refine Zg (D := [(87, vs 14), (90, vs 17)]) rfl ?_; rw [a6, f0]; refine Zd Za ?_; refine Zw (t := 91) (b' := false) rfl (decide_eq_false x9) ?_; refine Zb ?_; exact Wv rfl ⟨rfl, rfl⟩ (Ze _) (by show [(87, vs 14), (90, vs 17)] = _; rw [a6, f0])
           · rintro vs es Es Hx ⟨⟨a2, a7⟩, -⟩; refine Zg (D := [(91, vs 18)]) rfl ?_; rw [a2]; refine Zi Za ?_; refine Zb ?_; exact Zh rfl ⟨rfl, rfl⟩ (Ze _) (by show [(91, vs 18)] = _; rw [a2])
           · rintro vs es Es Hx ⟨⟨a2, a7⟩, -⟩; refine Zg (D := [(91, vs 18)]) rfl ?_; rw [a2]; refine Zi Za ?_; refine Zb ?_; exact Zh rfl ⟨rfl, rfl⟩ (Ze _) (by show [(91, vs 18)] = _; rw [a2])
           · rintro vs es Es Hx ⟨⟨a2, a7⟩, -⟩; refine Zg (D := [(91, vs 18)]) rfl ?_; rw [a2]; refine Zi Za ?_; refine Zb ?_; exact Zh rfl ⟨rfl, rfl⟩ (Ze _) (by show [(91, vs 18)] = _; rw [a2])
           · rintro vs es Es Hx ⟨⟨a2, a7⟩, ⟨f2, m7⟩, -⟩; refine Zg (D := [(91, vs 18), (94, vs 21)]) rfl ?_; rw [a2, f2]; refine Zi Za ?_; refine Zb ?_; exact Zh rfl ⟨rfl, rfl⟩ (Ze _) (by show [(91, vs 18), (94, vs 21)] = _; rw [a2, f2])
           · rintro vs es Es Hx ⟨⟨a2, a7⟩, ⟨f3, m8⟩, ⟨f4, h8⟩, -⟩; refine Zg (D := [(91, vs 18), (93, vs 20), (95, vs 22)]) rfl ?_; rw [a2, f3, f4]; refine Zi Za ?_; refine Zb ?_; exact Zh rfl ⟨rfl, rfl⟩ (Ze _) (by show [(91, vs 18), (93, vs 20), (95, vs 22)] = _; rw [a2, f3, f4])
           · rintro vs es Es Hx ⟨⟨a2, a7⟩, -⟩; refine Zg (D := [(91, vs 18)]) rfl ?_; rw [a2]; refine Zi Za ?_; refine Zb ?_; exact Zh rfl ⟨rfl, rfl⟩ (Ze _) (by show [(91, vs 18)] = _; rw [a2])
           · rintro vs es Es Hx ⟨⟨a2, a7⟩, ⟨d2, k4⟩, -⟩; refine Zg (D := [(91, vs 18), (97, vs 24)]) rfl ?_; rw [a2, d2]; refine Zi Za ?_; refine Zb ?_; exact Zh rfl ⟨rfl, rfl⟩ (Ze _) (by show [(91, vs 18), (97, vs 24)] = _; rw [a2, d2])
           · rintro vs es Es Hx ⟨⟨a2, a7⟩, ⟨f5, m9⟩, -⟩; refine Zg (D := [(91, vs 18), (98, vs 25)]) rfl ?_; rw [a2, f5]; refine Zi Za ?_; refine Zb ?_; exact Zh rfl ⟨rfl, rfl⟩ (Ze _) (by show [(91, vs 18), (98, vs 25)] = _; rw [a2, f5])
           · rintro vs es Es Hx ⟨⟨a2, a7⟩, ⟨f6, n7⟩, -⟩; refine Zg (D := [(91, vs 18), (99, vs 26)]) rfl ?_; rw [a2, f6]; refine Zi Za ?_; refine Zb ?_; exact Zh rfl ⟨rfl, rfl⟩ (Ze _) (by show [(91, vs 18), (99, vs 26)] = _; rw [a2, f6])
           · rintro vs es Es Hx ⟨⟨a2, a7⟩, ⟨f7, n8⟩, ⟨f8, h9⟩, -⟩; refine Zg (D := [(91, vs 18), (96, vs 23), (100, vs 27)]) rfl ?_; rw [a2, f7, f8]; refine Zi Za ?_; refine Zb ?_; exact Zh rfl ⟨rfl, rfl⟩ (Ze _) (by show [(91, vs 18), (96, vs 23), (100, vs 27)] = _; rw [a2, f7, f8])
           · rintro vs es Es Hx ⟨⟨a2, a7⟩, ⟨f9, i4⟩, ⟨g0, i5⟩, -⟩; refine Zg (D := [(91, vs 18), (92, vs 19), (101, vs 28)]) rfl ?_; rw [a2, f9, g0]; refine Zi Za ?_; refine Zb ?_; exact Zh rfl ⟨rfl, rfl⟩ (Ze _) (by show [(91, vs 18), (92, vs 19), (101, vs 28)] = _; rw [a2, f9, g0])
           · rintro vs es Es Hx ⟨⟨a6, b6⟩, ⟨a2, a7⟩, ⟨g1, o0⟩, -⟩; refine Zg (D := [(87, vs 14), (91, vs 18), (102, vs 29)]) rfl ?_; rw [a6, a2, g1]; refine Yf Zc ?_; refine Zb ?_; exact Zh rfl ⟨rfl, rfl⟩ (Ze _) (by show [(87, vs 14), (91, vs 18), (102, vs 29)] = _; rw [a6, a2, g1])
           · rintro vs es Es Hx ⟨⟨a6, b6⟩, ⟨g2, o1⟩, -⟩; refine Zg (D := [(87, vs 14), (103, vs 30)]) rfl ?_; rw [a6, g2]; refine Yf Zc ?_; refine Zb ?_; exact Zh rfl ⟨rfl, rfl⟩ (Ze _) (by show [(87, vs 14), (103, vs 30)] = _; rw [a6, g2])
           · rintro vs es Es Hx ⟨⟨g3, o2⟩, -⟩; refine Zg (D := [(104, vs 31)]) rfl ?_; rw [g3]; refine Zd Za ?_; refine Zb ?_; exact Zh rfl ⟨rfl, rfl⟩ (Ze _) (by show [(104, vs 31)] = _; rw [g3])
           · rintro vs es Es Hx ⟨⟨a4, a9⟩, -⟩; refine Zg (D := [(105, vs 32)]) rfl ?_; rw [a4]; refine Zd Za ?_; refine Zb ?_; exact Zh rfl ⟨rfl, rfl⟩ (Ze _) (by show [(105, vs 32)] = _; rw [a4])
           · rintro vs es Es Hx ⟨⟨a4, a9⟩, -⟩; refine Zg (D := [(105, vs 32)]) rfl ?_; rw [a4]; refine Zd Za ?_; refine Zb ?_; exact Zh rfl ⟨rfl, rfl⟩ (Ze _) (by show [(105, vs 32)] = _; rw [a4])
           · rintro vs es Es Hx ⟨⟨a4, a9⟩, ⟨b8, j7⟩, -⟩; refine Zg (D := [(105, vs 32), (107, vs 34)]) rfl ?_; rw [a4, b8]; refine Vz d3 c8 a8 B1 Zc Yl Yo ?_; refine Zb ?_; exact Zh rfl ⟨rfl, rfl⟩ (Ze _) (by show [(105, vs 32), (107, vs 34)] = _; rw [a4, b8])
           · rintro vs es Es Hx ⟨⟨a4, a9⟩, ⟨b8, j7⟩, ⟨g4, o3⟩, -⟩; refine Zg (D := [(105, vs 32), (107, vs 34), (108, vs 35)]) rfl ?_; rw [a4, b8, g4]; refine Kl (f := Zn) (v := .string (bs (a3.getD (0 : Int).toNat ([] : Str)))) ([] : Str) (fun _ => rfl) d3 c8 a8 B1 Zc Wg Xa ?_; refine Zb ?_; exact Zh rfl ⟨rfl, rfl⟩ (Ze _) (by show [(105, vs 32), (107, vs 34), (108, vs 35)] = _; rw [a4, b8, g4])
           · rintro vs es Es Hx ⟨⟨a4, a9⟩, ⟨g5, o4⟩, -⟩; refine Zg (D := [(105, vs 32), (109, vs 36)]) rfl ?_; rw [a4, g5]; refine Kq (p := (a3.getD (0 : Int).toNat ([] : Str))) (q := ([48] : Str)) F7 Zc ?_; refine Zb ?_; exact Zh rfl ⟨rfl, rfl⟩ (Ze _) (by show [(105, vs 32), (109, vs 36)] = _; rw [a4, g5])
           · rintro vs es Es Hx ⟨⟨a4, a9⟩, ⟨g6, o6⟩, -⟩; refine Zg (D := [(105, vs 32), (110, vs 37)]) rfl ?_; rw [a4, g6]; refine Vq [.string ByteArray.empty] [0] Za Yl Yo Gd Xj (by simp only [Xx, setCells, Value.cells, List.toList_toArray, List.getD_cons_zero, List.getD_cons_succ, List.set_cons_zero, List.set_cons_succ]; rfl) (by kernel_rfl) ?_; intro q4; refine Zb ?_; exact Zh rfl ⟨q4, rfl, rfl⟩ (Yk (by repeat constructor)) (by show [(105, vs 32), (110, vs 37)] = _; rw [a4, g6])
           · rintro vs es Es Hx ⟨⟨a4, a9⟩, -⟩; refine Zg (D := [(105, vs 32)]) rfl ?_; rw [a4]; refine Zd Za ?_; refine Zb ?_; exact Zh rfl ⟨rfl, rfl⟩ (Ze _) (by show [(105, vs 32)] = _; rw [a4])
           · rintro vs es Es Hx ⟨⟨a4, a9⟩, ⟨g7, o7⟩, -⟩; refine Zg (D := [(105, vs 32), (112, vs 39)]) rfl ?_; rw [a4, g7]; refine Ji (xs := a3) a8 B2 Zc Yl Yo ?_; refine Zb ?_; exact Zh rfl ⟨rfl, rfl⟩ (Ze _) (by show [(105, vs 32), (112, vs 39)] = _; rw [a4, g7])
           · rintro vs es Es Hx ⟨⟨a4, a9⟩, ⟨q4, g8, o8⟩, ⟨g9, h3⟩, -⟩; refine Zg (D := [(105, vs 32), (111, vs 38), (113, vs 40)]) rfl ?_; rw [a4, g8, g9]; refine Ym (H := _ ++ ((es 32 ++ (es 38 ++ (es 40 ++ ([])))) ++ _)) rfl ?_; rw [a9, o8, h3]; refine Vs (f := Zn) (s := 1) (xs := [((a3.getD (0 : Int).toNat ([] : Str)) ++ ([48] : Str))]) (ob := some q4) (j := ([])) (ys := (a3.drop (1 : Int).toNat)) (fun _ => rfl) (fun _ => rfl) Us F8 Zc Jb rfl (Nat.le_refl _) (Wh _ _) Xd (fun wc hwc => (RS.drop (hwc.rs (f := Zn) (s := 1) (xs := a3) (j := r4) (fun _ => rfl) Xa a8 c8 d3) B2)) ?_; intro l8 q5 r2 r9 u6 s6; refine Zb ?_; exact Zh rfl ⟨l8, q5, r2, rfl, rfl, r9, u6, s6⟩ (by show Pick (_ ++ (_ ++ ((es 32 ++ (es 40 ++ ([]))) ++ _))) _; rw [a9, h3]; exact Yk (by repeat constructor)) (by show [(105, vs 32), (111, vs 38), (113, vs 40)] = _; rw [a4, g8, g9])
          · rintro vs es hb ⟨⟨e1, j1⟩, ⟨e0, k6⟩, ⟨e6, l4⟩, ⟨e3, i7⟩, ⟨b3, c0⟩, ⟨c4, h1⟩, ⟨d9, j2⟩, ⟨e7, l5⟩, ⟨i6, p2⟩, ⟨c6, p3⟩, ⟨d0, i8⟩, ⟨d1, i9⟩, ⟨d8, j6⟩, ⟨e5, k2⟩, ⟨a6, b6⟩, ⟨e8, k3⟩, ⟨e9, m5⟩, ⟨f0, m6⟩, ⟨a2, a7⟩, ⟨f9, i4⟩, ⟨f3, m8⟩, ⟨f2, m7⟩, ⟨f4, h8⟩, ⟨f7, n8⟩, ⟨d2, k4⟩, ⟨f5, m9⟩, ⟨f6, n7⟩, ⟨f8, h9⟩, ⟨g0, i5⟩, ⟨g1, o0⟩, ⟨g2, o1⟩, ⟨g3, o2⟩, ⟨a4, a9⟩, ⟨q6, q7⟩, ⟨b8, j7⟩, ⟨g4, o3⟩, ⟨g5, o4⟩, ⟨g6, o6⟩, ⟨q4, g8, o8⟩, ⟨g7, o7⟩, ⟨g9, h3⟩, ⟨l8, q5, r2, q8, q9, r9, u6, s6⟩, -⟩ hHR; obtain rfl : hb = [] := hHR; refine Zg (D := [(73, vs 0), (74, vs 1), (75, vs 2), (76, vs 3), (77, vs 4), (78, vs 5), (79, vs 6), (80, vs 7), (81, vs 8), (82, vs 9), (83, vs 10), (84, vs 11), (85, vs 12), (86, vs 13), (87, vs 14), (88, vs 15), (89, vs 16), (90, vs 17), (91, vs 18), (92, vs 19), (93, vs 20), (94, vs 21), (95, vs 22), (96, vs 23), (97, vs 24), (98, vs 25), (99, vs 26), (100, vs 27), (101, vs 28), (102, vs 29), (103, vs 30), (104, vs 31), (105, vs 32), (106, vs 33), (107, vs 34), (108, vs 35), (109, vs 36), (110, vs 37), (111, vs 38), (112, vs 39), (113, vs 40), (114, vs 41)]) rfl ?_; refine Ym (H := _ ++ (_ ++ (es 0 ++ (es 1 ++ (es 2 ++ (es 3 ++ (es 4 ++ (es 5 ++ (es 6 ++ (es 7 ++ (es 8 ++ (es 9 ++ (es 10 ++ (es 11 ++ (es 12 ++ (es 13 ++ (es 14 ++ (es 15 ++ (es 16 ++ (es 17 ++ (es 18 ++ (es 19 ++ (es 20 ++ (es 21 ++ (es 22 ++ (es 23 ++ (es 24 ++ (es 25 ++ (es 26 ++ (es 27 ++ (es 28 ++ (es 29 ++ (es 30 ++ (es 31 ++ (es 32 ++ (es 33 ++ (es 34 ++ (es 35 ++ (es 36 ++ (es 37 ++ (es 39 ++ (es 40 ++ (es 41 ++ ([])))))))))))))))))))))))))))))))))))))))))))) rfl ?_; rw [j1, k6, l4, i7, c0, h1, j2, l5, p2, p3, i8, i9, j6, k2, b6, k3, m5, m6, a7, i4, m8, m7, h8, n8, k4, m9, n7, h9, i5, o0, o1, o2, a9, q7, j7, o3, o4, o6, o7, h3, q9]; rw [e1, e0, e6, e3, b3, c4, d9, e7, i6, c6, d0, d1, d8, e5, a6, e8, e9, f0, a2, f9, f3, f2, f4, f7, d2, f5, f6, f8, g0, g1, g2, g3, a4, q6, b8, g4, g5, g6, g8, g7, g9, q8]; clear q8 g9 g7 g8 g6 g5 g4 b8 q6 a4 g3 g2 g1 g0 f8 f6 f5 d2 f7 f4 f2 f3 f9 a2 f0 e9 e8 a6 e5 d8 d1 d0 c6 i6 e7 d9 c4 b3 e3 e6 e0 e1 j1 k6 l4 i7 c0 h1 j2 l5 p2 p3 i8 i9 j6 k2 b6 k3 m5 m6 a7 i4 m8 m7 h8 n8 k4 m9 n7 h9 i5 o0 o1 o2 a9 q7 j7 o3 o4 o6 o8 o7 h3 q9; refine Xi Wk Zc (fun wc hwc => Wn (lines0 := (([((a3.getD (0 : Int).toNat ([] : Str)) ++ ([48] : Str))]) ++ (a3.drop (1 : Int).toNat))) (c1 := r3) wc (hwc.rs (f := Zn) (s := 1) (xs := (([((a3.getD (0 : Int).toNat ([] : Str)) ++ ([48] : Str))]) ++ (a3.drop (1 : Int).toNat))) (j := r2) (fun _ => rfl) mm7 (Wy rfl (Wz a8)) r9 s6) (hwc.rs (f := Zt) (s := 3) (xs := r3.Arcs) (j := j8) (fun _ => rfl) Xv p9 d4 d5) (hwc.hb (cs := [iV r3.N, iV r3.S, iV r3.T, sV b7 n6 c7]) Xt) (hG.mono hwc) F9) ?_; rintro _ _ ⟨rfl, rfl⟩; refine Zd Za ?_; refine Zw (t := 116) (b' := true) rfl D2 ?_; refine Zd Za ?_; refine Vz d3 c8 a8 G0 Zc Yl Yo ?_; refine Kl (f := Zn) (v := .string (bs (a3.getD (0 : Int).toNat ([] : Str)))) ([] : Str) (fun _ => rfl) d3 c8 a8 G0 Zc Wg Xa ?_; refine Ng (p := (a3.getD (0 : Int).toNat ([] : Str))) (q := ([115, 32, 48] : Str)) Zc ?_; refine Yr Zc ?_; refine Yf Zc ?_; refine Zb ?_; exact Yz (decide (¬((a3.getD (0 : Int).toNat ([] : Str)) = ([115, 32, 48] : Str)))) H (aF rfl) (Zj Wu (Zj Wu (Zj Kw Zk)))
         ·
          apply Kf (⟨[], false, [], Zl (.func (.func 27) #[] #[pV b1])⟩ :: ⟨[], false, [], Zl (sV c9 d6 p1)⟩ :: ⟨[0, 1], false, [], Zl (.bool A3)⟩ :: ⟨[2], false, [], Zl (.bool (!A3))⟩ :: ⟨[3], false, [], Zl (.bool false)⟩ :: ⟨[4], false, [], Zl (.func (.func 27) #[] #[pV b1])⟩ :: ⟨[4], false, [], Zl (sV r6 ((0 + (at3.tmod (a3.length : Int)).toNat) + (d6 - ((at3.tmod (a3.length : Int)) + 1).toNat)) F2)⟩ :: ⟨[4, 5, 6], false, [], Zl (.bool A4)⟩ :: ⟨[4, 7], false, [], Zl (.bool A4)⟩ :: ⟨[8], false, [], Zl (.bool false)⟩ :: ⟨[9], false, [], Zl (.func (.func 27) #[] #[pV b1])⟩ :: ⟨[9], false, [], Zl (sV s8 ((0 + ((at3.tmod (a3.length : Int)) + 1).toNat) + (d6 - (at3.tmod (a3.length : Int)).toNat)) c89)⟩ :: ⟨[9, 10, 11], false, [], Zl (.bool t0)⟩ :: ⟨[9, 12], false, [], Zl (.bool t0)⟩ :: ⟨[13], false, [], Zl (.bool false)⟩ :: ⟨[14], false, [], Zl (sV c9 d6 p1)⟩ :: ⟨[14, 15], false, [], Zl (iV (a3.length : Int))⟩ :: ⟨[14, 16], false, [], Zl (.bool (decide (1 < (a3.length : Int))))⟩ :: ⟨[14, 17], false, [], Zl (.bool false)⟩ :: ⟨[18], false, [], Zl (undef)⟩ :: ⟨[18], false, [], Zl (undef)⟩ :: ⟨[18], false, [], Zl (undef)⟩ :: ⟨[18, 21], false, [], Zl (undef)⟩ :: ⟨[18, 20, 22], false, [], Zl (undef)⟩ :: ⟨[18], false, [], Zl (undef)⟩ :: ⟨[18, 24], false, [], Zl (undef)⟩ :: ⟨[18, 25], false, [], Zl (undef)⟩ :: ⟨[18, 26], false, [], Zl (undef)⟩ :: ⟨[18, 23, 27], false, [], Zl (undef)⟩ :: ⟨[18, 19, 28], false, [], Zl (undef)⟩ :: ⟨[14, 18, 29], false, [], Zl (.bool false)⟩ :: ⟨[14, 30], false, [], Zl (.bool false)⟩ :: ⟨[31], false, [], Zl (.bool false)⟩ :: ⟨[32], false, [], Zl (.func (.func 27) #[] #[pV b1])⟩ :: ⟨[32], false, [], Zl (sV c9 d6 p1)⟩ :: rV [32, 34] _ :: ⟨[32, 34, 35], false, [], Zl (.string (bs (a3.getD (0 : Int).toNat ([] : Str))))⟩ :: ⟨[32, 36], false, [], Zl (.string (bs ((a3.getD (0 : Int).toNat ([] : Str)) ++ ([48] : Str))))⟩ :: ⟨[32, 37], false, [], fun _ v e => ∃ (q4 : Nat), v = nV q4 1 1 ∧ e = [(eA (some q4) Zn ([((a3.getD (0 : Int).toNat ([] : Str)) ++ ([48] : Str))]) ([]) 9)]⟩ :: ⟨[32], false, [], Zl (sV c9 d6 p1)⟩ :: ⟨[32, 39], false, [], Zl (.slice (Vk (sb c9) (1 : Int).toNat p1 1) (d6 - (1 : Int).toNat) (p1 - (1 : Int).toNat))⟩ :: ⟨[32, 38, 40], false, [38], fun _ v e => ∃ (l8 : Option Nat) (q5 : Nat) (r2 : List Value), v = sV l8 (1 + (d6 - (1 : Int).toNat)) q5 ∧ e = [(eA l8 Zn (([((a3.getD (0 : Int).toNat ([] : Str)) ++ ([48] : Str))]) ++ (a3.drop (1 : Int).toNat)) r2 9)] ∧ (1 + (d6 - (1 : Int).toNat)) ≤ q5 ∧ r2.length = (q5 - (1 + (d6 - (1 : Int).toNat))) * 1 ∧ (l8 = none → q5 = 0)⟩ :: []) [73, 74, 75, 76, 77, 78, 79, 80, 81, 82, 83, 84, 85, 86, 87, 88, 89, 90, 91, 92, 93, 94, 95, 96, 97, 98, 99, 100, 101, 102, 103, 104, 105, 106, 107, 108, 109, 110, 111, 112, 113, 114] 42 (Uy [[]]) [[]] [] [(eA s8 Zn ((a3.take ((at3.tmod (a3.length : Int)) + 1).toNat) ++ (a3.drop (at3.tmod (a3.length : Int)).toNat)) y5 9), (eA r6 Zn ((a3.take (at3.tmod (a3.length : Int)).toNat) ++ (a3.drop ((at3.tmod (a3.length : Int)) + 1).toNat)) x5 9), (eA c9 Zn a3 r4 9), (eA v4 (intC .u8) A1 B5 5), (eI r5 t1 A5 2), (eC b1 #[iV r3.N, iV r3.S, iV r3.T, sV b7 n6 c7] 24), (eA b7 Zt r3.Arcs j8 58)]
          · exact We
          · exact rfl
          · kernel_rfl
          · kernel_rfl
          · kernel_rfl
          · kernel_rfl
          · exact rfl
          · exact rfl
          · exact rfl
          · exact Yk (by repeat constructor)
          ·
           refine ⟨?_, ?_, ?_, ?_, ?_, ?_, ?_, ?_, ?_, ?_, ?_, ?_, ?_, ?_, ?_, ?_, ?_, ?_, ?_, ?_, ?_, ?_, ?_, ?_, ?_, ?_, ?_, ?_, ?_, ?_, ?_, ?_, ?_, ?_, ?_, ?_, ?_, ?_, ?_, ?_, ?_, ?_, trivial⟩
           · rintro vs es Es Hx -; refine Zg (D := []) rfl ?_; refine Zd Za ?_; refine Zb ?_; exact Zh rfl ⟨rfl, rfl⟩ (Ze _) rfl
           · rintro vs es Es Hx -; refine Zg (D := []) rfl ?_; refine Zd Za ?_; refine Zb ?_; exact Zh rfl ⟨rfl, rfl⟩ (Ze _) rfl
           · rintro vs es Es Hx ⟨⟨e1, j1⟩, ⟨e0, k6⟩, -⟩; refine Zg (D := [(73, vs 0), (74, vs 1)]) rfl ?_; rw [e1, e0]; refine Xi Wk Zc (fun wc hwc => Wn (lines0 := a3) (c1 := r3) wc (hwc.rs (f := Zn) (s := 1) (xs := a3) (j := r4) (fun _ => rfl) Xa a8 c8 d3) (hwc.rs (f := Zt) (s := 3) (xs := r3.Arcs) (j := j8) (fun _ => rfl) Xv p9 d4 d5) (hwc.hb (cs := [iV r3.N, iV r3.S, iV r3.T, sV b7 n6 c7]) Xt) (hG.mono hwc) B6) ?_; rintro _ _ ⟨rfl, rfl⟩; refine Zb ?_; exact Zh rfl ⟨rfl, rfl⟩ (Ze _) (by show [(73, vs 0), (74, vs 1)] = _; rw [e1, e0])
           · rintro vs es Es Hx ⟨⟨e6, l4⟩, -⟩; refine Zg (D := [(75, vs 2)]) rfl ?_; rw [e6]; refine TO.not Za ?_; refine Zb ?_; exact Zh rfl ⟨rfl, rfl⟩ (Ze _) (by show [(75, vs 2)] = _; rw [e6])
           · rintro vs es Es Hx ⟨⟨e3, i7⟩, -⟩; refine Zg (D := [(76, vs 3)]) rfl ?_; rw [e3]; refine Zd Za ?_; refine Zw (t := 77) (b' := false) rfl (Bool.eq_false_iff.2 A7) ?_; refine Zb ?_; exact Wv rfl ⟨rfl, rfl⟩ (Ze _) (by show [(76, vs 3)] = _; rw [e3])
           · rintro vs es Es Hx ⟨⟨b3, c0⟩, -⟩; refine Zg (D := [(77, vs 4)]) rfl ?_; rw [b3]; refine Zd Za ?_; refine Zb ?_; exact Zh rfl ⟨rfl, rfl⟩ (Ze _) (by show [(77, vs 4)] = _; rw [b3])
           · rintro vs es Es Hx ⟨⟨b3, c0⟩, -⟩; refine Zg (D := [(77, vs 4)]) rfl ?_; rw [b3]; refine Zd Za ?_; refine Zb ?_; exact Zh rfl ⟨rfl, rfl⟩ (Ze _) (by show [(77, vs 4)] = _; rw [b3])
           · rintro vs es Es Hx ⟨⟨b3, c0⟩, ⟨c4, h1⟩, ⟨d9, j2⟩, -⟩; refine Zg (D := [(77, vs 4), (78, vs 5), (79, vs 6)]) rfl ?_; rw [b3, c4, d9]; refine Xi Wk Zc (fun wc hwc => Wn (lines0 := ((a3.take (at3.tmod (a3.length : Int)).toNat) ++ (a3.drop ((at3.tmod (a3.length : Int)) + 1).toNat))) (c1 := r3) wc (hwc.rs (f := Zn) (s := 1) (xs := ((a3.take (at3.tmod (a3.length : Int)).toNat) ++ (a3.drop ((at3.tmod (a3.length : Int)) + 1).toNat))) (j := x5) (fun _ => rfl) Xh (Wy (Ws (Ug A2)) (Wz a8)) v7 v8) (hwc.rs (f := Zt) (s := 3) (xs := r3.Arcs) (j := j8) (fun _ => rfl) Xv p9 d4 d5) (hwc.hb (cs := [iV r3.N, iV r3.S, iV r3.T, sV b7 n6 c7]) Xt) (hG.mono hwc) C7) ?_; rintro _ _ ⟨rfl, rfl⟩; refine Zb ?_; exact Zh rfl ⟨rfl, rfl⟩ (Ze _) (by show [(77, vs 4), (78, vs 5), (79, vs 6)] = _; rw [b3, c4, d9])
           · rintro vs es Es Hx ⟨⟨b3, c0⟩, ⟨e7, l5⟩, -⟩; refine Zg (D := [(77, vs 4), (80, vs 7)]) rfl ?_; rw [b3, e7]; refine Yf Zc ?_; refine Zb ?_; exact Zh rfl ⟨rfl, rfl⟩ (Ze _) (by show [(77, vs 4), (80, vs 7)] = _; rw [b3, e7])
           · rintro vs es Es Hx ⟨⟨i6, p2⟩, -⟩; refine Zg (D := [(81, vs 8)]) rfl ?_; rw [i6]; refine Zd Za ?_; refine Zw (t := 82) (b' := false) rfl (Bool.eq_false_iff.2 u3) ?_; refine Zb ?_; exact Wv rfl ⟨rfl, rfl⟩ (Ze _) (by show [(81, vs 8)] = _; rw [i6])
           · rintro vs es Es Hx ⟨⟨c6, p3⟩, -⟩; refine Zg (D := [(82, vs 9)]) rfl ?_; rw [c6]; refine Zd Za ?_; refine Zb ?_; exact Zh rfl ⟨rfl, rfl⟩ (Ze _) (by show [(82, vs 9)] = _; rw [c6])
           · rintro vs es Es Hx ⟨⟨c6, p3⟩, -⟩; refine Zg (D := [(82, vs 9)]) rfl ?_; rw [c6]; refine Zd Za ?_; refine Zb ?_; exact Zh rfl ⟨rfl, rfl⟩ (Ze _) (by show [(82, vs 9)] = _; rw [c6])
           · rintro vs es Es Hx ⟨⟨c6, p3⟩, ⟨d0, i8⟩, ⟨d1, i9⟩, -⟩; refine Zg (D := [(82, vs 9), (83, vs 10), (84, vs 11)]) rfl ?_; rw [c6, d0, d1]; refine Xi Wk Zc (fun wc hwc => Wn (lines0 := ((a3.take ((at3.tmod (a3.length : Int)) + 1).toNat) ++ (a3.drop (at3.tmod (a3.length : Int)).toNat))) (c1 := r3) wc (hwc.rs (f := Zn) (s := 1) (xs := ((a3.take ((at3.tmod (a3.length : Int)) + 1).toNat) ++ (a3.drop (at3.tmod (a3.length : Int)).toNat))) (j := y5) (fun _ => rfl) Zq (Wy (Ws (Ug A6)) (Wz a8)) x6 x7) (hwc.rs (f := Zt) (s := 3) (xs := r3.Arcs) (j := j8) (fun _ => rfl) Xv p9 d4 d5) (hwc.hb (cs := [iV r3.N, iV r3.S, iV r3.T, sV b7 n6 c7]) Xt) (hG.mono hwc) x8) ?_; rintro _ _ ⟨rfl, rfl⟩; refine Zb ?_; exact Zh rfl ⟨rfl, rfl⟩ (Ze _) (by show [(82, vs 9), (83, vs 10), (84, vs 11)] = _; rw [c6, d0, d1])
           · rintro vs es Es Hx ⟨⟨c6, p3⟩, ⟨d8, j6⟩, -⟩; refine Zg (D := [(82, vs 9), (85, vs 12)]) rfl ?_; rw [c6, d8]; refine Yf Zc ?_; refine Zb ?_; exact Zh rfl ⟨rfl, rfl⟩ (Ze _) (by show [(82, vs 9), (85, vs 12)] = _; rw [c6, d8])
           · rintro vs es Es Hx ⟨⟨e5, k2⟩, -⟩; refine Zg (D := [(86, vs 13)]) rfl ?_; rw [e5]; refine Zd Za ?_; refine Zw (t := 87) (b' := false) rfl (Bool.eq_false_iff.2 w0) ?_; refine Zb ?_; exact Wv rfl ⟨rfl, rfl⟩ (Ze _) (by show [(86, vs 13)] = _; rw [e5])
           · rintro vs es Es Hx ⟨⟨a6, b6⟩, -⟩; refine Zg (D := [(87, vs 14)]) rfl ?_; rw [a6]; refine Zd Za ?_; refine Zb ?_; exact Zh rfl ⟨rfl, rfl⟩ (Ze _) (by show [(87, vs 14)] = _; rw [a6])
           · rintro vs es Es Hx ⟨⟨a6, b6⟩, ⟨e8, k3⟩, -⟩; refine Zg (D := [(87, vs 14), (88, vs 15)]) rfl ?_; rw [a6, e8]; refine Yq (xs := a3) a8 Zc Yl ?_; refine Zb ?_; exact Zh rfl ⟨rfl, rfl⟩ (Ze _) (by show [(87, vs 14), (88, vs 15)] = _; rw [a6, e8])
           · rintro vs es Es Hx ⟨⟨a6, b6⟩, ⟨e9, m5⟩, -⟩; refine Zg (D := [(87, vs 14), (89, vs 16)]) rfl ?_; rw [a6, e9]; refine Zx Zs ?_; refine Zb ?_; exact Zh rfl ⟨rfl, rfl⟩ (Ze _) (by show [(87, vs 14), (89, vs 16)] = _; rw [a6, e9])
           · rintro vs es Es Hx ⟨⟨a6, b6⟩, ⟨f0, m6⟩, -⟩; refine Zg (D := [(87, vs 14), (90, vs 17)]) rfl ?_; rw [a6, f0]; refine Zd Za ?_; refine Zw (t := 91) (b' := false) rfl (decide_eq_false x9) ?_; refine Zb ?_; exact Wv rfl ⟨rfl, rfl⟩ (Ze _) (by show [(87, vs 14), (90, vs 17)] = _; rw [a6, f0])
           · rintro vs es Es Hx ⟨⟨a2, a7⟩, -⟩; refine Zg (D := [(91, vs 18)]) rfl ?_; rw [a2]; refine Zi Za ?_; refine Zb ?_; exact Zh rfl ⟨rfl, rfl⟩ (Ze _) (by show [(91, vs 18)] = _; rw [a2])
           · rintro vs es Es Hx ⟨⟨a2, a7⟩, -⟩; refine Zg (D := [(91, vs 18)]) rfl ?_; rw [a2]; refine Zi Za ?_; refine Zb ?_; exact Zh rfl ⟨rfl, rfl⟩ (Ze _) (by show [(91, vs 18)] = _; rw [a2])
           · rintro vs es Es Hx ⟨⟨a2, a7⟩, -⟩; refine Zg (D := [(91, vs 18)]) rfl ?_; rw [a2]; refine Zi Za ?_; refine Zb ?_; exact Zh rfl ⟨rfl, rfl⟩ (Ze _) (by show [(91, vs 18)] = _; rw [a2])
           · rintro vs es Es Hx ⟨⟨a2, a7⟩, ⟨f2, m7⟩, -⟩; refine Zg (D := [(91, vs 18), (94, vs 21)]) rfl ?_; rw [a2, f2]; refine Zi Za ?_; refine Zb ?_; exact Zh rfl ⟨rfl, rfl⟩ (Ze _) (by show [(91, vs 18), (94, vs 21)] = _; rw [a2, f2])
           · rintro vs es Es Hx ⟨⟨a2, a7⟩, ⟨f3, m8⟩, ⟨f4, h8⟩, -⟩; refine Zg (D := [(91, vs 18), (93, vs 20), (95, vs 22)]) rfl ?_; rw [a2, f3, f4]; refine Zi Za ?_; refine Zb ?_; exact Zh rfl ⟨rfl, rfl⟩ (Ze _) (by show [(91, vs 18), (93, vs 20), (95, vs 22)] = _; rw [a2, f3, f4])
           · rintro vs es Es Hx ⟨⟨a2, a7⟩, -⟩; refine Zg (D := [(91, vs 18)]) rfl ?_; rw [a2]; refine Zi Za ?_; refine Zb ?_; exact Zh rfl ⟨rfl, rfl⟩ (Ze _) (by show [(91, vs 18)] = _; rw [a2])
           · rintro vs es Es Hx ⟨⟨a2, a7⟩, ⟨d2, k4⟩, -⟩; refine Zg (D := [(91, vs 18), (97, vs 24)]) rfl ?_; rw [a2, d2]; refine Zi Za ?_; refine Zb ?_; exact Zh rfl ⟨rfl, rfl⟩ (Ze _) (by show [(91, vs 18), (97, vs 24)] = _; rw [a2, d2])
           · rintro vs es Es Hx ⟨⟨a2, a7⟩, ⟨f5, m9⟩, -⟩; refine Zg (D := [(91, vs 18), (98, vs 25)]) rfl ?_; rw [a2, f5]; refine Zi Za ?_; refine Zb ?_; exact Zh rfl ⟨rfl, rfl⟩ (Ze _) (by show [(91, vs 18), (98, vs 25)] = _; rw [a2, f5])
           · rintro vs es Es Hx ⟨⟨a2, a7⟩, ⟨f6, n7⟩, -⟩; refine Zg (D := [(91, vs 18), (99, vs 26)]) rfl ?_; rw [a2, f6]; refine Zi Za ?_; refine Zb ?_; exact Zh rfl ⟨rfl, rfl⟩ (Ze _) (by show [(91, vs 18), (99, vs 26)] = _; rw [a2, f6])
           · rintro vs es Es Hx ⟨⟨a2, a7⟩, ⟨f7, n8⟩, ⟨f8, h9⟩, -⟩; refine Zg (D := [(91, vs 18), (96, vs 23), (100, vs 27)]) rfl ?_; rw [a2, f7, f8]; refine Zi Za ?_; refine Zb ?_; exact Zh rfl ⟨rfl, rfl⟩ (Ze _) (by show [(91, vs 18), (96, vs 23), (100, vs 27)] = _; rw [a2, f7, f8])
           · rintro vs es Es Hx ⟨⟨a2, a7⟩, ⟨f9, i4⟩, ⟨g0, i5⟩, -⟩; refine Zg (D := [(91, vs 18), (92, vs 19), (101, vs 28)]) rfl ?_; rw [a2, f9, g0]; refine Zi Za ?_; refine Zb ?_; exact Zh rfl ⟨rfl, rfl⟩ (Ze _) (by show [(91, vs 18), (92, vs 19), (101, vs 28)] = _; rw [a2, f9, g0])
           · rintro vs es Es Hx ⟨⟨a6, b6⟩, ⟨a2, a7⟩, ⟨g1, o0⟩, -⟩; refine Zg (D := [(87, vs 14), (91, vs 18), (102, vs 29)]) rfl ?_; rw [a6, a2, g1]; refine Yf Zc ?_; refine Zb ?_; exact Zh rfl ⟨rfl, rfl⟩ (Ze _) (by show [(87, vs 14), (91, vs 18), (102, vs 29)] = _; rw [a6, a2, g1])
           · rintro vs es Es Hx ⟨⟨a6, b6⟩, ⟨g2, o1⟩, -⟩; refine Zg (D := [(87, vs 14), (103, vs 30)]) rfl ?_; rw [a6, g2]; refine Yf Zc ?_; refine Zb ?_; exact Zh rfl ⟨rfl, rfl⟩ (Ze _) (by show [(87, vs 14), (103, vs 30)] = _; rw [a6, g2])
           · rintro vs es Es Hx ⟨⟨g3, o2⟩, -⟩; refine Zg (D := [(104, vs 31)]) rfl ?_; rw [g3]; refine Zd Za ?_; refine Zb ?_; exact Zh rfl ⟨rfl, rfl⟩ (Ze _) (by show [(104, vs 31)] = _; rw [g3])
           · rintro vs es Es Hx ⟨⟨a4, a9⟩, -⟩; refine Zg (D := [(105, vs 32)]) rfl ?_; rw [a4]; refine Zd Za ?_; refine Zb ?_; exact Zh rfl ⟨rfl, rfl⟩ (Ze _) (by show [(105, vs 32)] = _; rw [a4])
           · rintro vs es Es Hx ⟨⟨a4, a9⟩, -⟩; refine Zg (D := [(105, vs 32)]) rfl ?_; rw [a4]; refine Zd Za ?_; refine Zb ?_; exact Zh rfl ⟨rfl, rfl⟩ (Ze _) (by show [(105, vs 32)] = _; rw [a4])
           · rintro vs es Es Hx ⟨⟨a4, a9⟩, ⟨b8, j7⟩, -⟩; refine Zg (D := [(105, vs 32), (107, vs 34)]) rfl ?_; rw [a4, b8]; refine Vz d3 c8 a8 B1 Zc Yl Yo ?_; refine Zb ?_; exact Zh rfl ⟨rfl, rfl⟩ (Ze _) (by show [(105, vs 32), (107, vs 34)] = _; rw [a4, b8])
           · rintro vs es Es Hx ⟨⟨a4, a9⟩, ⟨b8, j7⟩, ⟨g4, o3⟩, -⟩; refine Zg (D := [(105, vs 32), (107, vs 34), (108, vs 35)]) rfl ?_; rw [a4, b8, g4]; refine Kl (f := Zn) (v := .string (bs (a3.getD (0 : Int).toNat ([] : Str)))) ([] : Str) (fun _ => rfl) d3 c8 a8 B1 Zc Wg Xa ?_; refine Zb ?_; exact Zh rfl ⟨rfl, rfl⟩ (Ze _) (by show [(105, vs 32), (107, vs 34), (108, vs 35)] = _; rw [a4, b8, g4])
           · rintro vs es Es Hx ⟨⟨a4, a9⟩, ⟨g5, o4⟩, -⟩; refine Zg (D := [(105, vs 32), (109, vs 36)]) rfl ?_; rw [a4, g5]; refine Kq (p := (a3.getD (0 : Int).toNat ([] : Str))) (q := ([48] : Str)) F7 Zc ?_; refine Zb ?_; exact Zh rfl ⟨rfl, rfl⟩ (Ze _) (by show [(105, vs 32), (109, vs 36)] = _; rw [a4, g5])
           · rintro vs es Es Hx ⟨⟨a4, a9⟩, ⟨g6, o6⟩, -⟩; refine Zg (D := [(105, vs 32), (110, vs 37)]) rfl ?_; rw [a4, g6]; refine Vq [.string ByteArray.empty] [0] Za Yl Yo Gd Xj (by simp only [Xx, setCells, Value.cells, List.toList_toArray, List.getD_cons_zero, List.getD_cons_succ, List.set_cons_zero, List.set_cons_succ]; rfl) (by kernel_rfl) ?_; intro q4; refine Zb ?_; exact Zh rfl ⟨q4, rfl, rfl⟩ (Yk (by repeat constructor)) (by show [(105, vs 32), (110, vs 37)] = _; rw [a4, g6])
           · rintro vs es Es Hx ⟨⟨a4, a9⟩, -⟩; refine Zg (D := [(105, vs 32)]) rfl ?_; rw [a4]; refine Zd Za ?_; refine Zb ?_; exact Zh rfl ⟨rfl, rfl⟩ (Ze _) (by show [(105, vs 32)] = _; rw [a4])
           · rintro vs es Es Hx ⟨⟨a4, a9⟩, ⟨g7, o7⟩, -⟩; refine Zg (D := [(105, vs 32), (112, vs 39)]) rfl ?_; rw [a4, g7]; refine Ji (xs := a3) a8 B2 Zc Yl Yo ?_; refine Zb ?_; exact Zh rfl ⟨rfl, rfl⟩ (Ze _) (by show [(105, vs 32), (112, vs 39)] = _; rw [a4, g7])
           · rintro vs es Es Hx ⟨⟨a4, a9⟩, ⟨q4, g8, o8⟩, ⟨g9, h3⟩, -⟩; refine Zg (D := [(105, vs 32), (111, vs 38), (113, vs 40)]) rfl ?_; rw [a4, g8, g9]; refine Ym (H := _ ++ ((es 32 ++ (es 38 ++ (es 40 ++ ([])))) ++ _)) rfl ?_; rw [a9, o8, h3]; refine Vs (f := Zn) (s := 1) (xs := [((a3.getD (0 : Int).toNat ([] : Str)) ++ ([48] : Str))]) (ob := some q4) (j := ([])) (ys := (a3.drop (1 : Int).toNat)) (fun _ => rfl) (fun _ => rfl) Us F8 Zc Jb rfl (Nat.le_refl _) (Wh _ _) Xd (fun wc hwc => (RS.drop (hwc.rs (f := Zn) (s := 1) (xs := a3) (j := r4) (fun _ => rfl) Xa a8 c8 d3) B2)) ?_; intro l8 q5 r2 r9 u6 s6; refine Zb ?_; exact Zh rfl ⟨l8, q5, r2, rfl, rfl, r9, u6, s6⟩ (by show Pick (_ ++ (_ ++ ((es 32 ++ (es 40 ++ ([]))) ++ _))) _; rw [a9, h3]; exact Yk (by repeat constructor)) (by show [(105, vs 32), (111, vs 38), (113, vs 40)] = _; rw [a4, g8, g9])
          · rintro vs es hb ⟨⟨e1, j1⟩, ⟨e0, k6⟩, ⟨e6, l4⟩, ⟨e3, i7⟩, ⟨b3, c0⟩, ⟨c4, h1⟩, ⟨d9, j2⟩, ⟨e7, l5⟩, ⟨i6, p2⟩, ⟨c6, p3⟩, ⟨d0, i8⟩, ⟨d1, i9⟩, ⟨d8, j6⟩, ⟨e5, k2⟩, ⟨a6, b6⟩, ⟨e8, k3⟩, ⟨e9, m5⟩, ⟨f0, m6⟩, ⟨a2, a7⟩, ⟨f9, i4⟩, ⟨f3, m8⟩, ⟨f2, m7⟩, ⟨f4, h8⟩, ⟨f7, n8⟩, ⟨d2, k4⟩, ⟨f5, m9⟩, ⟨f6, n7⟩, ⟨f8, h9⟩, ⟨g0, i5⟩, ⟨g1, o0⟩, ⟨g2, o1⟩, ⟨g3, o2⟩, ⟨a4, a9⟩, ⟨q6, q7⟩, ⟨b8, j7⟩, ⟨g4, o3⟩, ⟨g5, o4⟩, ⟨g6, o6⟩, ⟨q4, g8, o8⟩, ⟨g7, o7⟩, ⟨g9, h3⟩, ⟨l8, q5, r2, q8, q9, r9, u6, s6⟩, -⟩ hHR; obtain rfl : hb = [] := hHR; refine Zg (D := [(73, vs 0), (74, vs 1), (75, vs 2), (76, vs 3), (77, vs 4), (78, vs 5), (79, vs 6), (80, vs 7), (81, vs 8), (82, vs 9), (83, vs 10), (84, vs 11), (85, vs 12), (86, vs 13), (87, vs 14), (88, vs 15), (89, vs 16), (90, vs 17), (91, vs 18), (92, vs 19), (93, vs 20), (94, vs 21), (95, vs 22), (96, vs 23), (97, vs 24), (98, vs 25), (99, vs 26), (100, vs 27), (101, vs 28), (102, vs 29), (103, vs 30), (104, vs 31), (105, vs 32), (106, vs 33), (107, vs 34), (108, vs 35), (109, vs 36), (110, vs 37), (111, vs 38), (112, vs 39), (113, vs 40), (114, vs 41)]) rfl ?_; refine Ym (H := _ ++ (_ ++ (es 0 ++ (es 1 ++ (es 2 ++ (es 3 ++ (es 4 ++ (es 5 ++ (es 6 ++ (es 7 ++ (es 8 ++ (es 9 ++ (es 10 ++ (es 11 ++ (es 12 ++ (es 13 ++ (es 14 ++ (es 15 ++ (es 16 ++ (es 17 ++ (es 18 ++ (es 19 ++ (es 20 ++ (es 21 ++ (es 22 ++ (es 23 ++ (es 24 ++ (es 25 ++ (es 26 ++ (es 27 ++ (es 28 ++ (es 29 ++ (es 30 ++ (es 31 ++ (es 32 ++ (es 33 ++ (es 34 ++ (es 35 ++ (es 36 ++ (es 37 ++ (es 39 ++ (es 40 ++ (es 41 ++ ([])))))))))))))))))))))))))))))))))))))))))))) rfl ?_; rw [j1, k6, l4, i7, c0, h1, j2, l5, p2, p3, i8, i9, j6, k2, b6, k3, m5, m6, a7, i4, m8, m7, h8, n8, k4, m9, n7, h9, i5, o0, o1, o2, a9, q7, j7, o3, o4, o6, o7, h3, q9]; rw [e1, e0, e6, e3, b3, c4, d9, e7, i6, c6, d0, d1, d8, e5, a6, e8, e9, f0, a2, f9, f3, f2, f4, f7, d2, f5, f6, f8, g0, g1, g2, g3, a4, q6, b8, g4, g5, g6, g8, g7, g9, q8]; clear q8 g9 g7 g8 g6 g5 g4 b8 q6 a4 g3 g2 g1 g0 f8 f6 f5 d2 f7 f4 f2 f3 f9 a2 f0 e9 e8 a6 e5 d8 d1 d0 c6 i6 e7 d9 c4 b3 e3 e6 e0 e1 j1 k6 l4 i7 c0 h1 j2 l5 p2 p3 i8 i9 j6 k2 b6 k3 m5 m6 a7 i4 m8 m7 h8 n8 k4 m9 n7 h9 i5 o0 o1 o2 a9 q7 j7 o3 o4 o6 o8 o7 h3 q9; refine Xi Wk Zc (fun wc hwc => Wn (lines0 := (([((a3.getD (0 : Int).toNat ([] : Str)) ++ ([48] : Str))]) ++ (a3.drop (1 : Int).toNat))) (c1 := r3) wc (hwc.rs (f := Zn) (s := 1) (xs := (([((a3.getD (0 : Int).toNat ([] : Str)) ++ ([48] : Str))]) ++ (a3.drop (1 : Int).toNat))) (j := r2) (fun _ => rfl) mm7 (Wy rfl (Wz a8)) r9 s6) (hwc.rs (f := Zt) (s := 3) (xs := r3.Arcs) (j := j8) (fun _ => rfl) Xv p9 d4 d5) (hwc.hb (cs := [iV r3.N, iV r3.S, iV r3.T, sV b7 n6 c7]) Xt) (hG.mono hwc) F9) ?_; rintro _ _ ⟨rfl, rfl⟩; refine Zd Za ?_; refine Zw (t := 116) (b' := false) rfl (Bool.eq_false_iff.2 D2) ?_; refine Zi Za ?_; refine Zi Za ?_; refine Zi Za ?_; refine Zi Za ?_; refine Yf Zc ?_; refine Yf Zc ?_; refine Zb ?_; exact Yz false H (aF rfl) (Zj Wu (Zj Wu (Zj Kw Zk)))
    ·
     rintro y6 H; unfold Ke at H; rcases Zv H with ⟨D3, H⟩ | ⟨D3, H⟩
     · refine Xw rfl D3 ?_; refine sR Y1 rfl ?_; refine aN Za ?_; refine T.ret ?_; refine Ya ?_; obtain rfl := ret1 H; exact Ye Za (Res.tmp rfl) Zk ⟨rfl, rfl⟩
     ·
      refine Wo rfl (Bool.eq_false_iff.2 D3) ?_; refine T.skip ?_; refine Yh ?_; refine Zo ?_; refine Zo ?_; refine Vc (fun (D4 : Unit) => Z1f marks2 at3 r3 t1 = some r0) (fun (D4 : Unit) => [(2, .slice m2 m4 m3), (3, .int .u8 at3), (4, pV b1), (9, sV r5 K2 K3), (125, .bool (decide (0 < (t1.length : Int))))]) (fun (D4 : Unit) => [(eC b1 #[iV r3.N, iV r3.S, iV r3.T, sV b7 n6 c7] 24), (eA b7 Zt r3.Arcs j8 58), (eI r5 t1 A5 2)]) ?_ ?_
      · refine rG Y3 rfl ?_; refine Zd Za ?_; refine Yq (xs := t1) v3 Zc Xm ?_; refine Zx Zs ?_; refine Zb ?_; exact Yz () H (aF rfl) (Zj Zm (Zj Zm (Zj Zm Zk)))
      ·
       rintro D4 H; unfold Z1f at H; refine Vc (fun (D5 : Unit) => Z00 marks2 at3 r3 = some r0) (fun (D5 : Unit) => [(2, .slice m2 m4 m3), (3, .int .u8 at3), (4, pV b1)]) (fun (D5 : Unit) => [(eC b1 #[iV r3.N, iV r3.S, iV r3.T, sV b7 n6 c7] 24), (eA b7 Zt r3.Arcs j8 58)]) ?_ ?_
       ·
        rcases Zv H with ⟨D6, H⟩ | ⟨D6, H⟩
        ·
         refine Xf rfl D6 ?_; obtain ⟨G1, I1, H⟩ := Uh H; refine sR Y6 rfl ?_; refine Zd Za ?_; refine Z61 Za Z5o Z4v (Ll G1.1 G1.2) ?_; refine Zd Za ?_; refine Yq (xs := t1) v3 Zc Xm ?_; refine TO.rem Zc I1 ?_; refine aN Za ?_; obtain ⟨I2, H⟩ := Yj H; refine sR Y4 rfl ?_; refine Nn Zz Xm Wa ?_; intro I3; refine Zd Za ?_; refine Vs (f := iC) (s := 1) (xs := ([] : List Int)) (ob := some I3) (j := ([])) (ys := t1) (fun _ => rfl) (fun _ => rfl) Zao I2 Zc Zm rfl (Nat.le_refl _) (Wh 0 _) Xd (fun wc hwc => (rsI hwc mm3 v3 F0 F1)) ?_; intro K7 N7 N8 y7 K8 y8; refine aN Za ?_; refine Zr (aT [2, 3, 4, 17, 18] rfl) ?_; obtain ⟨G2, I4, G3, H⟩ := gd3 H; refine sR Y11 rfl ?_; refine Zd Za ?_; refine Zd Za ?_; refine Yb Za Ue ?_; refine Zy Za Ul Xh rfl ?_; refine Zd Za ?_; refine Vz d5 d4 p9 G2 Zc Wj Vm ?_; refine TO.faR Za Ko ?_; refine TO.ldFV (f := Zt) (v := iV ((r3.Arcs.getD (at3.tmod (t1.length : Int)).toNat default).cap)) default (fun _ => rfl) d5 d4 p9 G2 Zc Ww Xa ?_; refine Wi I4 Zc ?_; refine Vz y8 y7 (Ws v3) G3 Zc Xm Wa ?_; refine TO.stIV y8 y7 (Ws v3) G3 Za Zm Wa ?_; refine dN ?_; refine Zr (aT [2, 3, 4, 18] rfl) ?_; refine Zo ?_; obtain ⟨⟨N9, O0⟩, I5, H⟩ := Zu H; refine rG Y8 rfl ?_; refine Xc Za Yx Xh rfl ?_; refine Zd Za ?_; refine Yc Z46 Za (fun wc hwc => Z3e (n0 := r3) (f1 := (t1.set (at3.tmod (t1.length : Int)).toNat (((r3.Arcs.getD (at3.tmod (t1.length : Int)).toNat default).cap) + 1))) wc (hwc.rs (f := Zt) (s := 3) (xs := r3.Arcs) (j := j8) (fun _ => rfl) Xa p9 d4 d5) (rsI hwc Zq (List.length_set.trans (Ws v3)) y7 y8) (hG.mono hwc) I5) ?_; rintro _ _ ⟨K9, O1, c188, O2, rfl, rfl, L0, L1, L2, L3⟩; refine Zd Za ?_; refine TO.extract Zc ?_; refine TO.extract Zc ?_; refine Yi Za ?_; refine aN Za ?_; refine Zr (aT [2, 3, 4, 20] rfl) ?_; refine sR Y2 rfl ?_; refine Zd Za ?_; refine Zx Zs ?_; refine dN ?_; rcases Zv H with ⟨D7, H⟩ | ⟨D7, H⟩
         · refine Xf rfl D7 ?_; refine sR Y1 rfl ?_; refine aN Za ?_; refine T.ret ?_; refine Ya ?_; obtain rfl := ret1 H; exact Ye Za (Res.tmp rfl) Zk ⟨rfl, rfl⟩
         · refine Xe rfl D7 ?_; refine T.skip ?_; exact Yz () H (aF rfl) (Zj Ve (Zj Ve Zk))
        · refine Xe rfl D6 ?_; refine T.skip ?_; exact Yz () H (aF rfl) (Zj Zm (Zj Zm Zk))
       ·
        rintro D5 H; unfold Z00 at H; obtain ⟨I6, H⟩ := Yj H; refine sR Y4 rfl ?_; refine Yb Za Ka ?_; refine Zy Za Yy Zq rfl ?_; refine TO.mkB I6 Zc Kg Uz Z1b Z6p rfl ?_; intro l9; refine aN Za ?_; refine sR Y3 rfl ?_; refine Zd Za ?_; refine Zd Za ?_; refine TO.copyO (f := boolC) (s := 1) (xs := (List.replicate r3.N.toNat (false : Bool))) (ob := some l9) (j := ([])) (ys := marks2) (fun _ => rfl) (fun _ => rfl) List.length_replicate (Nat.le_refl _) Xd Zc Kg Uz Zm (fun wc hwc => (y4.mono hwc)) ?_; refine dS ?_; obtain ⟨⟨j9, O3⟩, I7, H⟩ := Zu H; refine rG Y8 rfl ?_; refine Xc Za Yx Xh rfl ?_; refine Zd Za ?_; refine Yc Z8u Za (fun wc hwc => Z7e (n0 := r3) (s1 := (Wc (List.replicate r3.N.toNat (false : Bool)) marks2)) wc (hwc.rs (f := Zt) (s := 3) (xs := r3.Arcs) (j := j8) (fun _ => rfl) Xa p9 d4 d5) (rsB hwc Zq (Z9m List.length_replicate) (Nat.le_refl _) Xd) (hG.mono hwc) I7) ?_; rintro _ _ ⟨h0, O4, O5, m0, rfl, rfl, B7, G4, L4, G5⟩; refine Zd Za ?_; refine TO.extract Zc ?_; refine TO.extract Zc ?_; refine Yi Za ?_; refine aN Za ?_; refine Zr (aT [3, 4, 22, 11] rfl) ?_; refine Zo ?_; refine sR Y2 rfl ?_; refine Zd Za ?_; refine Zx Zs ?_; refine dN ?_; rcases Zv H with ⟨D8, H⟩ | ⟨D8, H⟩
        · refine Xf rfl D8 ?_; refine sR Y1 rfl ?_; refine aN Za ?_; refine T.ret ?_; refine Ya ?_; obtain rfl := ret1 H; exact Ye Za (Res.tmp rfl) Zk ⟨rfl, rfl⟩
        ·
         refine Xe rfl D8 ?_; refine T.skip ?_; refine Yh ?_; refine Zo ?_; refine Zo ?_; obtain ⟨I8, I9, H⟩ := Zu H; obtain ⟨a5, J0, H⟩ := Zu H; refine rG Y5 rfl ?_; refine Zd Za ?_; refine Z1x (xs := j9) Za Wm Je Ky (fun wc hwc => (hwc.rs (f := (intC .u8)) (s := 1) (xs := j9) (j := m0) (fun _ => rfl) Zq B7 G4 G5)) ?_; refine Yc Z85 Za (fun wc hwc => Z8j (s0 := (bu j9)) (s1 := ([10] : Str)) wc  I9) ?_; rintro _ _ ⟨rfl, rfl⟩; refine Yc Z8m Za (fun wc hwc => Z81 (s0 := I8) (sep1 := ([10] : Str)) wc (hG.mono hwc) J0) ?_; rintro _ _ ⟨m1, O6, O7, q2, rfl, rfl, k0, p4, L5, q1⟩; refine aN Za ?_; refine sR Y3 rfl ?_; refine Zd Za ?_; refine Yq (xs := j9) B7 Zc Wm ?_; refine Zx Zs ?_; refine dN ?_; refine Zr (aT [3, 4, 23, 172] rfl) ?_; refine Vc (fun (D9 : Unit) => Rz = some r0) (fun (D9 : Unit) => []) (fun (D9 : Unit) => []) ?_ ?_
         ·
          rcases Zv H with ⟨E0, H⟩ | ⟨E0, H⟩
          ·
           refine Xf rfl E0 ?_; obtain ⟨G6, J1, H⟩ := Uh H; refine sR Y6 rfl ?_; refine Zd Za ?_; refine Z61 Za Z5o Z4v (Ll G6.1 G6.2) ?_; refine Zd Za ?_; refine Yq (xs := a5) k0 Zc Yl ?_; refine TO.rem Zc J1 ?_; refine aN Za ?_; refine Zo ?_; obtain ⟨J2, B3, J3, G7, H⟩ := gd4 H; obtain ⟨J4, H⟩ := Yj H; apply Kf [⟨[], false, [], fun _ v e => ∃ (w2 : Nat), v = nV w2 0 0 ∧ e = [(eA (some w2) Zn ([] : List Str) ([]) 9)]⟩, rV [] _, rV [] _, rV [2] _, rV [1, 3] _, ⟨[0, 4], false, [0], fun _ v e => ∃ (s7 : Option Nat) (w3 : Nat) (y2 : List Value), v = sV s7 (0 + ((at3.tmod (a5.length : Int)) + 1).toNat) w3 ∧ e = [(eA s7 Zn (a5.take ((at3.tmod (a5.length : Int)) + 1).toNat) y2 9)] ∧ (0 + ((at3.tmod (a5.length : Int)) + 1).toNat) ≤ w3 ∧ y2.length = (w3 - (0 + ((at3.tmod (a5.length : Int)) + 1).toNat)) * 1 ∧ (s7 = none → w3 = 0)⟩, rV [] _, rV [] _, rV [6, 7] _] [178, 179, 180, 181, 182, 183, 184, 185, 186] 9 (Uy [[]]) [[]] [] [(eA m1 Zn a5 q2 9), (eA h0 (intC .u8) j9 m0 5), (eA (some l9) boolC (Wc (List.replicate r3.N.toNat (false : Bool)) marks2) ([]) 4), (eC b1 #[iV r3.N, iV r3.S, iV r3.T, sV b7 n6 c7] 24), (eA b7 Zt r3.Arcs j8 58)]
           · exact We
           · exact rfl
           · kernel_rfl
           · kernel_rfl
           · kernel_rfl
           · exact rfl
           · exact rfl
           · exact rfl
           · exact rfl
           · exact Yk (by repeat constructor)
           ·
            refine ⟨?_, ?_, ?_, ?_, ?_, ?_, ?_, ?_, ?_, trivial⟩
            · rintro vs es Es Hx -; refine Zg (D := []) rfl ?_; refine Nn Zz Yl Yo ?_; intro w2; refine Zb ?_; exact Zh rfl ⟨w2, rfl, rfl⟩ (Yk (by repeat constructor)) rfl
            · rintro vs es Es Hx -; refine Zg (D := []) rfl ?_; refine Zd Za ?_; refine Zb ?_; exact Zh rfl ⟨rfl, rfl⟩ (Ze _) rfl
            · rintro vs es Es Hx -; refine Zg (D := []) rfl ?_; refine Zd Za ?_; refine Zb ?_; exact Zh rfl ⟨rfl, rfl⟩ (Ze _) rfl
            · rintro vs es Es Hx ⟨⟨e6, l4⟩, -⟩; refine Zg (D := [(180, vs 2)]) rfl ?_; rw [e6]; refine Wi J2 Zc ?_; refine Zb ?_; exact Zh rfl ⟨rfl, rfl⟩ (Ze _) (by show [(180, vs 2)] = _; rw [e6])
            · rintro vs es Es Hx ⟨⟨e0, k6⟩, ⟨e3, i7⟩, -⟩; refine Zg (D := [(179, vs 1), (181, vs 3)]) rfl ?_; rw [e0, e3]; refine Z0f (xs := a5) k0 p4 B3 Zc Yl Yo ?_; refine Zb ?_; exact Zh rfl ⟨rfl, rfl⟩ (Ze _) (by show [(179, vs 1), (181, vs 3)] = _; rw [e0, e3])
            · rintro vs es Es Hx ⟨⟨w2, e1, j1⟩, ⟨b3, c0⟩, -⟩; refine Zg (D := [(178, vs 0), (182, vs 4)]) rfl ?_; rw [e1, b3]; refine Ym (H := _ ++ ((es 0 ++ (es 4 ++ ([]))) ++ _)) rfl ?_; rw [j1, c0]; refine Vs (f := Zn) (s := 1) (xs := ([] : List Str)) (ob := some w2) (j := ([])) (ys := (a5.take ((at3.tmod (a5.length : Int)) + 1).toNat)) (fun _ => rfl) (fun _ => rfl) Us J3 Zc Wu rfl (Nat.le_refl _) (Wh 0 _) Xd (fun wc hwc => (RS.take (hwc.rs (f := Zn) (s := 1) (xs := a5) (j := q2) (fun _ => rfl) Zq k0 p4 q1) B3)) ?_; intro s7 w3 y2 y9 z0 z1; refine Zb ?_; exact Zh rfl ⟨s7, w3, y2, rfl, rfl, y9, z0, z1⟩ (by show Pick (_ ++ (_ ++ ((es 4 ++ ([])) ++ _))) _; rw [c0]; exact Yk (by repeat constructor)) (by show [(178, vs 0), (182, vs 4)] = _; rw [e1, b3])
            · rintro vs es Es Hx -; refine Zg (D := []) rfl ?_; refine Zd Za ?_; refine Zb ?_; exact Zh rfl ⟨rfl, rfl⟩ (Ze _) rfl
            · rintro vs es Es Hx -; refine Zg (D := []) rfl ?_; refine Zd Za ?_; refine Zb ?_; exact Zh rfl ⟨rfl, rfl⟩ (Ze _) rfl
            · rintro vs es Es Hx ⟨⟨d9, j2⟩, ⟨e7, l5⟩, -⟩; refine Zg (D := [(184, vs 6), (185, vs 7)]) rfl ?_; rw [d9, e7]; refine Ji (xs := a5) k0 G7 Zc Yl Yo ?_; refine Zb ?_; exact Zh rfl ⟨rfl, rfl⟩ (Ze _) (by show [(184, vs 6), (185, vs 7)] = _; rw [d9, e7])
           ·
            rintro vs es hb ⟨⟨w2, e1, j1⟩, ⟨e0, k6⟩, ⟨e6, l4⟩, ⟨e3, i7⟩, ⟨b3, c0⟩, ⟨s7, w3, y2, c4, h1, y9, z0, z1⟩, ⟨d9, j2⟩, ⟨e7, l5⟩, ⟨i6, p2⟩, -⟩ hHR; obtain rfl : hb = [] := hHR; refine Zg (D := [(178, vs 0), (179, vs 1), (180, vs 2), (181, vs 3), (182, vs 4), (183, vs 5), (184, vs 6), (185, vs 7), (186, vs 8)]) rfl ?_; refine Ym (H := _ ++ (_ ++ (es 1 ++ (es 2 ++ (es 3 ++ (es 4 ++ (es 5 ++ (es 6 ++ (es 7 ++ (es 8 ++ ([]))))))))))) rfl ?_; rw [k6, l4, i7, c0, h1, j2, l5, p2]; rw [e1, e0, e6, e3, b3, c4, d9, e7, i6]; clear i6 e7 d9 c4 b3 e3 e6 e0 e1 j1 k6 l4 i7 c0 h1 j2 l5 p2; refine Vs (f := Zn) (s := 1) (xs := (a5.take ((at3.tmod (a5.length : Int)) + 1).toNat)) (ob := s7) (j := y2) (ys := (a5.drop (at3.tmod (a5.length : Int)).toNat)) (fun _ => rfl) (fun _ => rfl) Us J4 Zc Wu (Ws (Ug B3)) y9 z0 z1 (fun wc hwc => (RS.drop (hwc.rs (f := Zn) (s := 1) (xs := a5) (j := q2) (fun _ => rfl) Zq k0 p4 q1) G7)) ?_; intro h2 O8 o9 G8 L6 G9; refine aN Za ?_; refine Zr (aT [4, 23, 24, 25] rfl) ?_; refine Zo ?_; refine Zo ?_; obtain ⟨k5, J5, H⟩ := Zu H; obtain ⟨⟨p0, z3⟩, J6, H⟩ := Zu H; apply Kf [rV [] _, rV [] _, rV [1] _, ⟨[2], false, [], fun _ v e => ∃ (k1 u7 w4 : Nat) (j0 : List Value) (e2 : Nat × Nat), v = nV k1 u7 w4 ∧ e = [(some k1, .cells (arr (intC .u8) (ub k5) j0).toArray 5 e2)] ∧ (ub k5).length = u7 ∧ u7 ≤ w4 ∧ j0.length = (w4 - u7) * 1⟩, ⟨[0, 3], false, [], fun _ v e => ∃ (b5 : Option Nat) (p5 p6 : Nat) (h6 : List Value), v = .tuple #[sV b5 p5 p6, iV z3] ∧ e = [(eA b5 boolC p0 h6 4)] ∧ p0.length = p5 ∧ p5 ≤ p6 ∧ h6.length = (p6 - p5) * 1 ∧ (b5 = none → p6 = 0)⟩, ⟨[4], false, [], fun vl v e => v = (vl.getD 0 undef) ∧ e = []⟩, ⟨[4, 5], false, [], fun vl v e => v = (Kp (vl.getD 1 undef) 0) ∧ e = []⟩, rV [4, 5] _, ⟨[4, 5, 6], false, [], fun vl v e => v = (vl.getD 2 undef) ∧ e = []⟩] [189, 190, 191, 192, 193, 188, 194, 195, 26] 9 (Uy [[]]) [[]] [] [(eA h2 Zn ((a5.take ((at3.tmod (a5.length : Int)) + 1).toNat) ++ (a5.drop (at3.tmod (a5.length : Int)).toNat)) o9 9), (eA m1 Zn a5 q2 9), (eA h0 (intC .u8) j9 m0 5), (eA (some l9) boolC (Wc (List.replicate r3.N.toNat (false : Bool)) marks2) ([]) 4), (eC b1 #[iV r3.N, iV r3.S, iV r3.T, sV b7 n6 c7] 24), (eA b7 Zt r3.Arcs j8 58)]
            · exact We
            · exact rfl
            · kernel_rfl
            · kernel_rfl
            · kernel_rfl
            · exact rfl
            · exact rfl
            · exact rfl
            · exact rfl
            · exact Yk (by repeat constructor)
            ·
             refine ⟨?_, ?_, ?_, ?_, ?_, ?_, ?_, ?_, ?_, trivial⟩
             · rintro vs es Es Hx -; refine Zg (D := []) rfl ?_; refine Xc Za Yx Vx rfl ?_; refine Zb ?_; exact Zh rfl ⟨rfl, rfl⟩ (Ze _) rfl
             · rintro vs es Es Hx -; refine Zg (D := []) rfl ?_; refine Zd Za ?_; refine Zb ?_; exact Zh rfl ⟨rfl, rfl⟩ (Ze _) rfl
             · rintro vs es Es Hx ⟨⟨e0, k6⟩, -⟩; refine Zg (D := [(190, vs 1)]) rfl ?_; rw [e0]; refine Yc Z4s Za (fun wc hwc => Z67 (x0 := ((a5.take ((at3.tmod (a5.length : Int)) + 1).toNat) ++ (a5.drop (at3.tmod (a5.length : Int)).toNat))) (s1 := ([10] : Str)) wc (hwc.rs (f := Zn) (s := 1) (xs := ((a5.take ((at3.tmod (a5.length : Int)) + 1).toNat) ++ (a5.drop (at3.tmod (a5.length : Int)).toNat))) (j := o9) (fun _ => rfl) Zq (Wy (Ws (Ug B3)) (Wz k0)) G8 G9) J5) ?_; rintro _ _ ⟨rfl, rfl⟩; refine Zb ?_; exact Zh rfl ⟨rfl, rfl⟩ (Ze _) (by show [(190, vs 1)] = _; rw [e0])
             · rintro vs es Es Hx ⟨⟨e6, l4⟩, -⟩; refine Zg (D := [(191, vs 2)]) rfl ?_; rw [e6]; refine Z6b (p := k5) Za Ky Wm Je ?_; intro k1 u7 w4 j0 e2 x1 x2 z6; refine Zb ?_; exact Zh rfl ⟨k1, u7, w4, j0, e2, rfl, rfl, x1, x2, z6⟩ (Yk (by repeat constructor)) (by show [(191, vs 2)] = _; rw [e6])
             · rintro vs es Es Hx ⟨⟨e1, j1⟩, ⟨k1, u7, w4, j0, e2, e3, i7, x1, x2, z6⟩, -⟩; refine Zg (D := [(189, vs 0), (192, vs 3)]) rfl ?_; rw [e1, e3]; refine Ym (H := _ ++ ((es 0 ++ (es 3 ++ ([]))) ++ _)) rfl ?_; rw [j1, i7]; refine Yc Z44 Za (fun wc hwc => Z49 (n0 := r3) (b1 := (ub k5)) wc (hwc.rs (f := Zt) (s := 3) (xs := r3.Arcs) (j := j8) (fun _ => rfl) Xt p9 d4 d5) (hwc.rs (f := (intC .u8)) (s := 1) (xs := (ub k5)) (j := j0) (fun _ => rfl) Xv x1 x2 Xd) (hG.mono hwc) J6) ?_; rintro _ _ ⟨b5, p5, p6, h6, rfl, rfl, t2, t3, t4, t5⟩; refine Zb ?_; exact Zh rfl ⟨b5, p5, p6, h6, rfl, rfl, t2, t3, t4, t5⟩ (by show Pick (_ ++ (_ ++ ((es 0 ++ (es 3 ++ ([]))) ++ _))) _; rw [j1, i7]; exact Yk (by repeat constructor)) (by show [(189, vs 0), (192, vs 3)] = _; rw [e1, e3])
             · rintro vs es Es Hx ⟨⟨b5, p5, p6, h6, b3, c0, t2, t3, t4, t5⟩, -⟩; refine Zg (D := [(193, vs 4)]) rfl ?_; rw [b3]; refine Ym (H := _ ++ ((es 4 ++ ([])) ++ _)) rfl ?_; rw [c0]; refine Zd Za ?_; refine Zb ?_; exact Zh rfl ⟨by show _ = vs 4; rw [b3] <;> rfl, rfl⟩ (by show Pick (_ ++ (_ ++ ((es 4 ++ ([])) ++ _))) _; rw [c0]; exact Yk (by repeat constructor)) (by show [(193, vs 4)] = _; rw [b3])
             ·
              rintro vs es Es Hx ⟨⟨b5, p5, p6, h6, b3, c0, t2, t3, t4, t5⟩, ⟨u9, h1⟩, -⟩; have c4 : vs 5 = .tuple #[sV b5 p5 p6, iV z3] := by refine Eq.trans u9 ?_; show vs 4 = _; rw [b3] <;> rfl
              refine Zg (D := [(193, vs 4), (188, vs 5)]) rfl ?_; rw [b3, c4]; refine Ym (H := _ ++ ((es 4 ++ (es 5 ++ ([]))) ++ _)) rfl ?_; rw [c0, h1]; refine TO.extract Zc ?_; refine Zb ?_; exact Zh rfl ⟨by show _ = (Kp (vs 5) 0); rw [c4] <;> rfl, rfl⟩ (by show Pick (_ ++ (_ ++ ((es 4 ++ (es 5 ++ ([]))) ++ _))) _; rw [c0, h1]; exact Yk (by repeat constructor)) (by show [(193, vs 4), (188, vs 5)] = _; rw [b3, c4])
             ·
              rintro vs es Es Hx ⟨⟨b5, p5, p6, h6, b3, c0, t2, t3, t4, t5⟩, ⟨u9, h1⟩, -⟩; have c4 : vs 5 = .tuple #[sV b5 p5 p6, iV z3] := by refine Eq.trans u9 ?_; show vs 4 = _; rw [b3] <;> rfl
              refine Zg (D := [(193, vs 4), (188, vs 5)]) rfl ?_; rw [b3, c4]; refine Ym (H := _ ++ ((es 4 ++ (es 5 ++ ([]))) ++ _)) rfl ?_; rw [c0, h1]; refine TO.extract Zc ?_; refine Zb ?_; exact Zh rfl ⟨rfl, rfl⟩ (by show Pick (_ ++ (_ ++ ((es 4 ++ (es 5 ++ ([]))) ++ _))) _; rw [c0, h1]; exact Yk (by repeat constructor)) (by show [(193, vs 4), (188, vs 5)] = _; rw [b3, c4])
             ·
              rintro vs es Es Hx ⟨⟨b5, p5, p6, h6, b3, c0, t2, t3, t4, t5⟩, ⟨u9, h1⟩, ⟨B4, j2⟩, -⟩; have c4 : vs 5 = .tuple #[sV b5 p5 p6, iV z3] := by refine Eq.trans u9 ?_; show vs 4 = _; rw [b3] <;> rfl
              have d9 : vs 6 = sV b5 p5 p6 := by refine Eq.trans B4 ?_; show (Kp (vs 5) 0) = _; rw [c4] <;> rfl
              refine Zg (D := [(193, vs 4), (188, vs 5), (194, vs 6)]) rfl ?_; rw [b3, c4, d9]; refine Ym (H := _ ++ ((es 4 ++ (es 5 ++ (es 6 ++ ([])))) ++ _)) rfl ?_; rw [c0, h1, j2]; refine Yi Za ?_; refine Zb ?_; exact Zh rfl ⟨by show _ = vs 6; rw [d9] <;> rfl, rfl⟩ (by show Pick (_ ++ (_ ++ ((es 4 ++ (es 5 ++ (es 6 ++ ([])))) ++ _))) _; rw [c0, h1, j2]; exact Yk (by repeat constructor)) (by show [(193, vs 4), (188, vs 5), (194, vs 6)] = _; rw [b3, c4, d9])
            ·
             rintro vs es hb ⟨⟨e1, j1⟩, ⟨e0, k6⟩, ⟨e6, l4⟩, ⟨k1, u7, w4, j0, e2, e3, i7, x1, x2, z6⟩, ⟨b5, p5, p6, h6, b3, c0, t2, t3, t4, t5⟩, ⟨u9, h1⟩, ⟨B4, j2⟩, ⟨e7, l5⟩, ⟨H0, p2⟩, -⟩ hHR; obtain rfl : hb = [] := hHR; have c4 : vs 5 = .tuple #[sV b5 p5 p6, iV z3] := by refine Eq.trans u9 ?_; show vs 4 = _; rw [b3] <;> rfl
             have d9 : vs 6 = sV b5 p5 p6 := by refine Eq.trans B4 ?_; show (Kp (vs 5) 0) = _; rw [c4] <;> rfl
             have i6 : vs 8 = sV b5 p5 p6 := by refine Eq.trans H0 ?_; show vs 6 = _; rw [d9] <;> rfl
             refine Zg (D := [(189, vs 0), (190, vs 1), (191, vs 2), (192, vs 3), (193, vs 4), (188, vs 5), (194, vs 6), (195, vs 7), (26, vs 8)]) rfl ?_; refine Ym (H := _ ++ (_ ++ (es 0 ++ (es 1 ++ (es 2 ++ (es 3 ++ (es 4 ++ (es 5 ++ (es 6 ++ (es 7 ++ (es 8 ++ ([])))))))))))) rfl ?_; rw [j1, k6, l4, i7, c0, h1, j2, l5, p2]; rw [e1, e0, e6, e3, b3, c4, d9, e7, i6]; clear i6 e7 d9 c4 b3 e3 e6 e0 e1 u9 B4 H0 j1 k6 l4 i7 c0 h1 j2 l5 p2; refine aN Za ?_; refine Zr (aT [4, 23, 24, 27] rfl) ?_; refine sR Y2 rfl ?_; refine Zd Za ?_; refine Zx Zs ?_; refine dN ?_; rcases Zv H with ⟨E1, H⟩ | ⟨E1, H⟩
             · refine Xf rfl E1 ?_; refine sR Y1 rfl ?_; refine aN Za ?_; refine T.ret ?_; refine Ya ?_; refine Ya ?_; obtain rfl := ret1 H; exact Ye Za (Res.tmp rfl) Zk ⟨rfl, rfl⟩
             ·
              refine Xe rfl E1 ?_; refine T.skip ?_; refine Yh ?_; refine sR Y2 rfl ?_; refine Zd Za ?_; refine Zx Zs ?_; refine dN ?_; rcases Zv H with ⟨E2, H⟩ | ⟨E2, H⟩
              ·
               refine Xf rfl E2 ?_; refine Zo ?_; obtain ⟨J7, J8, H1, H2, H⟩ := gd4 H; obtain ⟨H3, H4, H⟩ := Uh H; apply T.drawL3 [rV [] _, rV [] _, rV [] _, rV [] _, rV [3] _, rV [] _, rV [] _, rV [6] _, rV [5, 7] _, rV [5, 7, 8] _, rV [] _, rV [] _, rV [10, 11] _, rV [10, 11, 12] _, rV [0, 1] _, ⟨[0, 1, 9, 14], true, [], relN⟩] [200, 201, 202, 203, 204, 205, 206, 207, 208, 209, 210, 211, 212, 213, 214] 16 (Uy [[(eA m1 Zn a5 q2 9)], [(eA m1 Zn (a5.set (at3.tmod (a5.length : Int)).toNat (a5.getD ((at3.tmod (a5.length : Int)) - 1).toNat ([] : Str))) q2 9)]]) [[], []] [(9, 0, [(eA m1 Zn a5 q2 9)]), (13, 0, [(eA m1 Zn a5 q2 9)])] [(eA m1 Zn a5 q2 9)] [(eA h2 Zn ((a5.take ((at3.tmod (a5.length : Int)) + 1).toNat) ++ (a5.drop (at3.tmod (a5.length : Int)).toNat)) o9 9), (eA h0 (intC .u8) j9 m0 5), (eA (some l9) boolC (Wc (List.replicate r3.N.toNat (false : Bool)) marks2) ([]) 4), (eC b1 #[iV r3.N, iV r3.S, iV r3.T, sV b7 n6 c7] 24), (eA b7 Zt r3.Arcs j8 58), (some k1, .cells (arr (intC .u8) (ub k5) j0).toArray 5 e2), (eA b5 boolC p0 h6 4)]
               · exact We
               · exact rfl
               · kernel_rfl
               · kernel_rfl
               · kernel_rfl
               · exact rfl
               · exact rfl
               · exact rfl
               · exact rfl
               ·
                refine ⟨?_, ?_, trivial⟩
                ·
                 intro r hr vl hb h; rcases r with _ | r
                 · rw [show hb = _ from h]; exact rd1 Zm
                 · exact absurd (Nat.le_of_ble_eq_true hr) (by omega)
                ·
                 intro r hr vl hb h; rcases r with _ | r
                 · rw [show hb = _ from h]; exact rd1 Zm
                 · exact absurd (Nat.le_of_ble_eq_true hr) (by omega)
               · exact rfl
               · exact Yk (by repeat constructor)
               ·
                refine ⟨?_, ?_, ?_, ?_, ?_, ?_, ?_, ?_, ?_, ?_, ?_, ?_, ?_, ?_, ?_, ?_, trivial⟩
                · rintro vs es Es Hx -; refine Zg (D := []) rfl ?_; refine Ym (H := [(eA h2 Zn ((a5.take ((at3.tmod (a5.length : Int)) + 1).toNat) ++ (a5.drop (at3.tmod (a5.length : Int)).toNat)) o9 9), (eA h0 (intC .u8) j9 m0 5), (eA (some l9) boolC (Wc (List.replicate r3.N.toNat (false : Bool)) marks2) ([]) 4), (eC b1 #[iV r3.N, iV r3.S, iV r3.T, sV b7 n6 c7] 24), (eA b7 Zt r3.Arcs j8 58), (some k1, .cells (arr (intC .u8) (ub k5) j0).toArray 5 e2), (eA b5 boolC p0 h6 4)] ++ (_ ++ Hx)) rfl ?_; refine Zd Za ?_; refine Zb ?_; exact Zh rfl ⟨rfl, rfl⟩ (Ze _) rfl
                · rintro vs es Es Hx -; refine Zg (D := []) rfl ?_; refine Ym (H := [(eA h2 Zn ((a5.take ((at3.tmod (a5.length : Int)) + 1).toNat) ++ (a5.drop (at3.tmod (a5.length : Int)).toNat)) o9 9), (eA h0 (intC .u8) j9 m0 5), (eA (some l9) boolC (Wc (List.replicate r3.N.toNat (false : Bool)) marks2) ([]) 4), (eC b1 #[iV r3.N, iV r3.S, iV r3.T, sV b7 n6 c7] 24), (eA b7 Zt r3.Arcs j8 58), (some k1, .cells (arr (intC .u8) (ub k5) j0).toArray 5 e2), (eA b5 boolC p0 h6 4)] ++ (_ ++ Hx)) rfl ?_; refine Zd Za ?_; refine Zb ?_; exact Zh rfl ⟨rfl, rfl⟩ (Ze _) rfl
                · rintro vs es Es Hx -; refine Zg (D := []) rfl ?_; refine Ym (H := [(eA h2 Zn ((a5.take ((at3.tmod (a5.length : Int)) + 1).toNat) ++ (a5.drop (at3.tmod (a5.length : Int)).toNat)) o9 9), (eA h0 (intC .u8) j9 m0 5), (eA (some l9) boolC (Wc (List.replicate r3.N.toNat (false : Bool)) marks2) ([]) 4), (eC b1 #[iV r3.N, iV r3.S, iV r3.T, sV b7 n6 c7] 24), (eA b7 Zt r3.Arcs j8 58), (some k1, .cells (arr (intC .u8) (ub k5) j0).toArray 5 e2), (eA b5 boolC p0 h6 4)] ++ (_ ++ Hx)) rfl ?_; refine Zd Za ?_; refine Zb ?_; exact Zh rfl ⟨rfl, rfl⟩ (Ze _) rfl
                · rintro vs es Es Hx -; refine Zg (D := []) rfl ?_; refine Ym (H := [(eA h2 Zn ((a5.take ((at3.tmod (a5.length : Int)) + 1).toNat) ++ (a5.drop (at3.tmod (a5.length : Int)).toNat)) o9 9), (eA h0 (intC .u8) j9 m0 5), (eA (some l9) boolC (Wc (List.replicate r3.N.toNat (false : Bool)) marks2) ([]) 4), (eC b1 #[iV r3.N, iV r3.S, iV r3.T, sV b7 n6 c7] 24), (eA b7 Zt r3.Arcs j8 58), (some k1, .cells (arr (intC .u8) (ub k5) j0).toArray 5 e2), (eA b5 boolC p0 h6 4)] ++ (_ ++ Hx)) rfl ?_; refine Zd Za ?_; refine Zb ?_; exact Zh rfl ⟨rfl, rfl⟩ (Ze _) rfl
                · rintro vs es Es Hx ⟨⟨e3, i7⟩, -⟩; refine Zg (D := [(203, vs 3)]) rfl ?_; rw [e3]; refine Ym (H := [(eA h2 Zn ((a5.take ((at3.tmod (a5.length : Int)) + 1).toNat) ++ (a5.drop (at3.tmod (a5.length : Int)).toNat)) o9 9), (eA h0 (intC .u8) j9 m0 5), (eA (some l9) boolC (Wc (List.replicate r3.N.toNat (false : Bool)) marks2) ([]) 4), (eC b1 #[iV r3.N, iV r3.S, iV r3.T, sV b7 n6 c7] 24), (eA b7 Zt r3.Arcs j8 58), (some k1, .cells (arr (intC .u8) (ub k5) j0).toArray 5 e2), (eA b5 boolC p0 h6 4)] ++ (_ ++ Hx)) rfl ?_; refine Lg J7 Zc ?_; refine Zb ?_; exact Zh rfl ⟨rfl, rfl⟩ (Ze _) (by show [(203, vs 3)] = _; rw [e3])
                · rintro vs es Es Hx -; refine Zg (D := []) rfl ?_; refine Ym (H := [(eA h2 Zn ((a5.take ((at3.tmod (a5.length : Int)) + 1).toNat) ++ (a5.drop (at3.tmod (a5.length : Int)).toNat)) o9 9), (eA h0 (intC .u8) j9 m0 5), (eA (some l9) boolC (Wc (List.replicate r3.N.toNat (false : Bool)) marks2) ([]) 4), (eC b1 #[iV r3.N, iV r3.S, iV r3.T, sV b7 n6 c7] 24), (eA b7 Zt r3.Arcs j8 58), (some k1, .cells (arr (intC .u8) (ub k5) j0).toArray 5 e2), (eA b5 boolC p0 h6 4)] ++ (_ ++ Hx)) rfl ?_; refine Zd Za ?_; refine Zb ?_; exact Zh rfl ⟨rfl, rfl⟩ (Ze _) rfl
                · rintro vs es Es Hx -; refine Zg (D := []) rfl ?_; refine Ym (H := [(eA h2 Zn ((a5.take ((at3.tmod (a5.length : Int)) + 1).toNat) ++ (a5.drop (at3.tmod (a5.length : Int)).toNat)) o9 9), (eA h0 (intC .u8) j9 m0 5), (eA (some l9) boolC (Wc (List.replicate r3.N.toNat (false : Bool)) marks2) ([]) 4), (eC b1 #[iV r3.N, iV r3.S, iV r3.T, sV b7 n6 c7] 24), (eA b7 Zt r3.Arcs j8 58), (some k1, .cells (arr (intC .u8) (ub k5) j0).toArray 5 e2), (eA b5 boolC p0 h6 4)] ++ (_ ++ Hx)) rfl ?_; refine Zd Za ?_; refine Zb ?_; exact Zh rfl ⟨rfl, rfl⟩ (Ze _) rfl
                · rintro vs es Es Hx ⟨⟨d9, j2⟩, -⟩; refine Zg (D := [(206, vs 6)]) rfl ?_; rw [d9]; refine Ym (H := [(eA h2 Zn ((a5.take ((at3.tmod (a5.length : Int)) + 1).toNat) ++ (a5.drop (at3.tmod (a5.length : Int)).toNat)) o9 9), (eA h0 (intC .u8) j9 m0 5), (eA (some l9) boolC (Wc (List.replicate r3.N.toNat (false : Bool)) marks2) ([]) 4), (eC b1 #[iV r3.N, iV r3.S, iV r3.T, sV b7 n6 c7] 24), (eA b7 Zt r3.Arcs j8 58), (some k1, .cells (arr (intC .u8) (ub k5) j0).toArray 5 e2), (eA b5 boolC p0 h6 4)] ++ (_ ++ Hx)) rfl ?_; refine Lg J8 Zc ?_; refine Zb ?_; exact Zh rfl ⟨rfl, rfl⟩ (Ze _) (by show [(206, vs 6)] = _; rw [d9])
                · rintro vs es Es Hx ⟨⟨c4, h1⟩, ⟨e7, l5⟩, -⟩; refine Zg (D := [(205, vs 5), (207, vs 7)]) rfl ?_; rw [c4, e7]; refine Ym (H := [(eA h2 Zn ((a5.take ((at3.tmod (a5.length : Int)) + 1).toNat) ++ (a5.drop (at3.tmod (a5.length : Int)).toNat)) o9 9), (eA h0 (intC .u8) j9 m0 5), (eA (some l9) boolC (Wc (List.replicate r3.N.toNat (false : Bool)) marks2) ([]) 4), (eC b1 #[iV r3.N, iV r3.S, iV r3.T, sV b7 n6 c7] 24), (eA b7 Zt r3.Arcs j8 58), (some k1, .cells (arr (intC .u8) (ub k5) j0).toArray 5 e2), (eA b5 boolC p0 h6 4)] ++ (_ ++ Hx)) rfl ?_; refine Vz q1 p4 k0 H1 Zc Yl Yo ?_; refine Zb ?_; exact Zh rfl ⟨rfl, rfl⟩ (Ze _) (by show [(205, vs 5), (207, vs 7)] = _; rw [c4, e7])
                · rintro vs es Es Hx ⟨⟨c4, h1⟩, ⟨e7, l5⟩, ⟨i6, p2⟩, -⟩; refine Zg (D := [(205, vs 5), (207, vs 7), (208, vs 8)]) rfl ?_; rw [c4, e7, i6]; refine Ym (H := [(eA m1 Zn a5 q2 9), (eA h2 Zn ((a5.take ((at3.tmod (a5.length : Int)) + 1).toNat) ++ (a5.drop (at3.tmod (a5.length : Int)).toNat)) o9 9), (eA h0 (intC .u8) j9 m0 5), (eA (some l9) boolC (Wc (List.replicate r3.N.toNat (false : Bool)) marks2) ([]) 4), (eC b1 #[iV r3.N, iV r3.S, iV r3.T, sV b7 n6 c7] 24), (eA b7 Zt r3.Arcs j8 58), (some k1, .cells (arr (intC .u8) (ub k5) j0).toArray 5 e2), (eA b5 boolC p0 h6 4)] ++ (_ ++ Hx)) rfl ?_; refine Kl (f := Zn) (v := .string (bs (a5.getD ((at3.tmod (a5.length : Int)) - 1).toNat ([] : Str)))) ([] : Str) (fun _ => rfl) q1 p4 k0 H1 Zc Wg Zq ?_; refine Zb ?_; exact Zh rfl ⟨rfl, rfl⟩ (Ze _) (by show [(205, vs 5), (207, vs 7), (208, vs 8)] = _; rw [c4, e7, i6])
                · rintro vs es Es Hx -; refine Zg (D := []) rfl ?_; refine Ym (H := [(eA h2 Zn ((a5.take ((at3.tmod (a5.length : Int)) + 1).toNat) ++ (a5.drop (at3.tmod (a5.length : Int)).toNat)) o9 9), (eA h0 (intC .u8) j9 m0 5), (eA (some l9) boolC (Wc (List.replicate r3.N.toNat (false : Bool)) marks2) ([]) 4), (eC b1 #[iV r3.N, iV r3.S, iV r3.T, sV b7 n6 c7] 24), (eA b7 Zt r3.Arcs j8 58), (some k1, .cells (arr (intC .u8) (ub k5) j0).toArray 5 e2), (eA b5 boolC p0 h6 4)] ++ (_ ++ Hx)) rfl ?_; refine Zd Za ?_; refine Zb ?_; exact Zh rfl ⟨rfl, rfl⟩ (Ze _) rfl
                · rintro vs es Es Hx -; refine Zg (D := []) rfl ?_; refine Ym (H := [(eA h2 Zn ((a5.take ((at3.tmod (a5.length : Int)) + 1).toNat) ++ (a5.drop (at3.tmod (a5.length : Int)).toNat)) o9 9), (eA h0 (intC .u8) j9 m0 5), (eA (some l9) boolC (Wc (List.replicate r3.N.toNat (false : Bool)) marks2) ([]) 4), (eC b1 #[iV r3.N, iV r3.S, iV r3.T, sV b7 n6 c7] 24), (eA b7 Zt r3.Arcs j8 58), (some k1, .cells (arr (intC .u8) (ub k5) j0).toArray 5 e2), (eA b5 boolC p0 h6 4)] ++ (_ ++ Hx)) rfl ?_; refine Zd Za ?_; refine Zb ?_; exact Zh rfl ⟨rfl, rfl⟩ (Ze _) rfl
                · rintro vs es Es Hx ⟨⟨d0, i8⟩, ⟨d1, i9⟩, -⟩; refine Zg (D := [(210, vs 10), (211, vs 11)]) rfl ?_; rw [d0, d1]; refine Ym (H := [(eA h2 Zn ((a5.take ((at3.tmod (a5.length : Int)) + 1).toNat) ++ (a5.drop (at3.tmod (a5.length : Int)).toNat)) o9 9), (eA h0 (intC .u8) j9 m0 5), (eA (some l9) boolC (Wc (List.replicate r3.N.toNat (false : Bool)) marks2) ([]) 4), (eC b1 #[iV r3.N, iV r3.S, iV r3.T, sV b7 n6 c7] 24), (eA b7 Zt r3.Arcs j8 58), (some k1, .cells (arr (intC .u8) (ub k5) j0).toArray 5 e2), (eA b5 boolC p0 h6 4)] ++ (_ ++ Hx)) rfl ?_; refine Vz q1 p4 k0 H2 Zc Yl Yo ?_; refine Zb ?_; exact Zh rfl ⟨rfl, rfl⟩ (Ze _) (by show [(210, vs 10), (211, vs 11)] = _; rw [d0, d1])
                · rintro vs es Es Hx ⟨⟨d0, i8⟩, ⟨d1, i9⟩, ⟨d8, j6⟩, -⟩; refine Zg (D := [(210, vs 10), (211, vs 11), (212, vs 12)]) rfl ?_; rw [d0, d1, d8]; refine Ym (H := [(eA m1 Zn a5 q2 9), (eA h2 Zn ((a5.take ((at3.tmod (a5.length : Int)) + 1).toNat) ++ (a5.drop (at3.tmod (a5.length : Int)).toNat)) o9 9), (eA h0 (intC .u8) j9 m0 5), (eA (some l9) boolC (Wc (List.replicate r3.N.toNat (false : Bool)) marks2) ([]) 4), (eC b1 #[iV r3.N, iV r3.S, iV r3.T, sV b7 n6 c7] 24), (eA b7 Zt r3.Arcs j8 58), (some k1, .cells (arr (intC .u8) (ub k5) j0).toArray 5 e2), (eA b5 boolC p0 h6 4)] ++ (_ ++ Hx)) rfl ?_; refine Kl (f := Zn) (v := .string (bs (a5.getD (at3.tmod (a5.length : Int)).toNat ([] : Str)))) ([] : Str) (fun _ => rfl) q1 p4 k0 H2 Zc Wg Zq ?_; refine Zb ?_; exact Zh rfl ⟨rfl, rfl⟩ (Ze _) (by show [(210, vs 10), (211, vs 11), (212, vs 12)] = _; rw [d0, d1, d8])
                · rintro vs es Es Hx ⟨⟨e1, j1⟩, ⟨e0, k6⟩, -⟩; refine Zg (D := [(200, vs 0), (201, vs 1)]) rfl ?_; rw [e1, e0]; refine Ym (H := [(eA h2 Zn ((a5.take ((at3.tmod (a5.length : Int)) + 1).toNat) ++ (a5.drop (at3.tmod (a5.length : Int)).toNat)) o9 9), (eA h0 (intC .u8) j9 m0 5), (eA (some l9) boolC (Wc (List.replicate r3.N.toNat (false : Bool)) marks2) ([]) 4), (eC b1 #[iV r3.N, iV r3.S, iV r3.T, sV b7 n6 c7] 24), (eA b7 Zt r3.Arcs j8 58), (some k1, .cells (arr (intC .u8) (ub k5) j0).toArray 5 e2), (eA b5 boolC p0 h6 4)] ++ (_ ++ Hx)) rfl ?_; refine Vz q1 p4 k0 H3 Zc Yl Yo ?_; refine Zb ?_; exact Zh rfl ⟨rfl, rfl⟩ (Ze _) (by show [(200, vs 0), (201, vs 1)] = _; rw [e1, e0])
                · rintro vs es Es Hx hb ⟨⟨e1, j1⟩, ⟨e0, k6⟩, ⟨c6, p3⟩, ⟨a6, b6⟩, -⟩ hHR; obtain rfl : hb = [(eA m1 Zn a5 q2 9)] := hHR; refine Zg (D := [(200, vs 0), (201, vs 1), (209, vs 9), (214, vs 14)]) rfl ?_; rw [e1, e0, c6, a6]; refine Z73 (q := 0) (f := Zn) (u := (a5.getD ((at3.tmod (a5.length : Int)) - 1).toNat ([] : Str))) ([] : Str) (fun _ => rfl) rfl q1 p4 k0 H3 Zs Zm Yo ?_; refine Zb ?_; exact X.obE2 (hb' := [(eA m1 Zn (a5.set (at3.tmod (a5.length : Int)).toNat (a5.getD ((at3.tmod (a5.length : Int)) - 1).toNat ([] : Str))) q2 9)]) rfl rfl rfl (Yk (by repeat constructor)) (by show [(200, vs 0), (201, vs 1), (209, vs 9), (214, vs 14)] = _; rw [e1, e0, c6, a6])
               ·
                rintro vs es hb ⟨⟨e1, j1⟩, ⟨e0, k6⟩, ⟨e6, l4⟩, ⟨e3, i7⟩, ⟨b3, c0⟩, ⟨c4, h1⟩, ⟨d9, j2⟩, ⟨e7, l5⟩, ⟨i6, p2⟩, ⟨c6, p3⟩, ⟨d0, i8⟩, ⟨d1, i9⟩, ⟨d8, j6⟩, ⟨e5, k2⟩, ⟨a6, b6⟩, k3, -⟩ hHR; obtain rfl : hb = [(eA m1 Zn (a5.set (at3.tmod (a5.length : Int)).toNat (a5.getD ((at3.tmod (a5.length : Int)) - 1).toNat ([] : Str))) q2 9)] := hHR; refine Zg (D := [(200, vs 0), (201, vs 1), (202, vs 2), (203, vs 3), (204, vs 4), (205, vs 5), (206, vs 6), (207, vs 7), (208, vs 8), (209, vs 9), (210, vs 10), (211, vs 11), (212, vs 12), (213, vs 13), (214, vs 14)]) rfl ?_; refine Ym (H := _ ++ (_ ++ (es 0 ++ (es 1 ++ (es 2 ++ (es 3 ++ (es 4 ++ (es 5 ++ (es 6 ++ (es 7 ++ (es 8 ++ (es 9 ++ (es 10 ++ (es 11 ++ (es 12 ++ (es 13 ++ (es 14 ++ (es 15 ++ ([]))))))))))))))))))) rfl ?_; rw [j1, k6, l4, i7, c0, h1, j2, l5, p2, p3, i8, i9, j6, k2, b6, k3]; rw [e1, e0, e6, e3, b3, c4, d9, e7, i6, c6, d0, d1, d8, e5, a6]; clear a6 e5 d8 d1 d0 c6 i6 e7 d9 c4 b3 e3 e6 e0 e1 j1 k6 l4 i7 c0 h1 j2 l5 p2 p3 i8 i9 j6 k2 b6 k3; refine Vz q1 p4 (List.length_set.trans k0) H4 Zc Yl Yo ?_; refine Z73 (q := 0) (f := Zn) (u := (a5.getD (at3.tmod (a5.length : Int)).toNat ([] : Str))) ([] : Str) (fun _ => rfl) rfl q1 p4 (List.length_set.trans k0) H4 Zs Zm Yo ?_; refine dN ?_; refine Zr (aT [4, 23] rfl) ?_; refine Zo ?_; obtain ⟨z7, J9, H⟩ := Zu H; obtain ⟨⟨H5, z8⟩, K0, H⟩ := Zu H; apply Kf [rV [] _, rV [] _, rV [1] _, ⟨[2], false, [], fun _ v e => ∃ (y3 v0 w5 : Nat) (w6 : List Value) (v2 : Nat × Nat), v = nV y3 v0 w5 ∧ e = [(some y3, .cells (arr (intC .u8) (ub z7) w6).toArray 5 v2)] ∧ (ub z7).length = v0 ∧ v0 ≤ w5 ∧ w6.length = (w5 - v0) * 1⟩, ⟨[0, 3], false, [], fun _ v e => ∃ (h7 : Option Nat) (p7 p8 : Nat) (u2 : List Value), v = .tuple #[sV h7 p7 p8, iV z8] ∧ e = [(eA h7 boolC H5 u2 4)] ∧ H5.length = p7 ∧ p7 ≤ p8 ∧ u2.length = (p8 - p7) * 1 ∧ (h7 = none → p8 = 0)⟩, ⟨[4], false, [], fun vl v e => v = (vl.getD 0 undef) ∧ e = []⟩, ⟨[4, 5], false, [], fun vl v e => v = (Kp (vl.getD 1 undef) 0) ∧ e = []⟩, rV [4, 5] _, ⟨[4, 5, 6], false, [], fun vl v e => v = (vl.getD 2 undef) ∧ e = []⟩] [217, 218, 219, 220, 221, 216, 222, 223, 28] 9 (Uy [[]]) [[]] [] [(eA m1 Zn ((a5.set (at3.tmod (a5.length : Int)).toNat (a5.getD ((at3.tmod (a5.length : Int)) - 1).toNat ([] : Str))).set ((at3.tmod (a5.length : Int)) - 1).toNat (a5.getD (at3.tmod (a5.length : Int)).toNat ([] : Str))) q2 9), (eA h2 Zn ((a5.take ((at3.tmod (a5.length : Int)) + 1).toNat) ++ (a5.drop (at3.tmod (a5.length : Int)).toNat)) o9 9), (eA h0 (intC .u8) j9 m0 5), (eA (some l9) boolC (Wc (List.replicate r3.N.toNat (false : Bool)) marks2) ([]) 4), (eC b1 #[iV r3.N, iV r3.S, iV r3.T, sV b7 n6 c7] 24), (eA b7 Zt r3.Arcs j8 58), (some k1, .cells (arr (intC .u8) (ub k5) j0).toArray 5 e2), (eA b5 boolC p0 h6 4)]
                · exact We
                · exact rfl
                · kernel_rfl
                · kernel_rfl
                · kernel_rfl
                · exact rfl
                · exact rfl
                · exact rfl
                · exact rfl
                · exact Yk (by repeat constructor)
                ·
                 refine ⟨?_, ?_, ?_, ?_, ?_, ?_, ?_, ?_, ?_, trivial⟩
                 · rintro vs es Es Hx -; refine Zg (D := []) rfl ?_; refine Xc Za Yx Vx rfl ?_; refine Zb ?_; exact Zh rfl ⟨rfl, rfl⟩ (Ze _) rfl
                 · rintro vs es Es Hx -; refine Zg (D := []) rfl ?_; refine Zd Za ?_; refine Zb ?_; exact Zh rfl ⟨rfl, rfl⟩ (Ze _) rfl
                 · rintro vs es Es Hx ⟨⟨e0, k6⟩, -⟩; refine Zg (D := [(218, vs 1)]) rfl ?_; rw [e0]; refine Yc Z4s Za (fun wc hwc => Z67 (x0 := ((a5.set (at3.tmod (a5.length : Int)).toNat (a5.getD ((at3.tmod (a5.length : Int)) - 1).toNat ([] : Str))).set ((at3.tmod (a5.length : Int)) - 1).toNat (a5.getD (at3.tmod (a5.length : Int)).toNat ([] : Str)))) (s1 := ([10] : Str)) wc (hwc.rs (f := Zn) (s := 1) (xs := ((a5.set (at3.tmod (a5.length : Int)).toNat (a5.getD ((at3.tmod (a5.length : Int)) - 1).toNat ([] : Str))).set ((at3.tmod (a5.length : Int)) - 1).toNat (a5.getD (at3.tmod (a5.length : Int)).toNat ([] : Str)))) (j := q2) (fun _ => rfl) Zq (List.length_set.trans (List.length_set.trans k0)) p4 q1) J9) ?_; rintro _ _ ⟨rfl, rfl⟩; refine Zb ?_; exact Zh rfl ⟨rfl, rfl⟩ (Ze _) (by show [(218, vs 1)] = _; rw [e0])
                 · rintro vs es Es Hx ⟨⟨e6, l4⟩, -⟩; refine Zg (D := [(219, vs 2)]) rfl ?_; rw [e6]; refine Z6b (p := z7) Za Ky Wm Je ?_; intro y3 v0 w5 w6 v2 x3 x4 A0; refine Zb ?_; exact Zh rfl ⟨y3, v0, w5, w6, v2, rfl, rfl, x3, x4, A0⟩ (Yk (by repeat constructor)) (by show [(219, vs 2)] = _; rw [e6])
                 · rintro vs es Es Hx ⟨⟨e1, j1⟩, ⟨y3, v0, w5, w6, v2, e3, i7, x3, x4, A0⟩, -⟩; refine Zg (D := [(217, vs 0), (220, vs 3)]) rfl ?_; rw [e1, e3]; refine Ym (H := _ ++ ((es 0 ++ (es 3 ++ ([]))) ++ _)) rfl ?_; rw [j1, i7]; refine Yc Z44 Za (fun wc hwc => Z49 (n0 := r3) (b1 := (ub z7)) wc (hwc.rs (f := Zt) (s := 3) (xs := r3.Arcs) (j := j8) (fun _ => rfl) Xt p9 d4 d5) (hwc.rs (f := (intC .u8)) (s := 1) (xs := (ub z7)) (j := w6) (fun _ => rfl) mm8 x3 x4 Xd) (hG.mono hwc) K0) ?_; rintro _ _ ⟨h7, p7, p8, u2, rfl, rfl, t6, t7, t8, u0⟩; refine Zb ?_; exact Zh rfl ⟨h7, p7, p8, u2, rfl, rfl, t6, t7, t8, u0⟩ (by show Pick (_ ++ (_ ++ ((es 0 ++ (es 3 ++ ([]))) ++ _))) _; rw [j1, i7]; exact Yk (by repeat constructor)) (by show [(217, vs 0), (220, vs 3)] = _; rw [e1, e3])
                 · rintro vs es Es Hx ⟨⟨h7, p7, p8, u2, b3, c0, t6, t7, t8, u0⟩, -⟩; refine Zg (D := [(221, vs 4)]) rfl ?_; rw [b3]; refine Ym (H := _ ++ ((es 4 ++ ([])) ++ _)) rfl ?_; rw [c0]; refine Zd Za ?_; refine Zb ?_; exact Zh rfl ⟨by show _ = vs 4; rw [b3] <;> rfl, rfl⟩ (by show Pick (_ ++ (_ ++ ((es 4 ++ ([])) ++ _))) _; rw [c0]; exact Yk (by repeat constructor)) (by show [(221, vs 4)] = _; rw [b3])
                 ·
                  rintro vs es Es Hx ⟨⟨h7, p7, p8, u2, b3, c0, t6, t7, t8, u0⟩, ⟨u9, h1⟩, -⟩; have c4 : vs 5 = .tuple #[sV h7 p7 p8, iV z8] := by refine Eq.trans u9 ?_; show vs 4 = _; rw [b3] <;> rfl
                  refine Zg (D := [(221, vs 4), (216, vs 5)]) rfl ?_; rw [b3, c4]; refine Ym (H := _ ++ ((es 4 ++ (es 5 ++ ([]))) ++ _)) rfl ?_; rw [c0, h1]; refine TO.extract Zc ?_; refine Zb ?_; exact Zh rfl ⟨by show _ = (Kp (vs 5) 0); rw [c4] <;> rfl, rfl⟩ (by show Pick (_ ++ (_ ++ ((es 4 ++ (es 5 ++ ([]))) ++ _))) _; rw [c0, h1]; exact Yk (by repeat constructor)) (by show [(221, vs 4), (216, vs 5)] = _; rw [b3, c4])
                 ·
                  rintro vs es Es Hx ⟨⟨h7, p7, p8, u2, b3, c0, t6, t7, t8, u0⟩, ⟨u9, h1⟩, -⟩; have c4 : vs 5 = .tuple #[sV h7 p7 p8, iV z8] := by refine Eq.trans u9 ?_; show vs 4 = _; rw [b3] <;> rfl
                  refine Zg (D := [(221, vs 4), (216, vs 5)]) rfl ?_; rw [b3, c4]; refine Ym (H := _ ++ ((es 4 ++ (es 5 ++ ([]))) ++ _)) rfl ?_; rw [c0, h1]; refine TO.extract Zc ?_; refine Zb ?_; exact Zh rfl ⟨rfl, rfl⟩ (by show Pick (_ ++ (_ ++ ((es 4 ++ (es 5 ++ ([]))) ++ _))) _; rw [c0, h1]; exact Yk (by repeat constructor)) (by show [(221, vs 4), (216, vs 5)] = _; rw [b3, c4])
                 ·
                  rintro vs es Es Hx ⟨⟨h7, p7, p8, u2, b3, c0, t6, t7, t8, u0⟩, ⟨u9, h1⟩, ⟨B4, j2⟩, -⟩; have c4 : vs 5 = .tuple #[sV h7 p7 p8, iV z8] := by refine Eq.trans u9 ?_; show vs 4 = _; rw [b3] <;> rfl
                  have d9 : vs 6 = sV h7 p7 p8 := by refine Eq.trans B4 ?_; show (Kp (vs 5) 0) = _; rw [c4] <;> rfl
                  refine Zg (D := [(221, vs 4), (216, vs 5), (222, vs 6)]) rfl ?_; rw [b3, c4, d9]; refine Ym (H := _ ++ ((es 4 ++ (es 5 ++ (es 6 ++ ([])))) ++ _)) rfl ?_; rw [c0, h1, j2]; refine Yi Za ?_; refine Zb ?_; exact Zh rfl ⟨by show _ = vs 6; rw [d9] <;> rfl, rfl⟩ (by show Pick (_ ++ (_ ++ ((es 4 ++ (es 5 ++ (es 6 ++ ([])))) ++ _))) _; rw [c0, h1, j2]; exact Yk (by repeat constructor)) (by show [(221, vs 4), (216, vs 5), (222, vs 6)] = _; rw [b3, c4, d9])
                ·
                 rintro vs es hb ⟨⟨e1, j1⟩, ⟨e0, k6⟩, ⟨e6, l4⟩, ⟨y3, v0, w5, w6, v2, e3, i7, x3, x4, A0⟩, ⟨h7, p7, p8, u2, b3, c0, t6, t7, t8, u0⟩, ⟨u9, h1⟩, ⟨B4, j2⟩, ⟨e7, l5⟩, ⟨H0, p2⟩, -⟩ hHR; obtain rfl : hb = [] := hHR; have c4 : vs 5 = .tuple #[sV h7 p7 p8, iV z8] := by refine Eq.trans u9 ?_; show vs 4 = _; rw [b3] <;> rfl
                 have d9 : vs 6 = sV h7 p7 p8 := by refine Eq.trans B4 ?_; show (Kp (vs 5) 0) = _; rw [c4] <;> rfl
                 have i6 : vs 8 = sV h7 p7 p8 := by refine Eq.trans H0 ?_; show vs 6 = _; rw [d9] <;> rfl
                 refine Zg (D := [(217, vs 0), (218, vs 1), (219, vs 2), (220, vs 3), (221, vs 4), (216, vs 5), (222, vs 6), (223, vs 7), (28, vs 8)]) rfl ?_; refine Ym (H := _ ++ (_ ++ (es 0 ++ (es 1 ++ (es 2 ++ (es 3 ++ (es 4 ++ (es 5 ++ (es 6 ++ (es 7 ++ (es 8 ++ ([])))))))))))) rfl ?_; rw [j1, k6, l4, i7, c0, h1, j2, l5, p2]; rw [e1, e0, e6, e3, b3, c4, d9, e7, i6]; clear i6 e7 d9 c4 b3 e3 e6 e0 e1 u9 B4 H0 j1 k6 l4 i7 c0 h1 j2 l5 p2; refine aN Za ?_; refine Zr (aT [29] rfl) ?_; refine sR Y2 rfl ?_; refine Zd Za ?_; refine Zx Zs ?_; refine dN ?_; rcases Zv H with ⟨E3, H⟩ | ⟨E3, H⟩
                 · refine Xf rfl E3 ?_; refine sR Y1 rfl ?_; refine aN Za ?_; refine T.ret ?_; refine Ya ?_; obtain rfl := ret1 H; exact Ye Za (Res.tmp rfl) Zk ⟨rfl, rfl⟩
                 · refine Xe rfl E3 ?_; refine T.skip ?_; exact Yz () H Gb Zk
              · refine Xe rfl E2 ?_; refine T.skip ?_; exact Yz () H Gb Zk
          · refine Xe rfl E0 ?_; refine T.skip ?_; exact Yz () H Gb Zk
         · rintro D9 H; unfold Rz at H; refine Zo ?_; obtain ⟨O9, K1, H⟩ := Zu H; refine rG Y2 rfl ?_; refine Yc Ze1 Za (fun wc hwc => Zaz  wc (hG.mono hwc) K1) ?_; rintro _ _ ⟨rfl, rfl⟩; refine aN Za ?_; refine T.ret ?_; obtain rfl := ret1 H; exact Ye Za (Res.tmp rfl) Zk ⟨rfl, rfl⟩
end Go.Proofs.YtnppjbofdkokkaaGreatDoor.Ax
namespace Go.Acq
open Go
def Jh (a : Arc) (v : Nat) : Nat := if a.fr = a.to then 0 else if a.fr = v ∨ a.to = v then 1 else 0
def Vi (al : List Arc) (v : Nat) : Nat → Nat
  | 0 => 0
  | k + 1 => Vi al v k + Jh (al.getD k default) v
def Yv (al : List Arc) : Nat → Nat
  | 0 => 0
  | v + 1 => Yv al v + Vi al v al.length
def Xn (a : Arc) (s : Bool) : Int := if s then a.to else a.fr
def Zf (al : List Arc) (i : Nat) (s : Bool) : Nat := Yv al (Xn (al.getD i default) s).toNat + Vi al (Xn (al.getD i default) s).toNat i
def Jy (n : Nat) (al : List Arc) : Prop := ∀ i, i < al.length → ∀ s, 0 ≤ Xn (al.getD i default) s ∧ Xn (al.getD i default) s < n
theorem lset {α : Type} (xs : List α) (i j : Nat) (v d : α) : (xs.set i v).getD j d = if i = j ∧ i < xs.length then v else xs.getD j d := by
 rw [List.getD_eq_getElem?_getD, List.getD_eq_getElem?_getD, List.getElem?_set]
 split
 ·
  rename_i h; subst h
  split
  · rename_i h2; simp [h2]
  · rename_i h2; simp [h2]
 · rename_i h; simp [h]
theorem Nq {α : Type} {xs : List α} {i j : Nat} {v d : α} (h : i ≠ j) : (xs.set i v).getD j d = xs.getD j d := by
 rw [lset, if_neg (fun e => h e.1)]
theorem Z4l {α : Type} {xs : List α} {i : Nat} {v d : α} (h : i < xs.length) : (xs.set i v).getD i d = v := by
 rw [lset, if_pos ⟨rfl, h⟩]
theorem Z3t {α : Type} (n j : Nat) (v : α) : (List.replicate n v).getD j v = v := by
 rw [List.getD_eq_getElem?_getD, List.getElem?_replicate]; split <;> simp
theorem hit_le (a : Arc) (v : Nat) : Jh a v ≤ 1 := by unfold Jh; split; omega; split <;> omega
theorem cnt_mono {al : List Arc} {v i j : Nat} (h : i ≤ j) : Vi al v i ≤ Vi al v j := by
 induction h with
 | refl => exact Nat.le_refl _
 | step _ ih => exact Nat.le_trans ih (Nat.le_add_right _ _)
theorem Z6j {al : List Arc} {u v : Nat} (h : u ≤ v) : Yv al u ≤ Yv al v := by
 induction h with
 | refl => exact Nat.le_refl _
 | step _ ih => exact Nat.le_trans ih (Nat.le_add_right _ _)
theorem hit_vtx {a : Arc} {s : Bool} (h : a.fr ≠ a.to) (h0 : 0 ≤ Xn a s) : Jh a (Xn a s).toNat = 1 := by
 unfold Jh; rw [if_neg h, if_pos]
 cases s
 · left; simp only [Xn] at h0 ⊢; simp only [Bool.false_eq_true, if_false] at h0 ⊢; omega
 · right; simp only [Xn] at h0 ⊢; simp only [if_true] at h0 ⊢; omega
theorem Z11 {al : List Arc} {i j : Nat} {s : Bool} (hij : i < j) (h : (al.getD i default).fr ≠ (al.getD i default).to) (h0 : 0 ≤ Xn (al.getD i default) s) :
    Vi al (Xn (al.getD i default) s).toNat i < Vi al (Xn (al.getD i default) s).toNat j := by
  have h1 := cnt_mono (al := al) (v := (Xn (al.getD i default) s).toNat) (i := i + 1) (j := j) hij
  have h2 := hit_vtx h h0
  simp only [Vi] at h1
  omega
theorem pos_lt {al : List Arc} {n i : Nat} {s : Bool} (hi : i < al.length) (h : (al.getD i default).fr ≠ (al.getD i default).to) (he : Jy n al) : Zf al i s < Yv al n := by
 have h1 := Z11 (s := s) hi h (he i hi s).1
 have h2 := Z6j (al := al) (u := (Xn (al.getD i default) s).toNat + 1) (v := n) (by have := he i hi s; omega)
 simp only [Yv] at h2
 unfold Zf; omega
theorem Z63 {al : List Arc} {n i j : Nat} {s t : Bool} (he : Jy n al) (hi : i < al.length) (hj : j < al.length) (h : (al.getD i default).fr ≠ (al.getD i default).to) (g : (al.getD j default).fr ≠ (al.getD j default).to)
    (e : Zf al i s = Zf al j t) : i = j ∧ s = t := by
  have hi1 := Z11 (s := s) hi h (he i hi s).1
  have hj1 := Z11 (s := t) hj g (he j hj t).1
  have hv : (Xn (al.getD i default) s).toNat = (Xn (al.getD j default) t).toNat := by
    rcases Nat.lt_trichotomy (Xn (al.getD i default) s).toNat (Xn (al.getD j default) t).toNat with h1 | h1 | h1
    · have := Z6j (al := al) (u := (Xn (al.getD i default) s).toNat + 1) h1
      simp only [Yv] at this
      unfold Zf at e; omega
    · exact h1
    · have := Z6j (al := al) (u := (Xn (al.getD j default) t).toNat + 1) h1
      simp only [Yv] at this
      unfold Zf at e; omega
  have hij : i = j := by
    rcases Nat.lt_trichotomy i j with h1 | h1 | h1
    · have h2 := Z11 (s := s) h1 h (he i hi s).1
      unfold Zf at e; rw [hv] at e h2; omega
    · exact h1
    · have h2 := Z11 (s := t) h1 g (he j hj t).1
      unfold Zf at e; rw [hv] at e; omega
  refine ⟨hij, ?_⟩
  subst hij
  have h1 := (he i hi s).1
  have h2 := (he i hi t).1
  cases s <;> cases t <;> first | rfl | (simp only [Xn, Bool.false_eq_true, if_false, if_true] at hv h1 h2; omega)
theorem Z7f {al : List Arc} {v r : Nat} : ∀ {k : Nat}, r < Vi al v k → ∃ i, i < k ∧ Vi al v i = r ∧ Jh (al.getD i default) v = 1
 | 0, h => by simp [Vi] at h
 | k + 1, h => by
  by_cases h1 : r < Vi al v k
  · obtain ⟨i, h2, h3⟩ := Z7f h1; exact ⟨i, by omega, h3⟩
  ·
   have := hit_le (al.getD k default) v
   simp only [Vi] at h
   exact ⟨k, by omega, by omega, by omega⟩
theorem Z7h {al : List Arc} {p : Nat} : ∀ {n : Nat}, p < Yv al n → ∃ v, v < n ∧ Yv al v ≤ p ∧ p < Yv al (v + 1)
 | 0, h => by simp [Yv] at h
 | n + 1, h => by
  by_cases h1 : p < Yv al n
  · obtain ⟨v, h2, h3⟩ := Z7h h1; exact ⟨v, by omega, h3⟩
  · exact ⟨n, by omega, by omega, h⟩
theorem pos_surj {al : List Arc} {n p : Nat} (h : p < Yv al n) : ∃ i s, i < al.length ∧ (al.getD i default).fr ≠ (al.getD i default).to ∧ Zf al i s = p ∧ 0 ≤ Xn (al.getD i default) s ∧ Xn (al.getD i default) s < n ∧
    Yv al (Xn (al.getD i default) s).toNat ≤ p ∧ p < Yv al ((Xn (al.getD i default) s).toNat + 1) := by
  obtain ⟨v, hv, h1, h2⟩ := Z7h h
  simp only [Yv] at h2
  obtain ⟨i, hi, h3, h4⟩ := Z7f (al := al) (v := v) (r := p - Yv al v) (k := al.length) (by omega)
  unfold Jh at h4
  split at h4
  · omega
  · rename_i hne
    split at h4
    · rename_i ho
      rcases ho with ho | ho
      · refine ⟨i, false, hi, hne, ?_, ?_, ?_, ?_, ?_⟩ <;> simp only [Zf, Xn, Bool.false_eq_true, if_false, ho, Int.toNat_natCast, Yv] <;> omega
      · refine ⟨i, true, hi, hne, ?_, ?_, ?_, ?_, ?_⟩ <;> simp only [Zf, Xn, if_true, ho, Int.toNat_natCast, Yv] <;> omega
    · omega
def CsrAt (al : List Arc) (hs rs cs aa : List Int) (bs : List Bool) (k : Nat) : Prop :=
  ∀ i, i < k → (al.getD i default).fr ≠ (al.getD i default).to → ∀ s,
    hs.getD (Zf al i s) 0 = Xn (al.getD i default) (!s) ∧ rs.getD (Zf al i s) 0 = Zf al i (!s) ∧ cs.getD (Zf al i s) 0 = (if s then 0 else (al.getD i default).cap) ∧
    aa.getD (Zf al i s) 0 = i ∧ bs.getD (Zf al i s) false = s
structure CsrOK (al : List Arc) (n : Nat) (fs hs rs cs aa : List Int) (bs : List Bool) : Prop where
  lf : fs.length = n + 1
  lh : hs.length = Yv al n
  lr : rs.length = Yv al n
  lc : cs.length = Yv al n
  la : aa.length = Yv al n
  lb : bs.length = Yv al n
  hf : ∀ v, v ≤ n → fs.getD v 0 = Yv al v
  hat : CsrAt al hs rs cs aa bs al.length
theorem CsrAt.skip {al : List Arc} {hs rs cs aa : List Int} {bs : List Bool} {k : Nat} (h : CsrAt al hs rs cs aa bs k) (e : (al.getD k default).fr = (al.getD k default).to) : CsrAt al hs rs cs aa bs (k + 1) := by
 intro i hi hne s
 rcases Nat.lt_succ_iff_lt_or_eq.1 hi with h1 | h1
 · exact h i h1 hne s
 · subst h1; exact absurd e hne
theorem Nt {α : Type} {xs : List α} {p q j : Nat} {u v d : α} (hp : p < xs.length) (hq : q < xs.length) (hpq : p ≠ q) :
    ((xs.set p u).set q v).getD j d = if j = p then u else if j = q then v else xs.getD j d := by
  rw [lset, lset]
  by_cases h1 : j = p
  · subst h1; rw [if_pos rfl, if_neg (fun e => hpq e.1.symm), if_pos ⟨rfl, hp⟩]
  · rw [if_neg h1]
    by_cases h2 : j = q
    · subst h2; rw [if_pos rfl, if_pos ⟨rfl, by simpa using hq⟩]
    · rw [if_neg h2, if_neg (fun e => h2 e.1.symm), if_neg (fun e => h1 e.1.symm)]
theorem CsrAt.put {al : List Arc} {n : Nat} {hs rs cs aa : List Int} {bs : List Bool} {k : Nat} (h : CsrAt al hs rs cs aa bs k) (he : Jy n al) (hk : k < al.length) (hne : (al.getD k default).fr ≠ (al.getD k default).to)
    (lh : hs.length = Yv al n) (lr : rs.length = Yv al n) (lc : cs.length = Yv al n) (la : aa.length = Yv al n) (lb : bs.length = Yv al n) :
    CsrAt al ((hs.set (Zf al k false) (al.getD k default).to).set (Zf al k true) (al.getD k default).fr) ((rs.set (Zf al k false) (Zf al k true)).set (Zf al k true) (Zf al k false))
      ((cs.set (Zf al k false) (al.getD k default).cap).set (Zf al k true) 0) ((aa.set (Zf al k false) k).set (Zf al k true) k) ((bs.set (Zf al k false) false).set (Zf al k true) true) (k + 1) := by
  have hp : Zf al k false < Yv al n := pos_lt hk hne he
  have hq : Zf al k true < Yv al n := pos_lt hk hne he
  have hpq : Zf al k false ≠ Zf al k true := fun e => by have := (Z63 he hk hk hne hne e).2; cases this
  intro i hi hni s
  have hil : i < al.length := by omega
  rw [Nt (by omega) (by omega) hpq, Nt (by omega) (by omega) hpq, Nt (by omega) (by omega) hpq, Nt (by omega) (by omega) hpq, Nt (by omega) (by omega) hpq]
  by_cases hik : i = k
  · subst hik
    cases s
    · simp [Xn]
    · simp [Xn, hpq.symm]
  · have h1 : Zf al i s ≠ Zf al k false := fun e => hik (Z63 he hil hk hni hne e).1
    have h2 : Zf al i s ≠ Zf al k true := fun e => hik (Z63 he hil hk hni hne e).1
    simp only [if_neg h1, if_neg h2]
    exact h i (by omega) hni s
def Counted (al : List Arc) (m k : Nat) (fs : List Int) : Prop := fs.length = m + 1 ∧ fs.getD 0 0 = 0 ∧ ∀ v : Int, 0 ≤ v → v < m → fs.getD (v + 1).toNat 0 = Vi al v.toNat k
def Summed (al : List Arc) (m k : Nat) (fs : List Int) : Prop := fs.length = m + 1 ∧ (∀ u, u ≤ k → fs.getD u 0 = Yv al u) ∧ ∀ u, k ≤ u → u < m → fs.getD (u + 1) 0 = Vi al u al.length
theorem Counted.start (al : List Arc) (m : Nat) {p : Nat} (h : p = m + 1) : Counted al m 0 (List.replicate p 0) :=
 ⟨by simp [h], Z3t _ _ _, fun v _ _ => by rw [Z3t]; rfl⟩
theorem Counted.skip {al : List Arc} {m k : Nat} {fs : List Int} (h : Counted al m k fs) (e : (al.getD k default).fr = (al.getD k default).to) : Counted al m (k + 1) fs :=
 ⟨h.1, h.2.1, fun v h0 h1 => by rw [h.2.2 v h0 h1]; simp only [Vi, Jh, if_pos e, Nat.add_zero]⟩
theorem Counted.put {al : List Arc} {m k : Nat} {fs : List Int} (h : Counted al m k fs) (he : Jy m al) (hk : k < al.length) (hne : (al.getD k default).fr ≠ (al.getD k default).to) :
    Counted al m (k + 1) ((fs.set ((al.getD k default).fr + 1).toNat (fs.getD ((al.getD k default).fr + 1).toNat 0 + 1)).set ((al.getD k default).to + 1).toNat
      ((fs.set ((al.getD k default).fr + 1).toNat (fs.getD ((al.getD k default).fr + 1).toNat 0 + 1)).getD ((al.getD k default).to + 1).toNat 0 + 1)) := by
  have e0 := he k hk false
  have e1 := he k hk true
  simp only [Xn, Bool.false_eq_true, if_false, if_true] at e0 e1
  obtain ⟨hl, hz, hv⟩ := h
  refine ⟨by simpa using hl, ?_, ?_⟩
  · rw [Nq (by omega), Nq (by omega)]; exact hz
  · intro v h0 h1
    have hvv := hv v h0 h1
    rw [Nq (i := ((al.getD k default).fr + 1).toNat) (j := ((al.getD k default).to + 1).toNat) (by omega), Nt (by omega) (by omega) (by omega)]
    simp only [Vi, Jh, if_neg hne]
    by_cases a1 : v = (al.getD k default).fr
    · rw [if_pos (by omega), if_pos (by omega), ← a1, hvv]; omega
    · rw [if_neg (by omega)]
      by_cases a2 : v = (al.getD k default).to
      · rw [if_pos (by omega), if_pos (by omega), ← a2, hvv]; omega
      · rw [if_neg (by omega), if_neg (by omega), hvv]; omega
theorem Summed.put {al : List Arc} {m k : Nat} {fs : List Int} (h : Summed al m k fs) (hk : k < m) {i : Nat} (hi : i = k + 1) : Summed al m (k + 1) (fs.set i (fs.getD i 0 + fs.getD k 0)) := by
 subst hi
 obtain ⟨hl, h1, h2⟩ := h
 refine ⟨by simpa using hl, fun u hu => ?_, fun u h3 h4 => ?_⟩
 ·
  by_cases e : u = k + 1
  · subst e; rw [Z4l (by omega), h1 k (Nat.le_refl _), h2 k (Nat.le_refl _) hk]; simp [Yv]; omega
  · rw [Nq (by omega)]; exact h1 u (by omega)
 · rw [Nq (by omega)]; exact h2 u (by omega) h4
theorem Jf {N S T : Int} {al : List Arc} (h : Uj N S T al = 0) : (2 ≤ N ∧ N ≤ 4096) ∧ (al.length : Int) ≤ 16384 ∧ (Ui N S = true ∧ Ui N T = true ∧ S ≠ T) ∧ al.all (Ki N) = true ∧ al.all Gn = true ∧ (Uk 4611686018427387904 al).isSome = true := by
 unfold Uj at h
 split at h
 · omega
 ·
  rename_i h1
  split at h
  · omega
  ·
   rename_i h2
   split at h
   · omega
   ·
    rename_i h3
    split at h
    · omega
    ·
     rename_i h4
     split at h
     · omega
     ·
      rename_i h5
      split at h
      · omega
      ·
       rename_i h6
       refine ⟨Classical.not_not.1 h1, Classical.not_not.1 h2, Classical.not_not.1 h3, by simpa using h4, by simpa using h5, ?_⟩
       cases e : Uk 4611686018427387904 al <;> simp_all
theorem Z5n {m : Nat} {al : List Arc} (h : al.all (Ki (m : Int)) = true) : Jy m al := by
 intro i hi s
 have h1 := List.all_eq_true.1 h _ (Jw hi default)
 simp only [Ki, Ui, Bool.and_eq_true, decide_eq_true_eq] at h1
 cases s
 · simp only [Xn, Bool.false_eq_true, if_false]; exact h1.1
 · simp only [Xn, if_true]; exact h1.2
def MakeAt (al : List Arc) (m k : Nat) (nx hs rs cs aa : List Int) (bs : List Bool) : Prop :=
  (nx.length = m + 1 ∧ hs.length = Yv al m ∧ rs.length = Yv al m ∧ cs.length = Yv al m ∧ aa.length = Yv al m ∧ bs.length = Yv al m) ∧
  CsrAt al hs rs cs aa bs k ∧ ∀ v : Int, 0 ≤ v → v < m → nx.getD v.toNat 0 = Yv al v.toNat + Vi al v.toNat k
theorem MakeAt.start {al : List Arc} {m : Nat} {fs : List Int} (hl : fs.length = m + 1) (hf : ∀ u, u ≤ m → fs.getD u 0 = Yv al u) :
    MakeAt al m 0 fs (List.replicate (Yv al m) 0) (List.replicate (Yv al m) 0) (List.replicate (Yv al m) 0) (List.replicate (Yv al m) 0) (List.replicate (Yv al m) false) := by
  refine ⟨⟨hl, by simp, by simp, by simp, by simp, by simp⟩, fun i hi => by omega, fun v h0 h1 => ?_⟩
  rw [hf _ (by omega)]; simp [Vi]
theorem MakeAt.skip {al : List Arc} {m k : Nat} {nx hs rs cs aa : List Int} {bs : List Bool} (h : MakeAt al m k nx hs rs cs aa bs) (e : (al.getD k default).fr = (al.getD k default).to) : MakeAt al m (k + 1) nx hs rs cs aa bs :=
 ⟨h.1, h.2.1.skip e, fun v h0 h1 => by rw [h.2.2 v h0 h1]; simp only [Vi, Jh, if_pos e, Nat.add_zero]⟩
theorem MakeAt.at {al : List Arc} {m k : Nat} {nx hs rs cs aa : List Int} {bs : List Bool} (h : MakeAt al m k nx hs rs cs aa bs) (he : Jy m al) (hk : k < al.length) (s : Bool) : nx.getD (Xn (al.getD k default) s).toNat 0 = (Zf al k s : Nat) := by
 rw [h.2.2 _ (he k hk s).1 (he k hk s).2]; simp only [Zf]; omega
theorem MakeAt.put {al : List Arc} {m k : Nat} {nx hs rs cs aa : List Int} {bs : List Bool} (h : MakeAt al m k nx hs rs cs aa bs) (he : Jy m al) (hk : k < al.length) (hne : (al.getD k default).fr ≠ (al.getD k default).to) :
    MakeAt al m (k + 1) ((nx.set (al.getD k default).fr.toNat ((Zf al k false : Nat) + 1)).set (al.getD k default).to.toNat ((Zf al k true : Nat) + 1))
      ((hs.set (Zf al k false) (al.getD k default).to).set (Zf al k true) (al.getD k default).fr) ((rs.set (Zf al k false) (Zf al k true)).set (Zf al k true) (Zf al k false))
      ((cs.set (Zf al k false) (al.getD k default).cap).set (Zf al k true) 0) ((aa.set (Zf al k false) k).set (Zf al k true) k) ((bs.set (Zf al k false) false).set (Zf al k true) true) := by
  have g0 := h.at he hk false
  have g1 := h.at he hk true
  obtain ⟨⟨l0, l1, l2, l3, l4, l5⟩, hA, hv⟩ := h
  have e0 := he k hk false
  have e1 := he k hk true
  simp only [Xn, Bool.false_eq_true, if_false, if_true] at e0 e1 g0 g1
  refine ⟨⟨by simpa using l0, by simpa using l1, by simpa using l2, by simpa using l3, by simpa using l4, by simpa using l5⟩, hA.put he hk hne l1 l2 l3 l4 l5, fun v h0 h1 => ?_⟩
  have hvv := hv v h0 h1
  rw [Nt (by omega) (by omega) (by omega)]
  simp only [Vi, Jh, if_neg hne]
  by_cases a1 : v = (al.getD k default).fr
  · rw [if_pos (by omega), if_pos (by omega), ← g0, ← a1, hvv]; omega
  · rw [if_neg (by omega)]
    by_cases a2 : v = (al.getD k default).to
    · rw [if_pos (by omega), if_pos (by omega), ← g1, ← a2, hvv]; omega
    · rw [if_neg (by omega), if_neg (by omega), hvv]; omega
theorem MakeAt.done {al : List Arc} {m : Nat} {fs nx hs rs cs aa : List Int} {bs : List Bool} (h : MakeAt al m al.length nx hs rs cs aa bs) (hl : fs.length = m + 1) (hf : ∀ u, u ≤ m → fs.getD u 0 = Yv al u) : CsrOK al m fs hs rs cs aa bs :=
 ⟨hl, h.1.2.1, h.1.2.2.1, h.1.2.2.2.1, h.1.2.2.2.2.1, h.1.2.2.2.2.2, hf, h.2.1⟩
end Go.Acq
namespace Go.Acq
open Go
theorem next_ne {S m : Int} (h0 : 0 ≤ S) (h1 : S < m) (h2 : 2 ≤ m) : 0 ≤ (S + 1).tmod m ∧ (S + 1).tmod m < m ∧ (S + 1).tmod m ≠ S := by
 rw [Int.tmod_eq_emod_of_nonneg (by omega)]
 refine ⟨Int.emod_nonneg _ (by omega), Int.emod_lt_of_pos _ (by omega), ?_⟩
 by_cases h : S + 1 < m
 · rw [Int.emod_eq_of_lt (by omega) h]; omega
 · rw [show S + 1 = m by omega, Int.emod_self]; omega
theorem Z7r {x n : Int} (h : 0 ≤ x) (hn : 0 < n) : 0 ≤ x.tmod n ∧ x.tmod n < n := by
 rw [Int.tmod_eq_emod_of_nonneg h]
 exact ⟨Int.emod_nonneg _ (by omega), Int.emod_lt_of_pos _ hn⟩
def SomeAt (m : Nat) (ol : List Arc) : Prop := ∀ a, a ∈ ol → Ki m a = true ∧ 0 ≤ a.cap ∧ a.cap < 1125899906842624
theorem SomeAt.put {m : Nat} {ol : List Arc} {a : Arc} (h : SomeAt m ol) (h1 : 0 ≤ a.fr ∧ a.fr < m) (h2 : 0 ≤ a.to ∧ a.to < m) (h3 : 0 ≤ a.cap ∧ a.cap < 1125899906842624) : SomeAt m (ol ++ [a]) := by
 intro b hb
 rcases List.mem_append.1 hb with hb | hb
 · exact h b hb
 ·
  simp only [List.mem_singleton] at hb
  subst hb
  exact ⟨by simp [Ki, Ui, h1, h2], h3⟩
theorem Zek {m : Nat} {ol : List Arc} {left : Int} (h : SomeAt m ol) (hl : (ol.length : Int) * 1125899906842624 ≤ left) : (Uk left ol).isSome = true := by
 induction ol generalizing left with
 | nil => simp [Uk]
 | cons a ol ih =>
  have ha := (h a (.head _)).2
  simp only [List.length_cons] at hl
  have h2 : (0 : Int) ≤ (ol.length : Int) * 1125899906842624 := by omega
  simp only [Uk]
  rw [if_neg (by omega)]
  exact ih (fun b hb => h b (.tail _ hb)) (by omega)
theorem Zb5 {m : Nat} {S T : Int} {ol : List Arc} (hm : 2 ≤ m) (hm2 : m ≤ 4096) (hS : 0 ≤ S ∧ S < m) (hT : 0 ≤ T ∧ T < m) (hST : T ≠ S) (h : SomeAt m ol) (hl : ol.length ≤ 4096) : Uj m S T ol = 0 := by
 have h1 : ol.all (Ki m) = true := List.all_eq_true.2 fun a ha => (h a ha).1
 have h2 : ol.all Gn = true := List.all_eq_true.2 fun a ha => by simp [Gn, (h a ha).2.1]
 have h3 : (Uk 4611686018427387904 ol).isSome = true := Zek h (by omega)
 unfold Uj
 rw [if_neg (by omega), if_neg (by omega), if_neg (by simp [Ui, hS, hT, Ne.symm hST]), if_neg (by simp [h1]), if_neg (by simp [h2]), if_neg (by
  cases e : Uk 4611686018427387904 ol with
  | none => rw [e] at h3; cases h3
  | some x => simp)]
def WithinAt (al : List Arc) (n k : Nat) (fl : List Int) : Prop := fl.length = n ∧
  (∀ i, i < k → 0 ≤ fl.getD i 0 ∧ fl.getD i 0 ≤ (al.getD i default).cap ∧ ((al.getD i default).fr = (al.getD i default).to → fl.getD i 0 = 0)) ∧ ∀ i, k ≤ i → fl.getD i 0 = 0
theorem Zcd (al : List Arc) (n : Nat) : WithinAt al n 0 (List.replicate n 0) := ⟨by simp, fun i h => by omega, fun i _ => Z3t _ _ _⟩
theorem WithinAt.skip {al : List Arc} {n k : Nat} {fl : List Int} (h : WithinAt al n k fl) (hc : 0 ≤ (al.getD k default).cap) : WithinAt al n (k + 1) fl := by
 refine ⟨h.1, fun i hi => ?_, fun i hi => h.2.2 i (by omega)⟩
 rcases Nat.lt_succ_iff_lt_or_eq.1 hi with h1 | h1
 · exact h.2.1 i h1
 · subst h1; have := h.2.2 i (Nat.le_refl _); rw [this]; exact ⟨Int.le_refl _, hc, fun _ => rfl⟩
theorem WithinAt.put {al : List Arc} {n k : Nat} {fl : List Int} {v : Int} (h : WithinAt al n k fl) (hk : k < n) (h0 : 0 ≤ v) (h1 : v ≤ (al.getD k default).cap) (hne : (al.getD k default).fr ≠ (al.getD k default).to) : WithinAt al n (k + 1) (fl.set k v) := by
 refine ⟨by simpa using h.1, fun i hi => ?_, fun i hi => by rw [Nq (by omega)]; exact h.2.2 i (by omega)⟩
 by_cases e : i = k
 · subst e; rw [Z4l (by rw [h.1]; exact hk)]; exact ⟨h0, h1, fun e => absurd e hne⟩
 · rw [Nq (by omega)]; exact h.2.1 i (by omega)
def resOK (aa cs : List Int) (bs : List Bool) (fl : List Int) (j : Nat) : Prop := aa.getD j 0 < fl.length ∧ (bs.getD j false = true ∨ (0 ≤ fl.getD (aa.getD j 0).toNat 0 ∧ fl.getD (aa.getD j 0).toNat 0 ≤ cs.getD j 0))
def resV (aa cs : List Int) (bs : List Bool) (fl : List Int) (j : Nat) : Int := if bs.getD j false = true then fl.getD (aa.getD j 0).toNat 0 else cs.getD j 0 - fl.getD (aa.getD j 0).toNat 0
def ResAt (aa cs : List Int) (bs : List Bool) (fl : List Int) (L k : Nat) (rl : List Int) : Prop := rl.length = L ∧ ∀ j, j < k → resOK aa cs bs fl j ∧ rl.getD j 0 = resV aa cs bs fl j
theorem ResAt.put {aa cs : List Int} {bs : List Bool} {fl : List Int} {L k : Nat} {rl : List Int} {v : Int} (h : ResAt aa cs bs fl L k rl) (hk : k < L) (h1 : resOK aa cs bs fl k) (h2 : v = resV aa cs bs fl k) : ResAt aa cs bs fl L (k + 1) (rl.set k v) := by
 refine ⟨by simpa using h.1, fun j hj => ?_⟩
 by_cases e : j = k
 · subst e; rw [Z4l (by rw [h.1]; exact hk)]; exact ⟨h1, h2⟩
 · rw [Nq (by omega)]; exact h.2 j (by omega)
end Go.Acq
namespace Go.Acq
open Go
def turn (a : Arc) : Arc := ⟨a.to, a.fr, a.cap⟩
theorem Zdv (al : List Arc) (i : Nat) : (al.map turn).getD i default = turn (al.getD i default) := by
 rw [List.getD_eq_getElem?_getD, List.getD_eq_getElem?_getD, List.getElem?_map]
 cases al[i]? <;> rfl
theorem SomeAt.turn {m : Nat} {ol : List Arc} (h : SomeAt m ol) : SomeAt m (ol.map turn) := by
 intro a ha
 obtain ⟨b, hb, rfl⟩ := List.mem_map.1 ha
 obtain ⟨h1, h2⟩ := h b hb
 simp only [Ki, Bool.and_eq_true] at h1
 exact ⟨by simp only [Ki, Acq.turn, Bool.and_eq_true]; exact ⟨h1.2, h1.1⟩, h2⟩
theorem WithinAt.turn {al : List Arc} {n k : Nat} {fl : List Int} (h : WithinAt al n k fl) : WithinAt (al.map turn) n k fl :=
 ⟨h.1, fun i hi => by rw [Zdv]; exact ⟨(h.2.1 i hi).1, (h.2.1 i hi).2.1, fun e => (h.2.1 i hi).2.2 e.symm⟩, h.2.2⟩
theorem CsrOK.place {al : List Arc} {m : Nat} {fs hs rs cs aa : List Int} {bs : List Bool} (h : CsrOK al m fs hs rs cs aa bs) {j : Nat} (hj : j < Yv al m) :
    ∃ i s, i < al.length ∧ (al.getD i default).fr ≠ (al.getD i default).to ∧ Zf al i s = j ∧ hs.getD j 0 = Xn (al.getD i default) (!s) ∧ rs.getD j 0 = Zf al i (!s) ∧ cs.getD j 0 = (if s then 0 else (al.getD i default).cap) ∧ aa.getD j 0 = i ∧ bs.getD j false = s := by
  obtain ⟨i, s, hi, hne, hp, _⟩ := pos_surj hj
  have := h.hat i hi hne s
  rw [hp] at this
  exact ⟨i, s, hi, hne, hp, this⟩
end Go.Acq
namespace Go.Acq
open Go
theorem Z1e {α : Type} {m : Option α} {v : α} (h : Ok m (fun a => a = v)) : m = some v := by obtain ⟨a, h1, h2⟩ := h; rw [h1, h2]
theorem Vr {α : Type} {m : Option α} {v : α} {Q : α → Prop} (h : m = some v) (q : Q v) : Ok m Q := ⟨v, h, q⟩
abbrev lenok (n : Nat) : Prop := n ≤ 9223372036854775807
theorem Z0u {x n : Int} (h1 : n ≤ 4611686018427387904) : Gi x n = some (Jd x n) := by
 unfold Gi Jd
 by_cases h : n < 1
 · rw [if_pos h, if_pos h]
 ·
  have a1 := Int.tmod_lt_of_pos x (show 0 < n by omega)
  have a2 := Z71 x (show 0 < n by omega)
  rw [if_neg h, if_neg h, Xr (by omega), Xr (by constructor <;> omega), Xr (by omega)]
theorem Z2d (n : Net) (v : Int) : Gz n v = some (Ui n.N v) := by
 unfold Gz Ui
 by_cases h : 0 ≤ v <;> simp [h]
theorem s_rules4 (n : Net) (a : Arc) : Z1z n a = some (Ki n.N a) := by
 unfold Z1z Ki
 rw [Z2d, Z2d]
 simp only [Option.bind_some]
 cases Ui n.N a.fr <;> simp
theorem s_of4 (n : Net) (h : lenok n.Arcs.length) : Z1u n = some (n.Arcs.all (Ki n.N)) := by
 refine Z1e ?_
 unfold Z1u Z3h Z2y
 refine Ok.bind.2 (Ok.bind.2 (Ok.bind.2 (Z2o (fun x => 0 ≤ x ∧ x ≤ n.Arcs.length ∧ ∀ i, i < x.toNat → Ki n.N (n.Arcs.getD i default) = true) (fun x => (n.Arcs.length - x).toNat) ⟨by omega, by omega, fun i hi => by omega⟩ (by unfold Xp; omega) ?_)))
 rintro x ⟨h0, h1, h2⟩
 unfold Z1c Z2j
 refine Ok.ite.2 ⟨fun hx => ?_, fun hx => ?_⟩
 ·
  refine Ok.gd.2 ⟨(by omega), Ok.bind.2 (Ok.bind.2 (Vr (s_rules4 _ _) (Ok.some.2 (Ok.ite.2 ⟨fun hb => ?_, fun hb => ?_⟩))))⟩
  ·
   refine Ok.some.2 (Ok.some.2 (Ok.some.2 (Ok.some.2 ?_)))
   simp only [h0, decide_true, Bool.not_true]
   refine Eq.symm (Bool.eq_false_iff.2 fun hall => ?_)
   have := List.all_eq_true.1 hall _ (Jw (show x.toNat < n.Arcs.length by omega) default)
   rw [this] at hb; cases hb
  ·
   refine Ok.gd.2 ⟨(by omega), Ok.some.2 ⟨⟨by omega, by omega, fun i hi => ?_⟩, by omega⟩⟩
   rcases Nat.lt_or_ge i x.toNat with h3 | h3
   · exact h2 i h3
   · rw [show i = x.toNat by omega]; simpa using hb
 ·
  refine Ok.some.2 (Ok.some.2 (Ok.some.2 (Ok.some.2 ?_)))
  refine Eq.symm (List.all_eq_true.2 fun a ha => ?_)
  obtain ⟨i, hi, rfl⟩ := List.getElem_of_mem ha
  have := h2 i (by omega)
  rwa [List.getD_eq_getElem?_getD, List.getElem?_eq_getElem hi] at this
theorem s_of5 (n : Net) (h : lenok n.Arcs.length) : Z0i n = some (n.Arcs.all Gn) := by
 refine Z1e ?_
 unfold Z0i Z28 Z35
 refine Ok.bind.2 (Ok.bind.2 (Ok.bind.2 (Z2o (fun x => 0 ≤ x ∧ x ≤ n.Arcs.length ∧ ∀ i, i < x.toNat → Gn (n.Arcs.getD i default) = true) (fun x => (n.Arcs.length - x).toNat) ⟨by omega, by omega, fun i hi => by omega⟩ (by unfold Xp; omega) ?_)))
 rintro x ⟨h0, h1, h2⟩
 unfold Z1g Z3o Z3i
 refine Ok.ite.2 ⟨fun hx => ?_, fun hx => ?_⟩
 ·
  refine Ok.gd.2 ⟨(by omega), Ok.bind.2 (Ok.bind.2 (Ok.some.2 (Ok.some.2 (Ok.ite.2 ⟨fun hb => ?_, fun hb => ?_⟩))))⟩
  ·
   refine Ok.some.2 (Ok.some.2 (Ok.some.2 (Ok.some.2 ?_)))
   simp only [h0, decide_true, Bool.not_true]
   refine Eq.symm (Bool.eq_false_iff.2 fun hall => ?_)
   have := List.all_eq_true.1 hall _ (Jw (show x.toNat < n.Arcs.length by omega) default)
   simp only [Gn] at this
   rw [this] at hb; cases hb
  ·
   refine Ok.gd.2 ⟨(by omega), Ok.some.2 ⟨⟨by omega, by omega, fun i hi => ?_⟩, by omega⟩⟩
   rcases Nat.lt_or_ge i x.toNat with h3 | h3
   · exact h2 i h3
   · rw [show i = x.toNat by omega]; simpa [Gn] using hb
 ·
  refine Ok.some.2 (Ok.some.2 (Ok.some.2 (Ok.some.2 ?_)))
  refine Eq.symm (List.all_eq_true.2 fun a ha => ?_)
  obtain ⟨i, hi, rfl⟩ := List.getElem_of_mem ha
  have := h2 i (by omega)
  rwa [List.getD_eq_getElem?_getD, List.getElem?_eq_getElem hi] at this
theorem s_Sum (n : Net) (h : lenok n.Arcs.length) : Z0c n = some (match Uk 4611686018427387904 n.Arcs with | some l => (4611686018427387904 - l, true) | none => (0, false)) := by
 refine Z1e ?_
 unfold Z0c
 refine Ok.bind.2 (Z2o (fun s => 0 ≤ s.2 ∧ s.2 ≤ n.Arcs.length ∧ 0 ≤ s.1 ∧ s.1 ≤ 4611686018427387904 ∧ Uk 4611686018427387904 n.Arcs = Uk s.1 (n.Arcs.drop s.2.toNat)) (fun s => (n.Arcs.length - s.2).toNat) ⟨by simp, by simp, by simp, by simp, by simp⟩ (by unfold Xp; simp; omega) ?_)
 rintro ⟨left, x⟩ ⟨h0, h1, h2, h3, h4⟩
 simp only at h0 h1 h2 h3 h4 ⊢
 unfold Z0d Z1p
 refine Ok.ite.2 ⟨fun hx => ?_, fun hx => ?_⟩
 ·
  rw [Z7x (by omega)] at h4
  refine Ok.gd.2 ⟨(by omega), Ok.ite.2 ⟨fun hb => ?_, fun hb => ?_⟩⟩
  ·
   rw [if_pos rfl]
   refine Ok.some.2 (Ok.some.2 ?_)
   rw [h4, if_pos (.inl hb)]
  ·
   by_cases hc : left < (n.Arcs.getD x.toNat default).cap
   ·
    rw [if_pos (decide_eq_true hc)]
    refine Ok.some.2 (Ok.some.2 ?_)
    rw [h4, if_pos (.inr hc)]
   ·
    rw [if_neg (by simpa using hc)]
    refine Ok.gd.2 ⟨(by omega), Ok.gd.2 ⟨(by omega), Ok.some.2 ⟨⟨by simp only; omega, by simp only; omega, by simp only; omega, by simp only; omega, ?_⟩, by simp only; omega⟩⟩⟩
    rw [h4, if_neg (by omega)]
    simp only
    rw [show (x + 1).toNat = x.toNat + 1 by omega]
 ·
  unfold Z2c
  refine Ok.some.2 (Ok.gd.2 ⟨(by omega), Ok.some.2 ?_⟩)
  rw [h4, List.drop_eq_nil_of_le (by omega)]
  rfl
theorem Z0r (n : Net) (h : lenok n.Arcs.length) : Gk n = some (Uj n.N n.S n.T n.Arcs) := by
 unfold Gk Z2k Z3a Z3b Z2q Z2m Z4c Z39 Z3u
 rw [Z2d, Z2d, s_of4 n h, s_of5 n h, s_Sum n h]
 unfold Uj
 simp only [Option.bind_some]
 by_cases h1 : 2 ≤ n.N ∧ n.N ≤ 4096
 ·
  rw [if_pos h1.1, if_neg (not_not_intro h1)]
  simp only [Option.bind_some, decide_eq_true h1.2, Bool.not_true, Bool.false_eq_true, if_false]
  by_cases h2 : (n.Arcs.length : Int) ≤ 16384
  ·
   rw [if_neg (by simp [h2]), if_neg (not_not_intro h2)]
   by_cases h3 : Ui n.N n.S = true ∧ Ui n.N n.T = true ∧ n.S ≠ n.T
   ·
    rw [if_pos h3.1, if_pos h3.2.1, if_neg (not_not_intro h3)]
    simp only [Option.bind_some, decide_eq_true h3.2.2, Bool.not_true, Bool.false_eq_true, if_false]
    cases h4 : n.Arcs.all (Ki n.N)
    · simp
    ·
     cases h5 : n.Arcs.all Gn
     · simp
     · cases h6 : Uk 4611686018427387904 n.Arcs <;> simp
   ·
    rw [if_pos h3]
    by_cases a1 : Ui n.N n.S = true
    ·
     by_cases a2 : Ui n.N n.T = true
     ·
      have a3 : ¬ n.S ≠ n.T := fun e => h3 ⟨a1, a2, e⟩
      simp [a1, a2, a3]
     · simp [a1, a2]
    · simp [a1]
  · rw [if_pos (by simp [h2]), if_pos h2]
 ·
  rw [if_pos h1]
  by_cases a1 : 2 ≤ n.N
  ·
   have a2 : ¬ n.N ≤ 4096 := fun e => h1 ⟨a1, e⟩
   simp [a1, a2]
  · simp [a1]
end Go.Acq
namespace Go.Acq
open Go
structure NetIn (n : Net) : Prop where
  nN : i64ok n.N
  nS : i64ok n.S
  nT : i64ok n.T
  arcs : ∀ a, a ∈ n.Arcs → i64ok a.fr ∧ i64ok a.to ∧ i64ok a.cap
  len : n.Arcs.length ≤ 9223372036854775807
structure RowIn (l : List Int) : Prop where
  row : ∀ x, x ∈ l → i64ok x
  len : l.length ≤ 9223372036854775807
structure Made (n : Net) (v a : Int) : Prop where
  check : Uj n.N n.S n.T n.Arcs = 0
  rows : SomeAt n.N.toNat n.Arcs
  verts : n.N ≤ v
  arcs : (n.Arcs.length : Int) ≤ a
  ends : 2 ≤ n.N ∧ 0 ≤ n.S ∧ n.S < n.N ∧ 0 ≤ n.T ∧ n.T < n.N ∧ n.S ≠ n.T
theorem Made.nat {n : Net} {v a : Int} (h : Made n v a) : ∃ m : Nat, n.N = m ∧ SomeAt m n.Arcs := ⟨n.N.toNat, by have := h.ends.1; omega, h.rows⟩
theorem Za1 {n : Net} {m : Nat} (h : SomeAt m n.Arcs) : ∀ i, i < n.Arcs.length → 0 ≤ (n.Arcs.getD i default).cap ∧ (n.Arcs.getD i default).cap < 1125899906842624 := fun _ hi => (h _ (Jw hi default)).2
theorem s_Some {n : Net} {v a : Int} (h : NetIn n) (hv0 : 2 ≤ v) (hv1 : v ≤ 4096) (ha0 : 0 ≤ a) (ha1 : a ≤ 4096) : Ok (Z14 n v a) (fun r => Made r v a) := by
 have hN := Z1t (x := n.N) (n := v - 1) (by omega)
 unfold Z14
 refine Ok.gd.2 ⟨(by omega), Ok.bind.2 (Vr (Z0u (by omega)) (Ok.gd.2 ⟨(by omega), ?_⟩))⟩
 obtain ⟨m, hm⟩ : ∃ m : Nat, 2 + Jd n.N (v - 1) = m := ⟨(2 + Jd n.N (v - 1)).toNat, by omega⟩
 rw [hm]
 have hS := Z1t (x := n.S) (n := (m : Int)) (by omega)
 have hT := Z1t (x := n.T) (n := (m : Int)) (by omega)
 refine Ok.bind.2 (Vr (Z0u (by omega)) (Ok.bind.2 (Vr (Z0u (by omega)) ?_)))
 have key : ∀ t : Int, 0 ≤ t → t < m → t ≠ Jd n.S m → Ok (Z09 n a (Jd n.N (v - 1)) (Jd n.S m) t) (fun r => Made r v a) := by
  intro t t0 t1 t2
  unfold Z09
  refine Ok.gd.2 ⟨(by omega), Ok.bind.2 ?_⟩
  obtain ⟨q, hq⟩ : ∃ q : Nat, min (n.Arcs.length : Int) a = q := ⟨(min (n.Arcs.length : Int) a).toNat, by omega⟩
  obtain ⟨al, hal⟩ : ∃ l, l = n.Arcs.take (q : Int).toNat := ⟨_, rfl⟩
  have hlen : al.length = q := by rw [hal, List.length_take]; omega
  have hcap : ∀ b, b ∈ al → i64ok b.cap := fun b hb => (h.arcs b (List.mem_of_mem_take (by rw [← hal]; exact hb))).2.2
  refine Ry (fun s => ∃ k : Nat, s.2 = k ∧ k ≤ q ∧ s.1.length = k ∧ SomeAt m s.1) (fun s => (q - s.2).toNat) ⟨0, rfl, by omega, rfl, fun b hb => by cases hb⟩ (by unfold Xp; simp only; omega) ?_
  rintro ⟨ol, x⟩ ⟨k, h1, h2, h3, h4⟩ P next exit
  simp only at h1 h2 h3 h4 next ⊢
  subst h1
  unfold Z0j
  rw [hq, ← hal]
  simp only [Int.toNat_natCast]
  refine Ok.ite.2 ⟨fun hx => ?_, fun hx => ?_⟩
  ·
   have hkl : k < al.length := by omega
   have hc := hcap _ (Jw hkl default)
   have hj : ∀ c : Int, 0 ≤ c → Ok (Rk n a (Jd n.N (v - 1)) ol k c) P := by
    intro c hc0
    unfold Rk
    rw [hq, ← hal, hm]
    refine Ok.bind.2 (Vr (Z0u (by omega)) (Ok.bind.2 (Vr (Z0u (by omega)) (Ok.gd.2 ⟨?_, Ok.gd.2 ⟨(by omega), Ok.some.2 (next _ ⟨k + 1, by simp, by omega, by simp [h3], ?_⟩ (by simp only; omega))⟩⟩))))
    · rw [List.length_append, h3]; simp only [List.length_cons, List.length_nil]; constructor <;> omega
    · exact h4.put (Z1t (by omega)) (Z1t (by omega)) (Z7r hc0 (by omega))
   refine Ok.gd.2 ⟨(by omega), Ok.ite.2 ⟨fun hn => ?_, fun hn => ?_⟩⟩
   · exact Ok.gd.2 ⟨by constructor <;> omega, Ok.gd.2 ⟨by constructor <;> omega, hj (-((al.getD k default).cap + 1)) (by omega)⟩⟩
   · exact hj (al.getD k default).cap (by omega)
  ·
   refine Ok.some.2 (exit _ ?_)
   unfold Z3c
   refine Ok.some.2 ?_
   rw [hm]
   exact ⟨Zb5 (by omega) (by omega) hS ⟨t0, t1⟩ t2 h4 (show ol.length ≤ 4096 by omega), by simpa using h4, by simp only; omega, by show (ol.length : Int) ≤ a; omega, ⟨by simp only; omega, hS.1, hS.2, t0, t1, fun e => t2 e.symm⟩⟩
 refine Ok.ite.2 ⟨fun he => ?_, fun he => ?_⟩
 ·
  refine Ok.gd.2 ⟨(by omega), Ok.gd.2 ⟨by omega, ?_⟩⟩
  obtain ⟨n1, n2, n3⟩ := next_ne hS.1 hS.2 (by omega)
  exact key _ n1 n2 n3
 · exact key _ hT.1 hT.2 (fun e => he e.symm)
theorem s_Within {n : Net} {l : List Int} (hn : n.Arcs.length ≤ 4096) (hc : ∀ i, i < n.Arcs.length → 0 ≤ (n.Arcs.getD i default).cap) (hl : RowIn l) : Ok (Z0l n l) (fun r => WithinAt n.Arcs n.Arcs.length n.Arcs.length r) := by
 unfold Z0l
 have hll := hl.len
 refine Ok.gd.2 ⟨(by omega), Ok.bind.2 (Ry (fun s => ∃ k : Nat, s.2 = k ∧ k ≤ n.Arcs.length ∧ WithinAt n.Arcs n.Arcs.length k s.1) (fun s => (n.Arcs.length - s.2).toNat) ⟨0, rfl, by omega, by simpa using Zcd n.Arcs n.Arcs.length⟩ (by unfold Xp; simp only; omega) ?_)⟩
 rintro ⟨fl, x⟩ ⟨k, h1, h2, h3⟩ P next exit
 simp only at h1 h2 h3 next ⊢
 subst h1
 unfold Z1k
 refine Ok.ite.2 ⟨fun hx => ?_, fun hx => ?_⟩
 ·
  have hkl : k < n.Arcs.length := by omega
  have hck := hc k hkl
  have hfl := h3.1
  have hj3 : ∀ y : Int, (n.Arcs.getD k default).fr ≠ (n.Arcs.getD k default).to → 0 ≤ y → Ok (Rp n fl k y) P := by
   intro y hne hy
   unfold Rp
   refine Ok.gd.2 ⟨by constructor <;> omega, Ok.gd.2 ⟨(by omega), Ok.some.2 (next _ ⟨k + 1, by simp, by omega, ?_⟩ (by simp only; omega))⟩⟩
   simp only [Int.toNat_natCast]
   exact h3.put hkl (by omega) (by omega) hne
  have hj2 : ∀ y : Int, (n.Arcs.getD k default).fr ≠ (n.Arcs.getD k default).to → 0 ≤ y → Ok (Z05 n fl k y) P := by
   intro y hne hy
   unfold Z05
   simp only [Int.toNat_natCast]
   refine Ok.ite.2 ⟨fun hb => ?_, fun hb => hj3 y hne hy⟩
   refine Ok.gd.2 ⟨by constructor <;> omega, Ok.gd.2 ⟨by omega, hj3 (y.tmod ((n.Arcs.getD k default).cap + 1)) hne (Z7r hy (by omega)).1⟩⟩
  have hskip : WithinAt n.Arcs n.Arcs.length (k + 1) fl := h3.skip hck
  refine Ok.gd.2 ⟨(by omega), Ok.ite.2 ⟨fun hb => ?_, fun hb => ?_⟩⟩
  · exact Ok.gd.2 ⟨(by omega), Ok.some.2 (next _ ⟨k + 1, by simp, by omega, hskip⟩ (by simp only; omega))⟩
  ·
   simp only [Int.toNat_natCast]
   refine Ok.ite.2 ⟨fun he => ?_, fun he => ?_⟩
   · exact Ok.gd.2 ⟨(by omega), Ok.some.2 (next _ ⟨k + 1, by simp, by omega, hskip⟩ (by simp only; omega))⟩
   ·
    have hxk := hl.row _ (Jw (show k < l.length by omega) 0)
    refine Ok.gd.2 ⟨(by omega), Ok.ite.2 ⟨fun hb => ?_, fun hb => hj2 (l.getD k 0) he (by omega)⟩⟩
    exact Ok.gd.2 ⟨by constructor <;> omega, Ok.gd.2 ⟨by constructor <;> omega, hj2 (-(l.getD k 0 + 1)) he (by omega)⟩⟩
 ·
  refine Ok.some.2 (exit _ ?_)
  unfold Z38
  refine Ok.some.2 ?_
  rw [show n.Arcs.length = k by omega] at h3 ⊢
  exact h3
end Go.Acq
namespace Go.Acq
open Go
def ex (al : List Arc) (f : List Int) (v : Int) : Nat → Int
  | 0 => 0
  | k + 1 => ex al f v k - (if (al.getD k default).fr = v then f.getD k 0 else 0) + (if (al.getD k default).to = v then f.getD k 0 else 0)
def tot (f : List Int) : Nat → Int
  | 0 => 0
  | k + 1 => tot f k + f.getD k 0
def part (al : List Arc) (f : List Int) (j : Int) : Nat → Int
  | 0 => 0
  | k + 1 => part al f j k - (if (al.getD k default).fr < j then f.getD k 0 else 0) + (if (al.getD k default).to < j then f.getD k 0 else 0)
theorem ex_le {al : List Arc} {f : List Int} (v : Int) {n : Nat} (h : ∀ i, i < n → 0 ≤ f.getD i 0) : ∀ k, k ≤ n → -tot f k ≤ ex al f v k ∧ ex al f v k ≤ tot f k
 | 0, _ => by simp [ex, tot]
 | k + 1, hk => by
  have ih := ex_le (al := al) v h k (by omega)
  have := h k hk
  simp only [ex, tot]
  split <;> split <;> omega
theorem Z4z {f : List Int} {n : Nat} (h : ∀ i, i < n → 0 ≤ f.getD i 0) : ∀ j k, j ≤ k → k ≤ n → tot f j ≤ tot f k
  | j, 0, hj, _ => by have : j = 0 := by omega
                      subst this; exact Int.le_refl _
  | j, k + 1, hj, hk => by
    rcases Nat.lt_or_ge j (k + 1) with h1 | h1
    · have := Z4z h j k (by omega) (by omega)
      have := h k hk
      simp only [tot]; omega
    · rw [show j = k + 1 by omega]; exact Int.le_refl _
theorem sumL_tot {f : List Int} : ∀ (al : List Arc) (left : Int) (k : Nat), (Uk left (al.drop k)).isSome = true → 0 ≤ left → k ≤ al.length → (∀ i, i < al.length → 0 ≤ f.getD i 0 ∧ f.getD i 0 ≤ (al.getD i default).cap) → tot f al.length - tot f k ≤ left := by
 intro al left k
 induction hn : al.length - k generalizing left k with
 | zero =>
  intro _ h0 hk _
  rw [show k = al.length by omega]; omega
 | succ n ih =>
  intro hs h0 hk hf
  have hkl : k < al.length := by omega
  rw [Z7x hkl] at hs
  by_cases hc : (al.getD k default).cap < 0 ∨ left < (al.getD k default).cap
  · rw [if_pos hc] at hs; cases hs
  ·
   rw [if_neg hc] at hs
   have := ih (left - (al.getD k default).cap) (k + 1) (by omega) hs (by omega) (by omega) hf
   have hfk := hf k hkl
   simp only [tot] at this
   omega
def FwithinP (n : Net) (f : List Int) : Prop := Uj n.N n.S n.T n.Arcs = 0 ∧ f.length = n.Arcs.length ∧ ∀ i, i < n.Arcs.length → 0 ≤ f.getD i 0 ∧ f.getD i 0 ≤ (n.Arcs.getD i default).cap
theorem FwithinP.tot {n : Net} {f : List Int} (h : FwithinP n f) : ∀ k, k ≤ n.Arcs.length → 0 ≤ tot f k ∧ tot f k ≤ 4611686018427387904 := by
 intro k hk
 have hz := Jf h.1
 have h1 := sumL_tot (f := f) n.Arcs 4611686018427387904 0 (by simpa using hz.2.2.2.2.2) (by omega) (by omega) h.2.2
 have h2 := Z4z (fun i hi => (h.2.2 i hi).1) k n.Arcs.length hk (Nat.le_refl _)
 have h3 := Z4z (fun i hi => (h.2.2 i hi).1) 0 k (by omega) hk
 simp only [Acq.tot] at h1 h3
 omega
theorem Zcq {n : Net} {f : List Int} (hl : lenok n.Arcs.length) : Ok (Z20 n f) (fun b => b = true ↔ FwithinP n f) := by
 unfold Z20
 refine Ok.bind.2 (Vr (Z0r n hl) (Ok.ite.2 ⟨fun h => Ok.some.2 ⟨fun h2 => (by cases h2), fun h2 => absurd h2.1 h⟩, fun h1 => Ok.ite.2 ⟨fun h => Ok.some.2 ⟨fun h2 => (by cases h2), fun h2 => absurd h2.2.1 (by omega)⟩, fun h2 => Ok.bind.2 ?_⟩⟩))
 have hz := Jf (Classical.not_not.1 h1)
 refine Ry (fun x => ∃ k : Nat, x = k ∧ k ≤ n.Arcs.length ∧ ∀ i, i < k → 0 ≤ f.getD i 0 ∧ f.getD i 0 ≤ (n.Arcs.getD i default).cap) (fun x => (n.Arcs.length - x).toNat) ⟨0, rfl, by omega, fun i hi => by omega⟩ (by unfold Xp; omega) ?_
 rintro x ⟨k, rfl, hk, h3⟩ P next exit
 unfold Z1m
 simp only [Int.toNat_natCast]
 refine Ok.ite.2 ⟨fun hx => ?_, fun hx => ?_⟩
 ·
  refine Ok.gd.2 ⟨(by omega), Ok.gd.2 ⟨(by omega), Ok.ite.2 ⟨fun h => Ok.some.2 (exit _ (Ok.some.2 ⟨fun h2 => (by cases h2), fun h2 => by have := h2.2.2 k (by omega); omega⟩)), fun h4 => Ok.gd.2 ⟨(by omega), Ok.ite.2 ⟨fun h => Ok.some.2 (exit _ (Ok.some.2 ⟨fun h2 => (by cases h2), fun h2 => by have := h2.2.2 k (by omega); omega⟩)), fun h5 => Ok.gd.2 ⟨(by omega), Ok.some.2 (next _ ⟨k + 1, by simp, by omega, fun i hi => ?_⟩ (by omega))⟩⟩⟩⟩⟩⟩
  rcases Nat.lt_or_ge i k with h | h
  · exact h3 i h
  · rw [show i = k by omega]; omega
 ·
  refine Ok.some.2 (exit _ ?_)
  unfold Z2f
  exact Ok.some.2 ⟨fun _ => ⟨Classical.not_not.1 h1, by omega, fun i hi => h3 i (by omega)⟩, fun _ => rfl⟩
theorem s_Excess {n : Net} {f : List Int} (hl : lenok n.Arcs.length) : Ok (Z0w n f) (fun r => (FwithinP n f ∧ r.2 = 0 ∧ r.1.length = n.N.toNat ∧ ∀ v : Nat, v < n.N.toNat → r.1.getD v 0 = ex n.Arcs f v n.Arcs.length) ∨ (¬ FwithinP n f ∧ r = ([], 20))) := by
 unfold Z0w
 refine Ok.bind.2 (Ok.mono (Zcq hl) fun b hb => Ok.ite.2 ⟨fun h => Ok.some.2 (.inr ⟨fun h2 => (by rw [hb.2 h2] at h; cases h), rfl⟩), fun h => ?_⟩)
 have hw : FwithinP n f := hb.1 (by cases b; exact absurd rfl h; rfl)
 have hz := Jf hw.1
 obtain ⟨m, hm⟩ : ∃ m : Nat, n.N = m := ⟨n.N.toNat, by omega⟩
 have he : Jy m n.Arcs := Z5n (by rw [← hm]; exact hz.2.2.2.1)
 have hfl := hw.2.1
 refine Ok.gd.2 ⟨(by omega), Ok.bind.2 ?_⟩
 rw [hm]
 simp only [Int.toNat_natCast]
 refine Ry (fun s => ∃ k : Nat, s.2 = k ∧ k ≤ n.Arcs.length ∧ s.1.length = m ∧ ∀ v : Nat, v < m → s.1.getD v 0 = ex n.Arcs f v k) (fun s => (n.Arcs.length - s.2).toNat) ⟨0, rfl, by omega, List.length_replicate, fun v _ => by rw [Z3t]; rfl⟩ (by unfold Xp; simp only; omega) ?_
 rintro ⟨xs, x⟩ ⟨k, h1, hk, h3, h4⟩ P next exit
 simp only at h1 h3 h4 next ⊢
 subst h1
 unfold Z0q
 simp only [Int.toNat_natCast]
 refine Ok.ite.2 ⟨fun hx => ?_, fun hx => ?_⟩
 ·
  have hkl : k < n.Arcs.length := by omega
  have e0 := he k hkl false
  have e1 := he k hkl true
  simp only [Xn, Bool.false_eq_true, if_false, if_true] at e0 e1
  obtain ⟨p, hp⟩ : ∃ p : Nat, (n.Arcs.getD k default).fr = p := ⟨(n.Arcs.getD k default).fr.toNat, by omega⟩
  obtain ⟨q, hq⟩ : ∃ q : Nat, (n.Arcs.getD k default).to = q := ⟨(n.Arcs.getD k default).to.toNat, by omega⟩
  have hfk := hw.2.2 k hkl
  have b0 := ex_le (al := n.Arcs) (f := f) (p : Int) (fun i hi => (hw.2.2 i hi).1) k hk
  have b1 := ex_le (al := n.Arcs) (f := f) (q : Int) (fun i hi => (hw.2.2 i hi).1) k hk
  have t0 := hw.tot k hk
  have t1 := hw.tot (k + 1) hkl
  simp only [tot] at t1
  rw [hp] at e0
  rw [hq] at e1
  have v0 := h4 p (by omega)
  have v1 := h4 q (by omega)
  simp only [hp, hq, Int.toNat_natCast, v0, lset, List.length_set, h3]
  refine Ok.gd.2 ⟨(by omega), Ok.gd.2 ⟨(by omega), Ok.gd.2 ⟨(by omega), Ok.gd.2 ⟨(by omega), Ok.gd.2 ⟨(by omega), Ok.gd.2 ⟨(by omega), Ok.gd.2 ⟨(by omega), Ok.gd.2 ⟨by split <;> constructor <;> omega, Ok.gd.2 ⟨(by omega), Ok.gd.2 ⟨(by omega), Ok.some.2 (next _ ⟨k + 1, by simp, by omega, by simp [h3], fun v hv => ?_⟩ (by simp only; omega))⟩⟩⟩⟩⟩⟩⟩⟩⟩⟩
  simp only [lset, List.length_set, h3, ex, hp, hq]
  rw [h4 v hv]
  by_cases c1 : p = v
  ·
   subst c1
   by_cases c2 : q = p
   ·
    subst c2
    simp only [true_and, if_true]
    rw [if_pos (by omega)]; simp [show q < m by omega]
   · rw [if_neg (fun h => c2 h.1), if_pos ⟨rfl, by omega⟩, if_pos rfl, if_neg (by omega)]; omega
  ·
   by_cases c2 : q = v
   ·
    subst c2
    rw [if_pos ⟨rfl, by omega⟩, if_neg (fun h => c1 h.1), if_neg (by omega), if_pos rfl, v1]; omega
   · rw [if_neg (fun h => c2 h.1), if_neg (fun h => c1 h.1), if_neg (by omega), if_neg (by omega)]; omega
 ·
  refine Ok.some.2 (exit _ ?_)
  unfold Z3k
  rw [show k = n.Arcs.length by omega] at h4
  exact Ok.some.2 (.inl ⟨hw, rfl, h3, h4⟩)
end Go.Acq
namespace Go.Acq
open Go Go.Lib
theorem bs_getD (x : Str) (i : Nat) : (bs x).get! i = x.getD i 0 := by
 by_cases h : i < x.length
 · rw [Z70 x i h, List.getD_eq_getElem?_getD, List.getElem?_eq_getElem h]; rfl
 ·
  rw [List.getD_eq_getElem?_getD, List.getElem?_eq_none (by omega)]
  simp [ByteArray.get!, bs, h]; rfl
theorem Z9e (x : Str) (i : Nat) (h : i < x.length) (ha : 128 ≤ (x.getD i 0).toNat) : ∃ r k, Utf8.decode (bs x) i = (r, k) ∧ 128 ≤ r ∧ 1 ≤ k ∧ ∀ j, j < k → i + j < x.length ∧ 128 ≤ (x.getD (i + j) 0).toNat := by
 have h0 : ∀ j, j < 1 → i + j < x.length ∧ 128 ≤ (x.getD (i + j) 0).toNat := fun j hj => by
  obtain rfl : j = 0 := by omega
  exact ⟨h, ha⟩
 have hc : ∀ j, (decide (i + j < (bs x).size) && ((x.getD (i + j) 0).toNat / 64 == 2)) = true → i + j < x.length ∧ 128 ≤ (x.getD (i + j) 0).toNat := fun j hj => by
  simp only [Bool.and_eq_true, decide_eq_true_eq, beq_iff_eq, Wb] at hj
  omega
 unfold Utf8.decode
 simp only [bs_getD, Nat.add_zero]
 rw [if_neg (by omega)]
 split
 ·
  rename_i h1
  rw [Bool.and_eq_true] at h1
  split
  ·
   refine ⟨_, _, rfl, by assumption, by omega, fun j hj => ?_⟩
   rcases (by omega : j = 0 ∨ j = 1) with rfl | rfl
   · exact h0 0 (by omega)
   · exact hc 1 h1.2
  · exact ⟨_, _, rfl, by decide, by omega, h0⟩
 ·
  split
  ·
   rename_i h1
   rw [Bool.and_eq_true, Bool.and_eq_true] at h1
   split
   ·
    rename_i h2
    rw [Bool.and_eq_true, decide_eq_true_eq] at h2
    refine ⟨_, _, rfl, by omega, by omega, fun j hj => ?_⟩
    rcases (by omega : j = 0 ∨ j = 1 ∨ j = 2) with rfl | rfl | rfl
    · exact h0 0 (by omega)
    · exact hc 1 h1.1.2
    · exact hc 2 h1.2
   · exact ⟨_, _, rfl, by decide, by omega, h0⟩
  ·
   split
   ·
    rename_i h1
    rw [Bool.and_eq_true, Bool.and_eq_true, Bool.and_eq_true] at h1
    split
    ·
     rename_i h2
     rw [Bool.and_eq_true, decide_eq_true_eq] at h2
     refine ⟨_, _, rfl, by omega, by omega, fun j hj => ?_⟩
     rcases (by omega : j = 0 ∨ j = 1 ∨ j = 2 ∨ j = 3) with rfl | rfl | rfl | rfl
     · exact h0 0 (by omega)
     · exact hc 1 h1.1.1.2
     · exact hc 2 h1.1.2
     · exact hc 3 h1.2
    · exact ⟨_, _, rfl, by decide, by omega, h0⟩
   · exact ⟨_, _, rfl, by decide, by omega, h0⟩
theorem Z8e {l : Str} {i : Nat} {c : UInt8} (h : l[i]? = some c) : l.getD i 0 = c := by rw [List.getD_eq_getElem?_getD, h]; rfl
theorem Zbl {p : Nat → Bool} (hp : ∀ r, 128 ≤ r → p r = false) (l : Str) (Zf : Nat) (h : Zf < l.length) :
    (∃ c, l[Zf]? = some c ∧ p c.toNat = true ∧ Utf8.decode (bs l) Zf = (c.toNat, 1)) ∨ (∃ r k, Utf8.decode (bs l) Zf = (r, k) ∧ p r = false ∧ 1 ≤ k ∧ Zf + k ≤ l.length ∧ ∀ b ∈ (l.drop Zf).take k, p b.toNat = false) := by
  obtain ⟨c, hc⟩ := Z2h h
  by_cases ha : c.toNat < 128
  · have hd := Z30 l Zf c hc ha
    cases hq : p c.toNat with
    | true => exact .inl ⟨c, hc, hq, hd⟩
    | false =>
      refine .inr ⟨_, _, hd, hq, by omega, by omega, fun b hb => ?_⟩
      rw [Z19 hc] at hb
      simp only [List.take_succ_cons, List.take_zero, List.mem_singleton] at hb
      rw [hb]; exact hq
  · obtain ⟨r, k, hd, hr, hk, hj⟩ := Z9e l Zf h (by rw [Z8e hc]; omega)
    have hle : Zf + k ≤ l.length := by have := (hj (k - 1) (by omega)).1; omega
    refine .inr ⟨r, k, hd, hp r hr, hk, hle, fun b hb => ?_⟩
    obtain ⟨j, hjl, rfl⟩ := List.mem_iff_getElem.1 hb
    rw [List.length_take, List.length_drop] at hjl
    have := (hj j (by omega)).2
    rw [List.getElem_take, List.getElem_drop]
    rw [List.getD_eq_getElem?_getD, List.getElem?_eq_getElem (by omega)] at this
    exact hp _ this
theorem Z1l {p : Nat → Bool} {l : Str} : ∀ (seg cur : Str), (∀ b ∈ seg, p b.toNat = false) → Xq p (seg ++ l) cur = Xq p l (cur ++ seg)
 | [], cur, _ => by rw [List.nil_append, List.append_nil]
 | b :: seg, cur, h => by
  rw [List.cons_append, Z5x (by rw [h b (.head _)]; decide), Z1l seg _ (fun x hx => h x (.tail _ hx)), List.append_assoc]; rfl
theorem Zbe {p : Nat → Bool} (hp : ∀ r, 128 ≤ r → p r = false) (l : Str) : ∀ (f Zf : Nat) (st : Option Nat) (acc : List (Nat × Nat)), l.length ≤ Zf + f → Zf ≤ l.length → opn st Zf →
    (closeSpans (bs l) (spansFromP p (bs l) f Zf st acc)).map (fun x => (l.take x.2).drop x.1) = acc.map (fun x => (l.take x.2).drop x.1) ++ Xq p (l.drop Zf) (Wr l st Zf) := by
  have hne : ∀ a Zf, a < Zf → Zf ≤ l.length → Wr l (some a) Zf ≠ [] := fun a Zf h1 h2 e => by
    have := congrArg List.length e
    unfold Wr at this
    simp only at this
    rw [List.length_drop, List.length_take] at this
    simp only [List.length_nil] at this
    omega
  have fin : ∀ (f Zf : Nat) (st : Option Nat) (acc : List (Nat × Nat)), Zf = l.length → opn st Zf →
      (closeSpans (bs l) (spansFromP p (bs l) f Zf st acc)).map (fun x => (l.take x.2).drop x.1) = acc.map (fun x => (l.take x.2).drop x.1) ++ Xq p (l.drop Zf) (Wr l st Zf) := by
    intro f Zf st acc hp ho
    subst hp
    rw [spansFromP_end _ _ _ _ _ _ (by rw [Wb]; omega), List.drop_eq_nil_of_le (Nat.le_refl _)]
    cases st with
    | none => simp [closeSpans, Wr, Xq]
    | some a =>
      rw [Z4r (hne a _ (ho a rfl) (Nat.le_refl _))]
      simp only [closeSpans, Wr, Wb, List.map_append, List.map_cons, List.map_nil]
  intro f
  induction f with
  | zero => intro Zf st acc hf hp ho; exact fin 0 Zf st acc (by omega) ho
  | succ f ih =>
    intro Zf st acc hf hpl ho
    by_cases hlt : Zf < l.length
    · have hsz : Zf < (bs l).size := by rw [Wb]; exact hlt
      rcases Zbl hp l Zf hlt with ⟨c, hc, hq, hd⟩ | ⟨r, k, hd, hq, hk, hle, hseg⟩
      · rw [Z19 hc]
        cases st with
        | none =>
          have e : spansFromP p (bs l) (f + 1) Zf none acc = spansFromP p (bs l) f (Zf + 1) none acc := by simp only [spansFromP, if_pos hsz, hd, if_pos hq]
          rw [e, ih (Zf + 1) none acc (by omega) (by omega) (fun a e => by cases e)]
          rw [show Wr l none Zf = [] from rfl, Z7k hq]; rfl
        | some a =>
          have e : spansFromP p (bs l) (f + 1) Zf (some a) acc = spansFromP p (bs l) f (Zf + 1) none (acc ++ [(a, Zf)]) := by simp only [spansFromP, if_pos hsz, hd, if_pos hq]
          rw [e, ih (Zf + 1) none (acc ++ [(a, Zf)]) (by omega) (by omega) (fun a e => by cases e), Z59 hq (hne a Zf (ho a rfl) (by omega))]
          simp only [Wr, List.map_append, List.map_cons, List.map_nil, List.append_assoc, List.cons_append, List.nil_append]
      · have hq' : ¬ p r = true := by rw [hq]; decide
        have hs : l.drop Zf = (l.drop Zf).take k ++ l.drop (Zf + k) := by rw [← List.drop_drop, List.take_append_drop]
        cases st with
        | none =>
          have e : spansFromP p (bs l) (f + 1) Zf none acc = spansFromP p (bs l) f (Zf + k) (some Zf) acc := by simp only [spansFromP, if_pos hsz, hd, if_neg hq']
          rw [e, ih (Zf + k) (some Zf) acc (by omega) hle (fun a e => by cases e; omega), hs, Z1l _ _ hseg]
          simp only [Wr, List.nil_append]
          rw [show (l.take (Zf + k)).drop Zf = (l.drop Zf).take k by rw [List.drop_take]; congr 1; omega]
        | some a =>
          have e : spansFromP p (bs l) (f + 1) Zf (some a) acc = spansFromP p (bs l) f (Zf + k) (some a) acc := by simp only [spansFromP, if_pos hsz, hd, if_neg hq']
          rw [e, ih (Zf + k) (some a) acc (by omega) hle (fun b e => by cases e; have := ho a rfl; omega), hs, Z1l _ _ hseg]
          have h1 := ho a rfl
          have : Wr l (some a) (Zf + k) = Wr l (some a) Zf ++ (l.drop Zf).take k := by
            unfold Wr
            simp only
            rw [show l.take (Zf + k) = l.take Zf ++ (l.drop Zf).take k from List.take_add, List.drop_append_of_le_length (by rw [List.length_take]; omega)]
          rw [this]
    · exact fin (f + 1) Zf st acc (by omega) ho
theorem Zbg {p : Nat → Bool} (hp : ∀ r, 128 ≤ r → p r = false) (l : Str) : Z1h p l = Xq p l [] := by
 have h0 := Z92 p l
 have h1 := Zbe hp l l.length 0 none [] (by omega) (by omega) (fun a e => by cases e)
 simp only [List.map_nil, List.nil_append, List.drop_zero] at h1
 have h2 : Wr l none 0 = [] := rfl
 rw [h2] at h1
 have h3 : goFieldsP p (bs l) = (Xq p l []).map bs := by
  rw [← h1]
  unfold goFieldsP spansOfP
  rw [Wb, List.map_map]
  apply List.map_congr_left
  intro x _
  exact Z8k l x.1 x.2
 rw [h3] at h0
 have hinj : Function.Injective bs := fun a b h => by have := congrArg (fun z => z.data.toList) h; simpa [bs] using this
 exact ((List.map_inj_right (fun a b h => hinj h)).1 h0).symm
theorem Z1r {p : Nat → Bool} : ∀ (l cur : Str), ∀ w ∈ Xq p l cur, w ≠ []
 | [], cur, w, h => by
  unfold Xq at h
  split at h
  · cases h
  · rcases List.mem_singleton.1 h with rfl; assumption
 | b :: l, cur, w, h => by
  unfold Xq at h
  split at h
  ·
   split at h
   · exact Z1r l [] w h
   ·
    rcases List.mem_cons.1 h with rfl | h
    · assumption
    · exact Z1r l [] w h
  · exact Z1r l _ w h
theorem anyT_any {p : Nat → Bool} (hp : ∀ r, 128 ≤ r → p r = true) (l : Str) : anyT p l = l.any (fun b => p b.toNat) := by
 rw [← Z7i]
 have key : ∀ (f Zf : Nat), l.length ≤ Zf + f → decide (0 ≤ idxFuncFrom p true (bs l) f Zf) = (l.drop Zf).any (fun b => p b.toNat) := by
  intro f
  induction f with
  | zero => intro Zf hf; rw [List.drop_eq_nil_of_le (by omega)]; rfl
  | succ f ih =>
   intro Zf hf
   by_cases hlt : Zf < l.length
   ·
    obtain ⟨c, hc⟩ := Z2h hlt
    rw [idxFuncFrom, if_pos (by rw [Wb]; exact hlt), Z19 hc, List.any_cons]
    by_cases ha : c.toNat < 128
    ·
     rw [Z30 l Zf c hc ha]
     by_cases hq : p c.toNat = true
     · rw [if_pos hq, hq, Bool.true_or]; exact decide_eq_true (by omega)
     ·
      rw [if_neg hq, Bool.eq_false_iff.2 hq, Bool.false_or]
      exact ih (Zf + 1) (by omega)
    ·
     obtain ⟨r, k, hd, hr, hk, hj⟩ := Z9e l Zf hlt (by rw [Z8e hc]; omega)
     rw [hd, if_pos (hp r hr), hp _ (by omega), Bool.true_or]
     exact decide_eq_true (by omega)
   · rw [idxFuncFrom_end _ _ _ _ _ (by rw [Wb]; exact hlt), List.drop_eq_nil_of_le (by omega)]; rfl
 unfold idxFunc
 rw [Wb, key l.length 0 (by omega), List.drop_zero]
def Gg (b : UInt8) : Bool := decide (48 ≤ b.toNat ∧ b.toNat ≤ 57)
def Un (acc : Nat) (l : Str) : Nat := l.foldl (fun a b => a * 10 + (b.toNat - 48)) acc
theorem valD_nil (acc : Nat) : Un acc [] = acc := rfl
theorem Zdl (acc : Nat) (b : UInt8) (l : Str) : Un acc (b :: l) = Un (acc * 10 + (b.toNat - 48)) l := by
 unfold Un; rw [List.foldl_cons]
theorem Zdk (l : Str) : ∀ (acc : Nat), l.all Gg = true → (acc + 1) * 10 ^ l.length ≤ 18446744073709551616 → parseUintM 18446744073709551615 acc l = .ok (Un acc l) := by
 induction l with
 | nil => intro acc _ _; rfl
 | cons b l ih =>
  intro acc h hb
  rw [List.all_cons, Bool.and_eq_true] at h
  have h1 : 48 ≤ b.toNat ∧ b.toNat ≤ 57 := of_decide_eq_true h.1
  rw [List.length_cons, Nat.pow_succ] at hb
  have hp : 1 ≤ 10 ^ l.length := Nat.one_le_pow _ _ (by omega)
  have h2 : (acc * 10 + (b.toNat - 48) + 1) * 10 ^ l.length ≤ 18446744073709551616 := by
   refine Nat.le_trans ?_ hb
   rw [Nat.mul_comm (10 ^ l.length) 10, ← Nat.mul_assoc]
   exact Nat.mul_le_mul_right _ (by omega)
  have h3 : acc * 10 + (b.toNat - 48) + 1 ≤ 18446744073709551616 := Nat.le_trans (by have := Nat.mul_le_mul_left (acc * 10 + (b.toNat - 48) + 1) hp; omega) h2
  rw [parseUintM, if_pos h1, if_neg (by omega), if_neg (by omega)]
  exact ih _ h.2 h2
def Vh (s : Str) : Int × Bool := if s.all Gg = true ∧ s ≠ [] ∧ s.length ≤ 19 ∧ Un 0 s < 9223372036854775808 then ((Un 0 s : Int), true) else (0, false)
theorem Zb0 {s : Str} (h : s.all Gg = true) (h0 : s ≠ []) (h1 : s.length ≤ 19) : Z1i s = if Un 0 s < 9223372036854775808 then ((Un 0 s : Int), true) else (9223372036854775807, false) := by
 obtain ⟨c, r, rfl⟩ := List.exists_cons_of_ne_nil h0
 have hc : 48 ≤ c.toNat ∧ c.toNat ≤ 57 := by rw [List.all_cons, Bool.and_eq_true] at h; exact of_decide_eq_true h.1
 have hp : parseUintB 64 (c :: r) = .ok (Un 0 (c :: r)) := by
  unfold parseUintB
  rw [if_neg h0]
  refine Zdk _ 0 h ?_
  have : (10 : Nat) ^ (c :: r).length ≤ 10 ^ 19 := Nat.pow_le_pow_right (by omega) h1
  omega
 unfold Z1i
 rw [parseIntB_plain 64 c r (by omega) (by omega), hp]
 simp only [signlessC]
 by_cases hv : Un 0 (c :: r) < 9223372036854775808
 · rw [if_pos hv, if_neg (by omega)]
 ·
  rw [if_neg hv, if_pos (by omega)]
  simp only
  rw [intSat_other 64 c r (by omega)]; rfl
theorem Z66 : ∀ (f u : Nat), (Wx f u).all Gg = true
 | 0, u => rfl
 | f + 1, u => by
  have key : ∀ v, v < 10 → Gg (UInt8.ofNat (48 + v)) = true := fun v hv => by
   refine decide_eq_true ?_
   rw [UInt8.toNat_ofNat']
   omega
  rw [Wx]
  split
  · rw [List.all_cons, key u (by omega)]; rfl
  · rw [List.all_append, Z66 f, List.all_cons, key _ (by omega)]; rfl
theorem valD_app (l : Str) (acc : Nat) (b : UInt8) : Un acc (l ++ [b]) = Un acc l * 10 + (b.toNat - 48) := by
 unfold Un; rw [List.foldl_append]; rfl
theorem Z8t : ∀ (f u : Nat), u < 10 ^ f → Un 0 (Wx f u) = u
 | 0, u, h => by simp at h; subst h; rfl
 | f + 1, u, h => by
  have key : ∀ v, v < 10 → (UInt8.ofNat (48 + v)).toNat - 48 = v := fun v hv => by rw [UInt8.toNat_ofNat']; omega
  rw [Wx]
  split
  · rw [Zdl, valD_nil, key u (by omega)]; omega
  · rw [valD_app, Z8t f (u / 10) (by rw [Nat.pow_succ] at h; omega), key _ (by omega)]; omega
theorem Z55 : ∀ (f u : Nat), u < 10 ^ f → 1 ≤ f → 1 ≤ (Wx f u).length ∧ (Wx f u).length ≤ f
 | 0, u, _, h => by omega
 | f + 1, u, h, _ => by
  rw [Wx]
  split
  · simp
  ·
   rename_i hu
   rw [List.length_append, List.length_singleton]
   have h2 : u / 10 < 10 ^ f := by rw [Nat.pow_succ] at h; omega
   cases f with
   | zero => simp at h; omega
   | succ f => have := Z55 (f + 1) (u / 10) h2 (by omega); omega
theorem Z9r : ∀ (f u : Nat), u < 10 ^ (f + 1) → Wx (f + 2) u = Wx (f + 1) u
 | 0, u, h => by
  have h2 : u < 10 := by simpa using h
  rw [Wx, if_pos h2, Wx, if_pos h2]
 | f + 1, u, h => by
  by_cases hu : u < 10
  · rw [Wx, if_pos hu, Wx, if_pos hu]
  ·
   rw [Wx, if_neg hu, Z9r f (u / 10) (by rw [Nat.pow_succ] at h; omega)]
   conv => rhs; rw [Wx, if_neg hu]
theorem Zc5 {n : Int} (h0 : 0 ≤ n) (h1 : n ≤ 9223372036854775807) : Yd n = Wx 19 n.toNat ∧ (Yd n).all Gg = true ∧ Yd n ≠ [] ∧ (Yd n).length ≤ 19 ∧ Un 0 (Yd n) = n.toNat := by
 have e19 : (10 : Nat) ^ 19 = 10000000000000000000 := by decide
 have e : Yd n = Wx 19 n.toNat := by
  unfold Yd
  rw [if_neg (by omega)]
  exact Z9r 18 n.toNat (by rw [show 18 + 1 = 19 from rfl, e19]; omega)
 have hl := Z55 19 n.toNat (by rw [e19]; omega) (by omega)
 refine ⟨e, by rw [e]; exact Z66 _ _, fun h => ?_, by rw [e]; exact hl.2, by rw [e]; exact Z8t 19 _ (by rw [e19]; omega)⟩
 rw [e] at h
 rw [h] at hl
 simp at hl
theorem Z5z {n : Int} (h0 : 0 ≤ n) (h1 : n ≤ 9223372036854775807) : Vh (Yd n) = (n, true) := by
 obtain ⟨-, h2, h3, h4, h5⟩ := Zc5 h0 h1
 unfold Vh
 rw [if_pos ⟨h2, h3, h4, by omega⟩, h5, Int.toNat_of_nonneg h0]
end Go.Acq
namespace Go.Acq
open Go
def Kv {S V X : Type} (yy : S → V → Option (S ⊕ X)) : S → List V → Option (S ⊕ X)
  | s, [] => some (.inl s)
  | s, v :: vs => Option.bind (yy s v) fun t => match t with | .inl s' => Kv yy s' vs | .inr x => some (.inr x)
def Va : Str → Str → List Str
  | [], cur => [cur]
  | b :: l, cur => if b = 10 then cur :: Va l [] else Va l (cur ++ [b])
theorem Z3p : ∀ (l cur : Str), ∀ x ∈ Va l cur, x.length ≤ cur.length + l.length
 | [], cur, x, h => by rw [Va] at h; rw [List.mem_singleton.1 h]; exact Nat.le_add_right _ _
 | b :: l, cur, x, h => by
  rw [Va] at h
  split at h
  ·
   rcases List.mem_cons.1 h with rfl | h
   · exact Nat.le_add_right _ _
   · have := Z3p l [] x h; simp only [List.length_nil, List.length_cons] at this ⊢; omega
  · have := Z3p l _ x h; rw [List.length_append, List.length_singleton] at this; rw [List.length_cons]; omega
theorem Z5e : ∀ (seg rest cur : Str), (∀ b ∈ seg, b ≠ 10) → Va (seg ++ 10 :: rest) cur = (cur ++ seg) :: Va rest []
 | [], rest, cur, _ => by rw [List.nil_append, Va, if_pos rfl, List.append_nil]
 | b :: seg, rest, cur, h => by
  rw [List.cons_append, Va, if_neg (h b (.head _)), Z5e seg rest _ (fun x hx => h x (.tail _ hx)), List.append_assoc]; rfl
theorem Z5f : ∀ (seg cur : Str), (∀ b ∈ seg, b ≠ 10) → Va seg cur = [cur ++ seg]
 | [], cur, _ => by rw [Va, List.append_nil]
 | b :: seg, cur, h => by
  rw [Va, if_neg (h b (.head _)), Z5f seg _ (fun x hx => h x (.tail _ hx)), List.append_assoc]; rfl
theorem Z78 : ∀ (t cur : Str), (Lib.indexByte t 10 < 0 ∧ Va t cur = [cur ++ t]) ∨ (∃ r : Nat, Lib.indexByte t 10 = r ∧ r < t.length ∧ Va t cur = (cur ++ t.take r) :: Va (t.drop (r + 1)) [])
 | [], cur => .inl ⟨by decide, by rw [Va, List.append_nil]⟩
 | b :: l, cur => by
  by_cases hb : b = 10
  ·
   subst hb
   refine .inr ⟨0, rfl, by simp, ?_⟩
   rw [Va, if_pos rfl]; simp
  ·
   have h1 : (b == (10 : UInt8)) = false := by simpa using hb
   rcases Z78 l (cur ++ [b]) with ⟨h2, h3⟩ | ⟨r, h2, h3, h4⟩
   ·
    refine .inl ⟨?_, by rw [Va, if_neg hb, h3, List.append_assoc]; rfl⟩
    have h5 : Lib.indexByte l 10 = -1 := by have := Lib.indexByte_ge l 10; omega
    rw [Lib.indexByte, h1, h5]; decide
   ·
    refine .inr ⟨r + 1, ?_, by rw [List.length_cons]; omega, ?_⟩
    ·
     rw [Lib.indexByte, h1, h2]
     have : ((r : Int) == -1) = false := beq_eq_false_iff_ne.2 (by omega)
     rw [this]; simp
    · rw [Va, if_neg hb, h4, List.append_assoc]; simp
theorem ub_take (t : Str) (k : Nat) : (ub t).take k = ub (t.take k) := by unfold ub; rw [List.map_take]
theorem ub_drop (t : Str) (k : Nat) : (ub t).drop k = ub (t.drop k) := by unfold ub; rw [List.map_drop]
theorem Z6c (a b : Str) : ub (a ++ b) = ub a ++ ub b := by unfold ub; rw [List.map_append]
theorem Z9k (t : Str) : Z0m (ub t) [10] = some (Lib.indexByte t 10) := by
 unfold Z0m Z2v
 rw [if_neg (by simp), if_pos (by simp), Xr (by constructor <;> decide)]
 simp only [Option.bind_some]
 congr 1
 unfold idxT
 rw [bu_ub]; rfl
theorem Zeb {S X : Type} (yy : S → List Int → Option (S ⊕ X)) {t : Str} {s : S} (h1 : Lib.indexByte t 10 < 0) : Gp yy [10] 0 (ub t) (.inl s) = some (.inr (.inl (ub t, .inl s))) := by
 unfold Gp
 rw [Z9k, Option.bind_some, if_pos h1]
theorem Zb4 {S X : Type} (yy : S → List Int → Option (S ⊕ X)) {t : Str} {s : S} {r : Nat} (hl : t.length ≤ 1152921504606846976) (h1 : Lib.indexByte t 10 = r) (h2 : r < t.length) :
    Gp yy [10] 0 (ub t) (.inl s) = Option.bind (yy s (ub (t.take r))) fun x => match x with | .inl s' => some (.inl (ub (t.drop (r + 1)), .inl s')) | .inr x => some (.inr (.inr (.inr x))) := by
  unfold Gp
  rw [Z9k, Option.bind_some, if_neg (by omega), h1]
  have ht : ((r : Int) + 0).toNat = r := by omega
  have hd : ((r : Int) + (([10] : List Int).length : Int)).toNat = r + 1 := by simp only [List.length_singleton]; omega
  have hlen := Jl t
  rw [Xr (by omega), Xr (by rw [hlen]; omega), Xr (by omega), ht, hd, List.take_of_length_le (by omega), ub_take, ub_drop]
  simp only [Np]
  cases hy : yy s (ub (t.take r)) with
  | none => rfl
  | some x =>
    cases x with
    | inr x => rfl
    | inl s' =>
      rw [Option.bind_some, if_neg (by simp), Xr (by simp only [List.length_singleton]; omega), Xr (by rw [hlen]; simp only [List.length_singleton]; omega)]
      rfl
theorem s_splitN {S X : Type} (yy : S → List Int → Option (S ⊕ X)) : ∀ (fuel : Nat) (t : Str) (s : S), t.length ≤ 1152921504606846976 → t.length < fuel →
    (Option.bind (Xu (fun s : List Int × (S ⊕ X) => Gp yy [10] 0 s.1 s.2) fuel (ub t, .inl s)) fun o => match o with | .inl (p2_0_0, p2_0_1) => (Z21 yy p2_0_0 p2_0_1) | .inr p2_1_0 => (some p2_1_0)) = Kv (fun s v => yy s (ub v)) s (Va t []) := by
  intro fuel
  induction fuel with
  | zero => intro t s _ h; omega
  | succ fuel ih =>
    intro t s hl hf
    rw [Xu]
    rcases Z78 t [] with ⟨h1, h2⟩ | ⟨r, h1, h2, h3⟩
    · rw [Zeb yy h1, h2]
      simp only [Option.bind_some, List.nil_append, Kv]
      unfold Z21
      rw [Xr (by omega), List.take_of_length_le (by omega)]
      simp only [Np]
      cases yy s (ub t) with
      | none => rfl
      | some x => cases x <;> rfl
    · rw [Zb4 yy hl h1 h2, h3]
      rw [Kv, List.nil_append]
      cases hy : yy s (ub (t.take r)) with
      | none => rfl
      | some x =>
        cases x with
        | inr x => rfl
        | inl s' => exact ih (t.drop (r + 1)) s' (by rw [List.length_drop]; omega) (by rw [List.length_drop]; omega)
theorem s_split {S X : Type} (yy : S → List Int → Option (S ⊕ X)) (t : Str) (s : S) (hl : t.length ≤ 1152921504606846976) : Z0h yy [10] (ub t) 0 (.inl s) = Kv (fun s v => yy s (ub v)) s (Va t []) := by
 unfold Z0h Z29
 rw [if_neg (by simp)]
 have hF : t.length < Xp := Nat.lt_of_le_of_lt hl (by unfold Xp; decide)
 exact s_splitN yy Xp t s hl hF
theorem Nj (x : Nat) : Vb x = decide (x = 9 ∨ x = 13 ∨ x = 32) := by
 unfold Vb Rj
 by_cases h1 : x = 9
 · subst h1; rfl
 ·
  by_cases h2 : x = 13
  · subst h2; rfl
  ·
   rw [if_neg (by omega), if_neg (by omega)]
   by_cases h3 : x = 32
   · subst h3; rfl
   · rw [decide_eq_false (by omega : ¬((x : Int) = 32)), decide_eq_false (by omega : ¬(x = 9 ∨ x = 13 ∨ x = 32))]; rfl
theorem blank_hi : ∀ r, 128 ≤ r → Vb r = false := fun r h => by rw [Nj]; exact decide_eq_false (by omega)
def Xo (l : Str) : List Str := Xq Vb l []
theorem s_Words (l : Str) (h : l.length ≤ 4294967296) : Z1s (ub l) = some (Xo l) := by
 unfold Z1s Z3v
 rw [bu_ub, Xr h, Zbg blank_hi]; rfl
def Vw (l : Str) : Option (List Str) := if Xo l = [] then none else if ((Xo l).getD 0 []).getD 0 0 = 99 then none else some (Xo l)
def Vt (t : Str) : List (List Str) := (Va t []).filterMap Vw
theorem Zc6 {S X : Type} (yy : S → List Str → Option (S ⊕ X)) (s : S) (l : Str) (h : l.length ≤ 4294967296) :
    Ns yy (.inl s) (ub l) = match Vw l with | none => some (.inl (.inl s)) | some w => Option.bind (yy s w) fun t => match t with | .inl s' => some (.inl (.inl s')) | .inr x => some (.inr (.inr x)) := by
  unfold Ns Vw
  rw [s_Words l h]
  simp only [Option.bind_some]
  by_cases h1 : Xo l = []
  · rw [if_pos h1, if_neg (by rw [h1]; simp)]
  · have h2 : 0 < (Xo l).length := List.length_pos_iff.2 h1
    have h3 : (Xo l).getD (0 : Int).toNat [] ∈ Xo l := by
      rw [Int.toNat_zero, List.getD_eq_getElem?_getD, List.getElem?_eq_getElem h2]
      exact List.getElem_mem h2
    have h4 : 0 < ((Xo l).getD (0 : Int).toNat []).length := List.length_pos_iff.2 (Z1r _ _ _ h3)
    rw [if_neg h1, if_pos (by omega), Xr (by constructor <;> omega), Xr (by constructor <;> omega)]
    rw [Int.toNat_zero]
    by_cases h5 : ((Xo l).getD 0 []).getD 0 0 = 99
    · rw [if_pos h5, if_neg (by rw [h5]; decide)]
    · have h6 : ¬ ((((Xo l).getD 0 []).getD 0 0).toNat : Int) = 99 := fun e => h5 (UInt8.toNat_inj.1 (by have : (99 : UInt8).toNat = 99 := rfl; omega))
      rw [if_neg h5, if_pos h6]
      simp only [Np]
      cases yy s (Xo l) with
      | none => rfl
      | some x => cases x <;> rfl
theorem Z76 {S X : Type} (yy : S → List Str → Option (S ⊕ X)) (t : Str) (s : S) (hl : t.length ≤ 4294967296) : Ri yy (ub t) (.inl s) = Kv yy s (Vt t) := by
  unfold Ri Z2l Z3w
  simp only [Option.bind_some]
  rw [s_split _ t _ (by omega)]
  have key : ∀ (ls : List Str) (s : S), (∀ x ∈ ls, x.length ≤ 4294967296) →
      (Option.bind (Kv (fun s v => Ns yy s (ub v)) (.inl s) ls) fun t => match t with | .inl tt13 => (some tt13) | .inr tt13 => (some tt13)) = Kv yy s (ls.filterMap Vw) := by
    intro ls
    induction ls with
    | nil => intro s _; rfl
    | cons l ls ih =>
      intro s h
      rw [Kv, Zc6 yy s l (h l (.head _)), List.filterMap_cons]
      have ih2 := fun s' => ih s' (fun x hx => h x (.tail _ hx))
      cases hs : Vw l with
      | none => simp only [Option.bind_some]; exact ih2 s
      | some w =>
        simp only
        rw [Kv]
        cases yy s w with
        | none => rfl
        | some x =>
          cases x with
          | inl s' => simp only [Option.bind_some]; exact ih2 s'
          | inr x => rfl
  exact key _ s fun x hx => by have := Z3p t [] x hx; simp only [List.length_nil] at this; omega
theorem saidT_ne {t : Str} {w : List Str} (h : w ∈ Vt t) : w ≠ [] ∧ ∀ x ∈ w, x ≠ [] := by
 obtain ⟨l, -, hl⟩ := List.mem_filterMap.1 h
 unfold Vw at hl
 split at hl
 · cases hl
 ·
  split at hl
  · cases hl
  ·
   injection hl with hl
   subst hl
   exact ⟨by assumption, fun x hx => Z1r _ _ x hx⟩
theorem Z79 (seg rest : Str) (h : ∀ b ∈ seg, b ≠ 10) : Vt (seg ++ 10 :: rest) = (Vw seg).toList ++ Vt rest := by
 unfold Vt
 rw [Z5e seg rest [] h, List.nil_append, List.filterMap_cons]
 cases Vw seg <;> rfl
theorem Zcz (seg : Str) (h : ∀ b ∈ seg, b ≠ 10) : Vt seg = (Vw seg).toList := by
 unfold Vt
 rw [Z5f seg [] h, List.nil_append, List.filterMap_cons]
 cases Vw seg <;> rfl
def okW (w : Str) : Prop := w ≠ [] ∧ ∀ b ∈ w, Vb b.toNat = false
theorem Z77 {w : Str} (h : okW w) : Xq Vb w [] = [w] := by
 have := Z1l (p := Vb) (l := []) w [] h.2
 rw [List.append_nil, List.nil_append] at this
 rw [this, Z4r h.1]
theorem Z36 {w rest : Str} (h : okW w) {b : UInt8} (hb : Vb b.toNat = true) : Xq Vb (w ++ b :: rest) [] = w :: Xq Vb rest [] := by
 rw [Z1l w [] h.2, List.nil_append, Z59 hb h.1]
end Go.Acq
namespace Go.Acq
open Go
theorem Z98 (x : Nat) : Le x = decide (x < 48 ∨ 57 < x) := by
 unfold Le Z07
 by_cases h1 : x < 48
 · rw [if_pos (by omega), decide_eq_true (by omega : x < 48 ∨ 57 < x)]; rfl
 ·
  rw [if_neg (by omega)]
  by_cases h2 : 57 < x
  · rw [decide_eq_true (by omega : (57 : Int) < x), decide_eq_true (by omega : x < 48 ∨ 57 < x)]; rfl
  · rw [decide_eq_false (by omega : ¬ (57 : Int) < x), decide_eq_false (by omega : ¬(x < 48 ∨ 57 < x))]; rfl
theorem any_dig (l : Str) : l.any (fun b => Le b.toNat) = !(l.all Gg) := by
 induction l with
 | nil => rfl
 | cons b l ih =>
  rw [List.any_cons, List.all_cons, ih, Z98, Bool.not_and]
  congr 1
  unfold Gg
  by_cases h : 48 ≤ b.toNat ∧ b.toNat ≤ 57
  · rw [decide_eq_true h, decide_eq_false (by omega : ¬(b.toNat < 48 ∨ 57 < b.toNat))]; rfl
  · rw [decide_eq_false h, decide_eq_true (by omega : b.toNat < 48 ∨ 57 < b.toNat)]; rfl
theorem s_Number (s : Str) : Z0s s = some (Vh s) := by
 unfold Z0s
 by_cases h1 : 19 < s.length
 ·
  rw [if_pos (by omega)]
  unfold Rw Vh
  rw [if_pos rfl, if_neg (by omega)]
 ·
  rw [if_neg (by omega)]
  unfold Z2n Rw
  rw [anyT_any (fun r h => by rw [Z98]; exact decide_eq_true (by omega)), any_dig, Option.bind_some]
  by_cases h2 : s.all Gg = true
  ·
   rw [h2, if_neg (by simp)]
   unfold Z40
   rw [Xr ⟨by omega, rfl, rfl⟩, Option.bind_some]
   by_cases h3 : s = []
   · subst h3; rfl
   ·
    rw [Zb0 h2 h3 (by omega)]
    unfold Vh
    by_cases h4 : Un 0 s < 9223372036854775808
    · rw [if_pos h4, if_pos ⟨h2, h3, by omega, h4⟩]; rfl
    · rw [if_neg h4, if_neg (fun h => h4 h.2.2.2)]; rfl
  ·
   rw [Bool.eq_false_iff.2 h2, if_pos (by simp)]
   unfold Vh
   rw [if_neg (fun h => h2 h.1)]
def Jv (s : Str) (lo hi : Int) : Bool := (Vh s).2 && decide (lo ≤ (Vh s).1 ∧ (Vh s).1 ≤ hi)
theorem Z3n (s : Str) (lo hi : Int) : Nl s lo hi = some ((Vh s).1, Jv s lo hi) := by
 unfold Nl Jv
 rw [s_Number, Option.bind_some]
 cases h : (Vh s).2 with
 | false => simp only; rw [if_neg (by rw [h]; decide)]; rfl
 | true =>
  simp only
  rw [if_pos h]
  by_cases h1 : lo ≤ (Vh s).1
  · rw [if_pos h1, Bool.true_and]; congr 2; exact decide_eq_decide.2 ⟨fun h => ⟨h1, h⟩, fun h => h.2⟩
  · rw [if_neg h1, Bool.true_and, decide_eq_false (fun h => h1 h.1)]
theorem numB_iff {s : Str} {lo hi : Int} : Jv s lo hi = true ↔ (Vh s).2 = true ∧ lo ≤ (Vh s).1 ∧ (Vh s).1 ≤ hi := by
 unfold Jv; rw [Bool.and_eq_true, decide_eq_true_eq]
theorem Z3g {n lo hi : Int} (h0 : 0 ≤ n) (h1 : n ≤ 9223372036854775807) (h2 : lo ≤ n) (h3 : n ≤ hi) : Jv (Yd n) lo hi = true := by
 rw [numB_iff, Z5z h0 h1]; exact ⟨rfl, h2, h3⟩
def Gj (a : Arc) (w : List Str) : Bool := decide (w.length = 4 ∧ w.getD 0 [] = [102]) && (Jv (w.getD 3 []) 0 a.cap && (Jv (w.getD 1 []) (a.fr + 1) (a.fr + 1) && Jv (w.getD 2 []) (a.to + 1) (a.to + 1)))
def flowV (w : List Str) : Int := (Vh (w.getD 3 [])).1
theorem s_flowed {a : Arc} (w : List Str) (hf : 0 ≤ a.fr ∧ a.fr ≤ 1000000) (ht : 0 ≤ a.to ∧ a.to ≤ 1000000) (hw : w.length ≤ 9223372036854775807) : Ok (Z0p a w) (fun r => r.2 = Gj a w ∧ (r.2 = true → r.1 = flowV w)) := by
 unfold Z0p
 have t1 : Rv a w true = some (0, false) := rfl
 refine Ok.ite.2 ⟨fun h => ?_, fun h => ?_⟩
 ·
  rw [t1]
  refine Ok.some.2 ⟨?_, fun h => (by cases h)⟩
  unfold Gj
  rw [decide_eq_false (by omega)]; rfl
 ·
  refine Ok.gd.2 ⟨(by (first | omega | (constructor <;> omega) | (simp only [List.length_set, List.length_replicate]; omega) | (simp only [List.length_set, List.length_replicate]; constructor <;> omega))), ?_⟩
  rw [Int.toNat_zero]
  by_cases h0 : w.getD 0 [] = [102]
  ·
   rw [decide_eq_false (by simpa using h0)]
   unfold Rv Gj
   rw [if_neg (by simp), decide_eq_true (by exact ⟨by omega, h0⟩)]
   refine Ok.gd.2 ⟨(by (first | omega | (constructor <;> omega) | (simp only [List.length_set, List.length_replicate]; omega) | (simp only [List.length_set, List.length_replicate]; constructor <;> omega))), Ok.gd.2 ⟨(by (first | omega | (constructor <;> omega) | (simp only [List.length_set, List.length_replicate]; omega) | (simp only [List.length_set, List.length_replicate]; constructor <;> omega))), Ok.gd.2 ⟨(by (first | omega | (constructor <;> omega) | (simp only [List.length_set, List.length_replicate]; omega) | (simp only [List.length_set, List.length_replicate]; constructor <;> omega))), Ok.bind.2 (Vr (Z3n ..) (Ok.gd.2 ⟨(by (first | omega | (constructor <;> omega) | (simp only [List.length_set, List.length_replicate]; omega) | (simp only [List.length_set, List.length_replicate]; constructor <;> omega))), Ok.gd.2 ⟨(by (first | omega | (constructor <;> omega) | (simp only [List.length_set, List.length_replicate]; omega) | (simp only [List.length_set, List.length_replicate]; constructor <;> omega))), Ok.gd.2 ⟨(by (first | omega | (constructor <;> omega) | (simp only [List.length_set, List.length_replicate]; omega) | (simp only [List.length_set, List.length_replicate]; constructor <;> omega))), Ok.bind.2 (Vr (Z3n ..) (Ok.gd.2 ⟨(by (first | omega | (constructor <;> omega) | (simp only [List.length_set, List.length_replicate]; omega) | (simp only [List.length_set, List.length_replicate]; constructor <;> omega))), Ok.bind.2 (Vr (Z3n ..) ?_)⟩))⟩⟩⟩))⟩⟩⟩
   simp only
   have e1 : (1 : Int).toNat = 1 := rfl
   have e2 : (2 : Int).toNat = 2 := rfl
   have e3 : (3 : Int).toNat = 3 := rfl
   rw [e1, e2, e3, Bool.true_and]
   refine Ok.ite.2 ⟨fun h1 => Ok.ite.2 ⟨fun h2 => Ok.some.2 ?_, fun h2 => Ok.some.2 ?_⟩, fun h1 => Ok.some.2 ?_⟩
   · rw [h1, h2]; exact ⟨rfl, fun _ => rfl⟩
   · rw [h1, Bool.eq_false_iff.2 h2]; exact ⟨rfl, fun h => (by cases h)⟩
   · rw [Bool.eq_false_iff.2 h1]; exact ⟨rfl, fun h => (by cases h)⟩
  ·
   rw [decide_eq_true (by simpa using h0), t1]
   refine Ok.some.2 ⟨?_, fun h => (by cases h)⟩
   unfold Gj
   rw [decide_eq_false (fun h => h0 h.2)]; rfl
def Vu : List Arc → List (List Str) → Option (List Int)
  | [], [] => some []
  | a :: al, w :: ws => if Gj a w = true then (Vu al ws).map (flowV w :: ·) else none
  | [], _ :: _ => none
  | _ :: _, [] => none
theorem Z69 : ∀ (al : List Arc) (ws : List (List Str)) (f : List Int), Vu al ws = some f → f.length = al.length ∧ ws.length = al.length ∧ ∀ i, i < al.length → 0 ≤ f.getD i 0 ∧ f.getD i 0 ≤ (al.getD i default).cap
 | [], [], f, h => by injection h with h; subst h; exact ⟨rfl, rfl, fun i hi => by simp at hi⟩
 | a :: al, w :: ws, f, h => by
  rw [Vu] at h
  split at h
  ·
   rename_i hb
   obtain ⟨g, hg, rfl⟩ := Option.map_eq_some_iff.1 h
   obtain ⟨h1, h2, h3⟩ := Z69 al ws g hg
   refine ⟨by simp [h1], by simp [h2], fun i hi => ?_⟩
   cases i with
   | zero =>
    unfold Gj at hb
    rw [Bool.and_eq_true, Bool.and_eq_true, numB_iff] at hb
    exact hb.2.1.2
   | succ i => exact h3 i (by simpa using hi)
  · cases h
 | [], _ :: _, _, h => by cases h
 | _ :: _, [], _, h => by cases h
theorem s_readN {n : Net} (hk : Uj n.N n.S n.T n.Arcs = 0) : ∀ (ws : List (List Str)) (first : Str) (f : List Int), (∀ w ∈ ws, w.length ≤ 9223372036854775807) → first ≠ [] → f.length ≤ n.Arcs.length →
    Ok (Kv (fun (s : Str × List Int) v => Nd n s.1 s.2 v) (first, f) ws) (fun t => match t with
      | .inl s => s.1 = first ∧ s.2.length ≤ n.Arcs.length ∧ (s.2.length = n.Arcs.length → ∃ g, s.2 = f ++ g ∧ Vu (n.Arcs.drop f.length) ws = some g) ∧ (s.2.length < n.Arcs.length → Vu (n.Arcs.drop f.length) ws = none)
      | .inr _ => Vu (n.Arcs.drop f.length) ws = none) := by
  have hz := Jf hk
  obtain ⟨m, hm⟩ : ∃ m : Nat, n.N = m := ⟨n.N.toNat, by omega⟩
  have he : Jy m n.Arcs := Z5n (by rw [← hm]; exact hz.2.2.2.1)
  intro ws
  induction ws with
  | nil =>
    intro first f _ hf hl
    refine Ok.some.2 ⟨rfl, hl, fun h => ⟨[], by simp, ?_⟩, fun h => ?_⟩
    · simp only at h
      rw [List.drop_eq_nil_of_le (by omega)]; rfl
    · rw [List.drop_eq_getElem_cons h]; rfl
  | cons w ws ih =>
    intro first f hw hf hl
    refine Ok.bind.2 ?_
    simp only
    unfold Nd
    rw [if_neg hf]
    refine Ok.ite.2 ⟨fun h => Ok.some.2 (Ok.some.2 ?_), fun h => ?_⟩
    · simp only
      rw [List.drop_eq_nil_of_le (by omega)]; rfl
    · have hlt : f.length < n.Arcs.length := by omega
      have h2 : 0 ≤ (n.Arcs.getD f.length default).fr ∧ (n.Arcs.getD f.length default).fr < m := by first | exact he f.length hlt true | exact he f.length hlt false
      have h3 : 0 ≤ (n.Arcs.getD f.length default).to ∧ (n.Arcs.getD f.length default).to < m := by first | exact he f.length hlt false | exact he f.length hlt true
      have hd : n.Arcs.drop f.length = n.Arcs.getD f.length default :: n.Arcs.drop (f.length + 1) := by
        rw [List.drop_eq_getElem_cons hlt, List.getD_eq_getElem?_getD, List.getElem?_eq_getElem hlt]; rfl
      refine Ok.gd.2 ⟨(by (first | omega | (constructor <;> omega) | (simp only [List.length_set, List.length_replicate]; omega) | (simp only [List.length_set, List.length_replicate]; constructor <;> omega))), Ok.bind.2 (Ok.mono (s_flowed w (by rw [Int.toNat_natCast]; omega) (by rw [Int.toNat_natCast]; omega) (hw _ (.head _))) ?_)⟩
      rw [Int.toNat_natCast]
      rintro ⟨x, b⟩ ⟨hb, hx⟩
      simp only at hb hx ⊢
      subst hb
      rw [hd]
      refine Ok.ite.2 ⟨fun h => Ok.some.2 (Ok.some.2 ?_), fun h => Ok.gd.2 ⟨?_, Ok.some.2 ?_⟩⟩
      · simp only
        rw [Vu, if_neg (by simpa using h)]
      · rw [List.length_append, List.length_singleton]; constructor <;> omega
      · have hb : Gj (n.Arcs.getD f.length default) w = true := by simpa using h
        simp only
        refine Ok.mono (ih first (f ++ [x]) (fun w' h => hw w' (.tail _ h)) hf (by rw [List.length_append, List.length_singleton]; omega)) fun t ht => ?_
        rw [List.length_append, List.length_singleton] at ht
        cases t with
        | inl s =>
          obtain ⟨g1, g2, g3, g4⟩ := ht
          refine ⟨g1, g2, fun h => ?_, fun h => ?_⟩
          · obtain ⟨g, h5, h6⟩ := g3 h
            refine ⟨x :: g, by rw [h5, List.append_assoc]; rfl, ?_⟩
            rw [Vu, if_pos hb, h6, hx hb]; rfl
          · rw [Vu, if_pos hb, g4 h]; rfl
        | inr s =>
          simp only at ht ⊢
          rw [Vu, if_pos hb, ht]; rfl
theorem s_read {n : Net} {t : Str} (hk : Uj n.N n.S n.T n.Arcs = 0) (hl : t.length ≤ 4294967296) (hw : ∀ w ∈ Vt t, w.length ≤ 9223372036854775807) :
    Ok (Z0o n (ub t)) (fun r => (r.2.2 = true ∧ ∃ ws, Vt t = [[115], r.1] :: ws ∧ Vu n.Arcs ws = some r.2.1) ∨ (r.2.2 = false ∧ ¬∃ first f ws, Vt t = [[115], first] :: ws ∧ Vu n.Arcs ws = some f)) := by
  unfold Z0o Z06
  rw [Option.bind_some, Z76 _ t _ hl]
  cases hs : Vt t with
  | nil => exact Ok.some.2 (.inr ⟨rfl, fun ⟨_, _, _, h, _⟩ => by cases h⟩)
  | cons w0 ws =>
    rw [hs] at hw
    have h1 := hw w0 (.head _)
    have hne := saidT_ne (t := t) (w := w0) (by rw [hs]; exact .head _)
    refine Ok.bind.2 (Ok.bind.2 ?_)
    simp only
    unfold Nd
    rw [if_pos rfl]
    have bad : ¬(w0.length = 2 ∧ w0.getD 0 [] = [115]) → ¬∃ (first : Str) (f : List Int) (ws' : List (List Str)), w0 :: ws = [[115], first] :: ws' ∧ Vu n.Arcs ws' = some f := by
      rintro h ⟨first, f, ws', e, -⟩
      injection e with e _
      exact h (by rw [e]; exact ⟨rfl, rfl⟩)
    have t2 : Ro [] [] w0 true = some (.inr ([], [])) := rfl
    refine Ok.ite.2 ⟨fun h => ?_, fun h => ?_⟩
    · rw [t2]
      exact Ok.some.2 (Ok.some.2 (Ok.some.2 (.inr ⟨rfl, bad (fun h2 => by omega)⟩)))
    · refine Ok.gd.2 ⟨(by (first | omega | (constructor <;> omega) | (simp only [List.length_set, List.length_replicate]; omega) | (simp only [List.length_set, List.length_replicate]; constructor <;> omega))), ?_⟩
      rw [Int.toNat_zero]
      by_cases h0 : w0.getD 0 [] = [115]
      · rw [decide_eq_false (by simpa using h0)]
        unfold Ro
        rw [if_neg (by simp)]
        obtain ⟨u, v, rfl⟩ : ∃ u v, w0 = [u, v] := by
          match w0, h with
          | [u, v], _ => exact ⟨u, v, rfl⟩
          | [], h => simp at h
          | [_], h => simp at h
          | _ :: _ :: _ :: _, h => simp at h; omega
        simp only [List.getD_cons_zero] at h0
        subst h0
        have hv : v ≠ [] := hne.2 v (by simp)
        refine Ok.gd.2 ⟨by constructor <;> simp, Ok.some.2 ?_⟩
        have e1 : List.getD [[115], v] (1 : Int).toNat ([] : Str) = v := rfl
        rw [e1]
        simp only
        refine Ok.mono (s_readN hk ws v [] (fun w h => hw w (.tail _ h)) hv (Nat.zero_le _)) fun t ht => ?_
        rw [List.length_nil, List.drop_zero] at ht
        cases t with
        | inl s =>
          obtain ⟨first, f⟩ := s
          obtain ⟨g1, g2, g3, g4⟩ := ht
          simp only at g1 g2 g3 g4 ⊢
          subst g1
          rw [if_pos hv]
          refine Ok.some.2 ?_
          by_cases h5 : f.length = n.Arcs.length
          · obtain ⟨g, h6, h7⟩ := g3 h5
            rw [List.nil_append] at h6
            exact .inl ⟨decide_eq_true (by omega), ws, rfl, by rw [h7, h6]⟩
          · refine .inr ⟨decide_eq_false (by omega), ?_⟩
            rintro ⟨_, f', ws', e, h7⟩
            injection e with _ e
            subst e
            rw [g4 (by omega)] at h7; cases h7
        | inr s =>
          refine Ok.some.2 (.inr ⟨rfl, ?_⟩)
          rintro ⟨_, f', ws', e, h7⟩
          injection e with _ e
          subst e
          simp only at ht
          rw [ht] at h7; cases h7
      · rw [decide_eq_true (by simpa using h0), t2]
        exact Ok.some.2 (Ok.some.2 (Ok.some.2 (.inr ⟨rfl, bad (fun h2 => h0 h2.2)⟩)))
theorem Zca (l : Str) : (Xo l).length ≤ l.length + 1 := by
 have key : ∀ (l cur : Str), (Xq Vb l cur).length ≤ l.length + 1 := by
  intro l
  induction l with
  | nil => intro cur; rw [Xq]; split <;> simp
  | cons b l ih =>
   intro cur
   rw [Xq]
   split
   ·
    split
    · have := ih []; rw [List.length_cons]; omega
    · have := ih []; rw [List.length_cons, List.length_cons]; omega
   · have := ih (cur ++ [b]); rw [List.length_cons]; omega
 exact key l []
theorem Z7d {t : Str} (hl : t.length ≤ 4294967296) : ∀ w ∈ Vt t, w.length ≤ 9223372036854775807 := by
 intro w h
 obtain ⟨l, hm, hl'⟩ := List.mem_filterMap.1 h
 have h1 := Z3p t [] l hm
 have h2 := Zca l
 rw [List.length_nil] at h1
 unfold Vw at hl'
 split at hl'
 · cases hl'
 ·
  split at hl'
  · cases hl'
  ·
   injection hl' with hl'
   rw [← hl']; omega
def Xy (n : Net) (f : List Int) : Int := ex n.Arcs f n.T n.Arcs.length
theorem Z4f {n : Net} {f : List Int} (hw : FwithinP n f) : -4611686018427387904 ≤ Xy n f ∧ Xy n f ≤ 4611686018427387904 := by
 have h1 := hw.tot n.Arcs.length (Nat.le_refl _)
 have h2 := ex_le (al := n.Arcs) (f := f) n.T (fun i hi => (hw.2.2 i hi).1) n.Arcs.length (Nat.le_refl _)
 unfold Xy
 omega
theorem Z9d {n : Net} {f : List Int} (hl : lenok n.Arcs.length) : Ok (Z0b n f) (fun r => (FwithinP n f ∧ r = (Yd (Xy n f), 0)) ∨ (¬FwithinP n f ∧ r = ([], 20))) := by
 unfold Z0b
 refine Ok.bind.2 (Ok.mono (s_Excess hl) ?_)
 rintro ⟨xs, e⟩ (⟨hw, h0, hxl, hx⟩ | ⟨h, h0⟩)
 ·
  simp only at h0 hxl hx ⊢
  subst h0
  rw [if_neg (by simp)]
  have hz := Jf hw.1
  simp only [Ui, decide_eq_true_eq] at hz
  have h5 := hx n.T.toNat (by omega)
  rw [Int.toNat_of_nonneg (by omega)] at h5
  have h6 := Z4f hw
  unfold Xy at h6
  refine Ok.gd.2 ⟨(by (first | omega | (constructor <;> omega) | (simp only [List.length_set, List.length_replicate]; omega) | (simp only [List.length_set, List.length_replicate]; constructor <;> omega))), ?_⟩
  unfold La Z12
  rw [h5]
  refine Ok.bind.2 (Ok.bind.2 (Ok.gd.2 ⟨⟨(by (first | omega | (constructor <;> omega) | (simp only [List.length_set, List.length_replicate]; omega) | (simp only [List.length_set, List.length_replicate]; constructor <;> omega))), rfl⟩, Ok.some.2 (Ok.some.2 (Ok.some.2 (.inl ⟨hw, rfl⟩)))⟩))
 ·
  injection h0 with h0 h1
  subst h0 h1
  simp only
  rw [if_pos (by simp)]
  exact Ok.some.2 (.inr ⟨h, rfl⟩)
theorem Zas {n : Net} {t : Str} (hk : Uj n.N n.S n.T n.Arcs = 0) (hl : t.length ≤ 4294967296) :
    Ok (Lf n (ub t)) (fun r => (r.2 = 0 ∧ FwithinP n r.1 ∧ ∃ ws, Vt t = [[115], Yd (Xy n r.1)] :: ws ∧ Vu n.Arcs ws = some r.1) ∨ (r = ([], 70) ∧ ¬∃ f ws, Vt t = [[115], Yd (Xy n f)] :: ws ∧ Vu n.Arcs ws = some f)) := by
  have hz := Jf hk
  have hll : lenok n.Arcs.length := by omega
  unfold Lf
  refine Ok.bind.2 (Vr (Z0r n hll) ?_)
  rw [if_neg (by rw [hk]; simp)]
  refine Ok.bind.2 (Ok.mono (s_read hk hl (Z7d hl)) ?_)
  rintro ⟨first, f, b⟩ (⟨h1, ws, h2, h3⟩ | ⟨h1, h2⟩)
  · simp only at h1 h2 h3 ⊢
    subst h1
    rw [if_neg (by simp)]
    obtain ⟨g1, g2, g3⟩ := Z69 _ _ _ h3
    have hw : FwithinP n f := ⟨hk, g1, g3⟩
    refine Ok.bind.2 (Ok.mono (Z9d hll) ?_)
    rintro ⟨w, e⟩ (⟨-, h5⟩ | ⟨h5, -⟩)
    · injection h5 with h5 h6
      subst h5 h6
      simp only
      rw [if_neg (by simp)]
      by_cases h7 : Yd (Xy n f) = first
      · rw [decide_eq_false (by simpa using h7)]
        exact Ok.some.2 (.inl ⟨rfl, hw, ws, by rw [h2, h7], h3⟩)
      · rw [decide_eq_true (by simpa using h7)]
        refine Ok.some.2 (.inr ⟨rfl, ?_⟩)
        rintro ⟨f', ws', e1, e2⟩
        rw [h2] at e1
        injection e1 with e1 e3
        subst e3
        rw [h3] at e2
        injection e2 with e2
        subst e2
        injection e1 with _ e1
        injection e1 with e1 _
        exact h7 e1.symm
    · exact absurd hw h5
  · simp only at h1 h2 ⊢
    subst h1
    rw [if_pos (by simp)]
    exact Ok.some.2 (.inr ⟨rfl, fun ⟨f', ws', e1, e2⟩ => h2 ⟨_, f', ws', e1, e2⟩⟩)
end Go.Acq
