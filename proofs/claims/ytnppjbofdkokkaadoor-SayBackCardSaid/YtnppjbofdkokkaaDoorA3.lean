/- Texts of this claim, one behind the other. -/
import Derived.Test.YtnppjbofdkokkaaDoorA2
import Derived.Test.YtnppjbofdkokkaaDoorA1
import Derived.Lib.ParseIntBTie
set_option linter.unusedVariables false
set_option linter.unusedSimpArgs false
namespace Go.Proofs.YtnppjbofdkokkaaDoor.Ax
open Go Go.Acq Go.RowKit Go.Proofs
set_option maxHeartbeats 8000000
set_option maxRecDepth 20000
theorem Z6t : Uy Tryd.prog 4 = some 1 := by kernel_rfl
theorem Z01 : Yb Tryd.prog 10 = true := by kernel_rfl
theorem Z36 : Yb Tryd.prog 11 = true := by kernel_rfl
theorem Z1f : Yb Tryd.prog 12 = true := by kernel_rfl
theorem Z5o : Yb Tryd.prog 13 = true := by kernel_rfl
theorem Nz : Yb Tryd.prog 15 = true := by kernel_rfl
theorem Z62 : Yb Tryd.prog 16 = true := by kernel_rfl
theorem Z3p : Yb Tryd.prog 17 = true := by kernel_rfl
theorem Zb7 : Yb Tryd.prog 18 = true := by kernel_rfl
theorem Z7g : Yb Tryd.prog 19 = true := by kernel_rfl
theorem Z77 : Yb Tryd.prog 20 = true := by kernel_rfl
theorem Zal : Yb Tryd.prog 21 = true := by kernel_rfl
theorem Z3l : Yb Tryd.prog 22 = true := by kernel_rfl
theorem Z80 : Yb Tryd.prog 23 = true := by kernel_rfl
theorem Z2o : Yb Tryd.prog 24 = true := by kernel_rfl
theorem Zc4 : Yb Tryd.prog 26 = true := by kernel_rfl
theorem Zc9 : Yb Tryd.prog 29 = true := by kernel_rfl
theorem Z9z : Yb Tryd.prog 30 = true := by kernel_rfl
theorem Z5j : Yb Tryd.prog 32 = true := by kernel_rfl
theorem Z90 : Yb Tryd.prog 33 = true := by kernel_rfl
theorem Zbi : Yb Tryd.prog 34 = true := by kernel_rfl
theorem Zab : Yb Tryd.prog 35 = true := by kernel_rfl
theorem Zbp : Yb Tryd.prog 49 = true := by kernel_rfl
theorem Zay : Yb Tryd.prog 50 = true := by kernel_rfl
theorem Zc8 : Yb Tryd.prog 51 = true := by kernel_rfl
theorem Zbd : Yb Tryd.prog 52 = true := by kernel_rfl
theorem Za3 : Yb Tryd.prog 53 = true := by kernel_rfl
theorem Z8w : Yb Tryd.prog 54 = true := by kernel_rfl
theorem Z99 : Yb Tryd.prog 63 = true := by kernel_rfl
theorem Zbo : Yb Tryd.prog 65 = true := by kernel_rfl
theorem Z37 : Yb Tryd.prog 7 = true := by kernel_rfl
theorem Zac : Yb Tryd.prog 76 = true := by kernel_rfl
theorem Ri : Yb Tryd.prog 8 = true := by kernel_rfl
theorem Z3u : Yb Tryd.prog 9 = true := by kernel_rfl
theorem Zbq : ExtF Tryd.prog 89 (Extern.BytealgIndexByte.indexByte) := ⟨Tryd.f89, Tryd.func89, by kernel_rfl, rfl, by kernel_rfl, by kernel_rfl⟩
theorem We : Yu Tryd.prog 27 = some 5 := by kernel_rfl
theorem Wp : Yu Tryd.prog 66 = some 9 := by kernel_rfl
theorem Gw : Yg Tryd.prog 25 = some 1 := by kernel_rfl
theorem Z00 : Yg Tryd.prog 26 = some 1 := by kernel_rfl
theorem Z8o : Yg Tryd.prog 27 = some 1 := by kernel_rfl
theorem Z2f : Yg Tryd.prog 31 = some 1 := by kernel_rfl
theorem Jc : Yg Tryd.prog 5 = some 1 := by kernel_rfl
theorem Ve : Yg Tryd.prog 9 = some 1 := by kernel_rfl
theorem Je : Xa Tryd.prog 25 = true := by kernel_rfl
theorem Rp : Xa Tryd.prog 26 = true := by kernel_rfl
theorem Kg : Xa Tryd.prog 27 = true := by kernel_rfl
theorem TWDSY.s5 : Xa Tryd.prog 5 = true := by kernel_rfl
theorem Z98 : Xa Tryd.prog 81 = true := by kernel_rfl
theorem Wz : Xa Tryd.prog 9 = true := by kernel_rfl
theorem Na : Lb Tryd.prog 9 = true := by kernel_rfl
theorem Nn : Tryd.prog.underlying 5 = some (.int .u8) := by kernel_rfl
theorem Z9t : Rv Tryd.prog 54 = true := by kernel_rfl
theorem Z7v : Xq Tryd.prog 25 = some (.slice none 0 0) := by kernel_rfl
theorem Z5e : Xq Tryd.prog 26 = some (.slice none 0 0) := by kernel_rfl
theorem Zbz : Xq Tryd.prog 31 = some (iV 0) := by kernel_rfl
theorem Rr : Xq Tryd.prog 4 = some (.bool false) := by kernel_rfl
theorem Z1q : Xq Tryd.prog 5 = some (.int .u8 0) := by kernel_rfl
theorem Z5b : Xq Tryd.prog 52 = some (.agg #[.slice none 0 0, iV 0, .int .i8 0]) := by kernel_rfl
theorem Z6f : Xq Tryd.prog 9 = some (.string ByteArray.empty) := by kernel_rfl
theorem Z9r : ElemT Tryd.prog 25 2 1 8 (iV 0) := ⟨Xh, Xp, Z3z, Gf, rfl⟩
theorem Z9p {c0 : Int} (w : World) {r0 : Bool} (H : Lt c0 = some r0) : Fnc Tryd.prog 51 #[.int .i32 c0] w [] (fun v N => v = .bool r0 ∧ N = []) := by
 unfold Lt at H; refine Fnc.enter (vs := [.int .i32 c0]) Tryd.func51 rfl rfl (Inv.refl w) ?_; refine sR Y1 rfl ?_; refine aN Za ?_; refine Zi ?_; rcases Zp H with ⟨g1, H⟩ | ⟨g1, H⟩
 · refine rG Y11 rfl ?_; refine Zc Za ?_; refine Zo Zm ?_; refine Zc Za ?_; refine Zr (t := 5) (b' := true) rfl (decide_eq_true g1) ?_; refine Ze Za ?_; refine Ze Za ?_; refine Yf Zb ?_; refine Zc Za ?_; refine Ze Za ?_; refine Ze Za ?_; refine Yf Zb ?_; refine aN Za ?_; refine Zn (aT [2] rfl) ?_; refine T.ret ?_; obtain rfl := ret1 H; exact Zy Za (Res.tmp rfl) Zg ⟨rfl, rfl⟩
 ·
  rcases Zp H with ⟨g2, H⟩ | ⟨g2, H⟩
  · refine rG Y11 rfl ?_; refine Zc Za ?_; refine Zo Zm ?_; refine Zc Za ?_; refine Zr (t := 5) (b' := false) rfl (decide_eq_false g1) ?_; refine Zc Za ?_; refine Zo Zm ?_; refine Yc Zb ?_; refine Zc Za ?_; refine Zr (t := 9) (b' := true) rfl (decide_eq_true g2) ?_; refine Ze Za ?_; refine Ze Za ?_; refine Yf Zb ?_; refine aN Za ?_; refine Zn (aT [2] rfl) ?_; refine T.ret ?_; obtain rfl := ret1 H; exact Zy Za (Res.tmp rfl) Zg ⟨rfl, rfl⟩
  · refine rG Y11 rfl ?_; refine Zc Za ?_; refine Zo Zm ?_; refine Zc Za ?_; refine Zr (t := 5) (b' := false) rfl (decide_eq_false g1) ?_; refine Zc Za ?_; refine Zo Zm ?_; refine Yc Zb ?_; refine Zc Za ?_; refine Zr (t := 9) (b' := false) rfl (decide_eq_false g2) ?_; refine Zc Za ?_; refine Zo Zm ?_; refine Yc Zb ?_; refine aN Za ?_; refine Zn (aT [2] rfl) ?_; refine T.ret ?_; obtain rfl := ret1 H; exact Zy Za (Res.tmp rfl) Zg ⟨rfl, rfl⟩
theorem Zbw : PredF Tryd.prog 51 Wf := by
 intro w x hx; have ht : ∃ b, Lt (x : Int) = some b := by
  simp only [Lt]; (repeat' split) <;> exact ⟨_, rfl⟩
 obtain ⟨b, hb⟩ := ht; refine Fnc.mono (Z9p w hb) ?_; rintro v N ⟨rfl, rfl⟩; refine ⟨?_, rfl⟩; unfold Wf; rw [hb]; cases b <;> rfl
theorem Z9j (w : World) {s0 : Str} {r0 : List Str} (H : Z17 s0 = some r0) : Fnc Tryd.prog 50 #[.string (bs s0), .func (.func 51) #[] #[]] w [] (fun v N => ∃ (a2 : Option Nat) (a3 a4 : Nat) (a5 : List Value), v = sV a2 a3 a4 ∧ N = [(eA a2 Ud r0 a5 9)] ∧ r0.length = a3 ∧ a3 ≤ a4 ∧ a5.length = (a4 - a3) * 1 ∧ (a2 = none → a4 = 0)) := by
 unfold Z17 at H; obtain ⟨g, H⟩ := Ye H; injection H with H; exact Zbf Zah 51 Zc8 Wf Zbw (by kernel_rfl) (by kernel_rfl) s0 g w H
theorem Zaz {line0 : List Int} {a2 : Option Addr} {a3 a4 : Nat} (w : World) (a5 : RS w [] (intC .u8) 1 a2 a3 a4 line0) {r0 : List Str} (H : Rh line0 = some r0) : Fnc Tryd.prog 34 #[.slice a2 a3 a4] w [] (fun v N => ∃ (a6 : Option Nat) (a7 a8 : Nat) (b5 : List Value), v = sV a6 a7 a8 ∧ N = [(eA a6 Ud r0 b5 9)] ∧ r0.length = a7 ∧ a7 ≤ a8 ∧ b5.length = (a8 - a7) * 1 ∧ (a6 = none → a8 = 0)) := by
 unfold Rh at H; refine Fnc.enter (vs := [.slice a2 a3 a4]) Tryd.func34 rfl rfl (Inv.refl w) ?_; refine sR Y1 rfl ?_; refine aN Za ?_; refine Zi ?_; obtain ⟨r1, e2, H⟩ := Zq H; refine rG Y4 rfl ?_; refine Zc Za ?_; refine Z4p (xs := line0) Za We Nn Na (fun wc hwc => (a5.mono hwc)) ?_; refine Zw Zay Za (fun wc hwc => Z9j (s0 := (bu line0)) wc  e2) ?_; rintro _ _ ⟨b6, n4, c5, j6, rfl, rfl, b7, b8, b9, a9⟩; refine aN Za ?_; refine T.ret ?_; obtain rfl := ret1 H; exact Zy Za (Res.tmp rfl) (Zf Zh Zg) ⟨b6, n4, c5, j6, rfl, rfl, b7, b8, b9, a9⟩
theorem Zas {c0 : Int} (w : World) {r0 : Bool} (H : Nq c0 = some r0) : Fnc Tryd.prog 52 #[.int .i32 c0] w [] (fun v N => v = .bool r0 ∧ N = []) := by
 unfold Nq at H; refine Fnc.enter (vs := [.int .i32 c0]) Tryd.func52 rfl rfl (Inv.refl w) ?_; refine sR Y1 rfl ?_; refine aN Za ?_; refine Zi ?_; rcases Zp H with ⟨g1, H⟩ | ⟨g1, H⟩
 · refine rG Y7 rfl ?_; refine Zc Za ?_; refine Zo Zm ?_; refine Zc Za ?_; refine Zr (t := 5) (b' := true) rfl (decide_eq_true g1) ?_; refine Ze Za ?_; refine Ze Za ?_; refine Yf Zb ?_; refine aN Za ?_; refine T.ret ?_; obtain rfl := ret1 H; exact Zy Za (Res.tmp rfl) Zg ⟨rfl, rfl⟩
 · refine rG Y7 rfl ?_; refine Zc Za ?_; refine Zo Zm ?_; refine Zc Za ?_; refine Zr (t := 5) (b' := false) rfl (decide_eq_false g1) ?_; refine Zc Za ?_; refine Zo Zm ?_; refine Yc Zb ?_; refine aN Za ?_; refine T.ret ?_; obtain rfl := ret1 H; exact Zy Za (Res.tmp rfl) Zg ⟨rfl, rfl⟩
theorem Zc3 : PredF Tryd.prog 52 Gu := by
 intro w x hx; have ht : ∃ b, Nq (x : Int) = some b := by
  simp only [Nq]; (repeat' split) <;> exact ⟨_, rfl⟩
 obtain ⟨b, hb⟩ := ht; refine Fnc.mono (Zas w hb) ?_; rintro v N ⟨rfl, rfl⟩; refine ⟨?_, rfl⟩; unfold Gu; rw [hb]; cases b <;> rfl
theorem Zcf (w : World) {s0 : Str} {r0 : Bool} (H : Z2l s0 = some r0) : Fnc Tryd.prog 53 #[.string (bs s0), .func (.func 52) #[] #[]] w [] (fun v N => v = .bool r0 ∧ N = []) := by
 unfold Z2l at H; injection H with H; subst H; exact Fnc.anyf Zb8 52 Zbd Gu Zc3 s0 w
theorem Z9q (w : World) {s0 : Str} {i1 i2 : Int} (hG : GK Tryd.prog w []) {r0 : Int} {r1 : Bool} (H : Z24 s0 i1 i2 = some (r0, r1)) : Fnc Tryd.prog 54 #[.string (bs s0), iV i1, iV i2] w [] (fun v N => ∃ (a2 : Value), v = .tuple #[iV r0, a2] ∧ N = [] ∧ IfV a2 r1) := by
 unfold Z24 at H; obtain ⟨g, H⟩ := Ye H; injection H with H1; obtain ⟨g, rfl, rfl⟩ := g; exact Z9e Z95 s0 g w hG H1
theorem Z9b {s0 : Str} (w : World) (hG : GK Tryd.prog w []) {r0 : Int} {r1 : Bool} (H : Rq s0 = some (r0, r1)) : Fnc Tryd.prog 35 #[.string (bs s0)] w [] (fun v N => v = .tuple #[iV r0, .bool r1] ∧ N = []) := by
 unfold Rq at H; refine Fnc.enter (vs := [.string (bs s0)]) Tryd.func35 rfl rfl (Inv.refl w) ?_; refine sR Y2 rfl ?_; refine Zz Za ?_; refine aN Za ?_; refine sR Y1 rfl ?_; refine aN Za ?_; refine Zi ?_; refine Zi ?_; refine Wh (fun (x4 : Bool) => Lm s0 x4 = some (r0, r1)) (fun (x4 : Bool) => [(0, .string (bs s0)), (14, .bool x4)]) (fun (x4 : Bool) => []) ?_ ?_
 ·
  rcases Zp H with ⟨g1, H⟩ | ⟨g1, H⟩
  · refine rG Y8 rfl ?_; refine Zc Za ?_; refine Z79 (p := s0) Zb Na ?_; refine Zo Zm ?_; refine Zc Za ?_; refine Zr (t := 10) (b' := true) rfl (decide_eq_true g1) ?_; refine Ze Za ?_; refine Ze Za ?_; refine Ze Za ?_; refine Yf Zb ?_; refine Zj ?_; exact Xg true H (aF rfl) Zg
  · obtain ⟨r2, e3, H⟩ := Zq H; refine rG Y8 rfl ?_; refine Zc Za ?_; refine Z79 (p := s0) Zb Na ?_; refine Zo Zm ?_; refine Zc Za ?_; refine Zr (t := 10) (b' := false) rfl (decide_eq_false g1) ?_; refine Zc Za ?_; refine Zc Za ?_; refine Zw Za3 Za (fun wc hwc => Zcf (s0 := s0) wc  e3) ?_; rintro _ _ ⟨rfl, rfl⟩; refine Yc Zb ?_; refine Zj ?_; exact Xg r2 H (aF rfl) Zg
 ·
  rintro x4 H; unfold Lm at H; rcases Zp H with ⟨g5, H⟩ | ⟨g5, H⟩
  · refine Ys rfl g5 ?_; refine sR Y2 rfl ?_; refine Zz Za ?_; refine aN Za ?_; refine T.ret ?_; refine Zu ?_; obtain ⟨rfl, rfl⟩ := ret2 H; exact Xx Za (Res.tmp rfl) (Res.tmp rfl) Zg ⟨rfl, rfl⟩
  ·
   refine Xl rfl (Bool.eq_false_iff.2 g5) ?_; refine T.skip ?_; refine Ya ?_; refine Zi ?_; obtain ⟨⟨r6, r7⟩, e8, H⟩ := Zq H; refine rG Y7 rfl ?_; refine Zc Za ?_; refine Zw Z8w Za (fun wc hwc => Z9q (s0 := s0) (i1 := 10) (i2 := 64) wc (hG.mono hwc) e8) ?_; rintro _ _ ⟨a4, rfl, rfl, a2⟩; refine Zc Za ?_; refine TO.extract Zb ?_; refine TO.extract Zb ?_; refine Zz Za ?_; refine aN Za ?_; refine Zi ?_; refine sR Y2 rfl ?_; refine Zc Za ?_; refine Zat a2 Za Z9t ?_; refine dN ?_; refine Zn (aT [5, 21] rfl) ?_; rcases Zp H with ⟨a3, H⟩ | ⟨a3, H⟩
   · refine Ys rfl a3 ?_; refine sR Y2 rfl ?_; refine Zz Za ?_; refine aN Za ?_; refine T.ret ?_; refine Zu ?_; obtain ⟨rfl, rfl⟩ := ret2 H; exact Xx Za (Res.tmp rfl) (Res.tmp rfl) Zg ⟨rfl, rfl⟩
   · refine Xl rfl (Bool.eq_false_iff.2 a3) ?_; refine T.skip ?_; refine Ya ?_; refine sR Y3 rfl ?_; refine Zc Za ?_; refine Zz Za ?_; refine aN Za ?_; refine T.ret ?_; obtain ⟨rfl, rfl⟩ := ret2 H; exact Xx Za (Res.tmp rfl) (Res.tmp rfl) Zg ⟨rfl, rfl⟩
theorem Z9h (w : World) {i0 i1 : Int} (hG : GK Tryd.prog w []) {r0 : Str} (H : Rd i0 i1 = some r0) : Fnc Tryd.prog 29 #[iV i0, iV i1] w [] (fun v N => v = .string (bs r0) ∧ N = []) := by
 unfold Rd at H; obtain ⟨g, H⟩ := Ye H; injection H with H; subst H; obtain ⟨g, rfl⟩ := g; exact Zap Z8i i0 g w hG
theorem Z7f {n0 : Int} (w : World) (hG : GK Tryd.prog w []) {r0 : Str} (H : Gl n0 = some r0) : Fnc Tryd.prog 19 #[iV n0] w [] (fun v N => v = .string (bs r0) ∧ N = []) := by
 unfold Gl at H; refine Fnc.enter (vs := [iV n0]) Tryd.func19 rfl rfl (Inv.refl w) ?_; refine sR Y1 rfl ?_; refine aN Za ?_; refine Zi ?_; obtain ⟨r1, e2, H⟩ := Zq H; refine rG Y3 rfl ?_; refine Zc Za ?_; refine Zw Zc9 Za (fun wc hwc => Z9h (i0 := n0) (i1 := 10) wc (hG.mono hwc) e2) ?_; rintro _ _ ⟨rfl, rfl⟩; refine aN Za ?_; refine T.ret ?_; obtain rfl := ret1 H; exact Zy Za (Res.tmp rfl) Zg ⟨rfl, rfl⟩
theorem Z4s (w : World) {i0 : Int} (hG : GK Tryd.prog w []) {r0 : Str} (H : Gq i0 = some r0) : Fnc Tryd.prog 22 #[iV i0] w [] (fun v N => v = .string (bs r0) ∧ N = []) := by
 unfold Gq at H; obtain ⟨g, H⟩ := Ye H; injection H with H; subst H; exact Fnc.itoa Zb0 i0 g w hG
theorem Zb1 {a0 : Arc} (w : World) (hG : GK Tryd.prog w []) {r0 : Str} (H : Z02 a0 = some r0) : Fnc Tryd.prog 18 #[.agg #[iV a0.fr, iV a0.to, iV a0.cap]] w [] (fun v N => v = .string (bs r0) ∧ N = []) := by
 unfold Z02 at H; refine Fnc.enter (vs := [.agg #[iV a0.fr, iV a0.to, iV a0.cap]]) Tryd.func18 rfl rfl (Inv.refl w) ?_; refine sR Y2 rfl ?_; refine Xo Za ?_; intro b1; refine aN Za ?_; refine Zi ?_; obtain ⟨g3, H⟩ := Ye H; obtain ⟨r4, e5, H⟩ := Zq H; obtain ⟨g6, g7, g8, H⟩ := gd3 H; obtain ⟨r9, a2, H⟩ := Zq H; obtain ⟨a3, a4, H⟩ := Uf H; refine Kh 10 [0, 1, 2, 3, 4, 5, 6, 7, 8, 9] rfl Vu (by kernel_rfl) (by kernel_rfl) rfl (by kernel_rfl) ?_; refine Ur Za Js ?_; refine Up Za Yr Zl rfl ?_; refine Gx g3 Zb ?_; refine Gi Z3l Za (fun wc hwc => Z4s (i0 := (a0.fr + 1)) wc (hG.mono hwc) e5) (by rintro _ _ ⟨rfl, rfl⟩; rfl) ?_; refine Z61 (p := ([102, 32] : Str)) (q := r4) g6 Zb ?_; refine Z61 (p := (([102, 32] : Str) ++ r4)) (q := ([32] : Str)) g7 Zb ?_; refine Ur Za Gr ?_; refine Up Za Yr Zl rfl ?_; refine Gx g8 Zb ?_; refine Gi Z3l Za (fun wc hwc => Z4s (i0 := (a0.to + 1)) wc (hG.mono hwc) a2) (by rintro _ _ ⟨rfl, rfl⟩; rfl) ?_; refine TQ.tail [10, 11, 12] Xj ?_; refine Ga (p := ((([102, 32] : Str) ++ r4) ++ ([32] : Str))) (q := r9) a3 Zb ?_; refine Ga (p := (((([102, 32] : Str) ++ r4) ++ ([32] : Str)) ++ r9)) (q := ([32] : Str)) a4 Zb ?_; refine aN Za ?_; refine Zn (aT [2] rfl) ?_; refine T.ret ?_; obtain rfl := ret1 H; exact Zy Za (Res.tmp rfl) Zg ⟨rfl, rfl⟩
theorem Z21 {s0 : Str} {low1 high2 : Int} (w : World) (hG : GK Tryd.prog w []) {r0 : Int} {r1 : Bool} (H : Jy s0 low1 high2 = some (r0, r1)) : Fnc Tryd.prog 24 #[.string (bs s0), iV low1, iV high2] w [] (fun v N => v = .tuple #[iV r0, .bool r1] ∧ N = []) := by
 unfold Jy at H; refine Fnc.enter (vs := [.string (bs s0), iV low1, iV high2]) Tryd.func24 rfl rfl (Inv.refl w) ?_; refine sR Y2 rfl ?_; refine Zz Za ?_; refine aN Za ?_; refine Zi ?_; obtain ⟨⟨r1, r2⟩, e3, H⟩ := Zq H; refine rG Y7 rfl ?_; refine Zc Za ?_; refine Zw Zab Za (fun wc hwc => Z9b (s0 := s0) wc (hG.mono hwc) e3) ?_; rintro _ _ ⟨rfl, rfl⟩; refine Zc Za ?_; refine TO.extract Zb ?_; refine TO.extract Zb ?_; refine Zz Za ?_; refine aN Za ?_; refine Zn (aT [1, 2, 8, 9] rfl) ?_; refine Zi ?_; rcases Zp H with ⟨g4, H⟩ | ⟨g4, H⟩
 ·
  rcases Zp H with ⟨g5, H⟩ | ⟨g5, H⟩
  · refine rG Y14 rfl ?_; refine Zc Za ?_; refine Zc Za ?_; refine Zc Za ?_; refine Zr (t := 17) (b' := true) rfl g4 ?_; refine Zc Za ?_; refine Zc Za ?_; refine Zo Zm ?_; refine Yf Zb ?_; refine Zc Za ?_; refine Zr (t := 22) (b' := true) rfl (decide_eq_true g5) ?_; refine Zc Za ?_; refine Zc Za ?_; refine Zo Zm ?_; refine Yf Zb ?_; refine Zz Za ?_; refine aN Za ?_; refine Zn (aT [6, 7] rfl) ?_; refine T.ret ?_; obtain ⟨rfl, rfl⟩ := ret2 H; exact Xx Za (Res.tmp rfl) (Res.tmp rfl) Zg ⟨rfl, rfl⟩
  · refine rG Y14 rfl ?_; refine Zc Za ?_; refine Zc Za ?_; refine Zc Za ?_; refine Zr (t := 17) (b' := true) rfl g4 ?_; refine Zc Za ?_; refine Zc Za ?_; refine Zo Zm ?_; refine Yf Zb ?_; refine Zc Za ?_; refine Zr (t := 22) (b' := false) rfl (decide_eq_false g5) ?_; refine Ze Za ?_; refine Ze Za ?_; refine Ze Za ?_; refine Yc Zb ?_; refine Zz Za ?_; refine aN Za ?_; refine Zn (aT [6, 7] rfl) ?_; refine T.ret ?_; obtain ⟨rfl, rfl⟩ := ret2 H; exact Xx Za (Res.tmp rfl) (Res.tmp rfl) Zg ⟨rfl, rfl⟩
 · refine rG Y14 rfl ?_; refine Zc Za ?_; refine Zc Za ?_; refine Zc Za ?_; refine Zr (t := 17) (b' := false) rfl (Bool.eq_false_iff.2 g4) ?_; refine Ze Za ?_; refine Ze Za ?_; refine Ze Za ?_; refine Yc Zb ?_; refine Zc Za ?_; refine Ze Za ?_; refine Ze Za ?_; refine Ze Za ?_; refine Yc Zb ?_; refine Zz Za ?_; refine aN Za ?_; refine Zn (aT [6, 7] rfl) ?_; refine T.ret ?_; obtain ⟨rfl, rfl⟩ := ret2 H; exact Xx Za (Res.tmp rfl) (Res.tmp rfl) Zg ⟨rfl, rfl⟩
theorem Zbs {a0 : Arc} {w1 : List Str} {a4 : Option Addr} {a3 a5 : Nat} (w : World) (a2 : RS w [] Ud 1 a4 a3 a5 w1) (hG : GK Tryd.prog w []) {r0 : Int} {r1 : Bool} (H : Z0o a0 w1 = some (r0, r1)) : Fnc Tryd.prog 30 #[.agg #[iV a0.fr, iV a0.to, iV a0.cap], .slice a4 a3 a5] w [] (fun v N => v = .tuple #[iV r0, .bool r1] ∧ N = []) := by
 unfold Z0o at H; refine Fnc.enter (vs := [.agg #[iV a0.fr, iV a0.to, iV a0.cap], .slice a4 a3 a5]) Tryd.func30 rfl rfl (Inv.refl w) ?_; refine sR Y3 rfl ?_; refine Xo Za ?_; intro b1; refine Zz Za ?_; refine aN Za ?_; refine Zi ?_; refine Zi ?_; refine Wh (fun (x5 : Bool) => No a0 w1 x5 = some (r0, r1)) (fun (x5 : Bool) => [(1, .slice a4 a3 a5), (2, pV b1), (20, .bool x5)]) (fun (x5 : Bool) => [(eC b1 #[iV a0.fr, iV a0.to, iV a0.cap] 45)]) ?_ ?_
 ·
  rcases Zp H with ⟨g3, H⟩ | ⟨g3, H⟩
  · refine rG Y9 rfl ?_; refine Zc Za ?_; refine Yq (xs := w1) a2.len Zb Wp ?_; refine Zo Zm ?_; refine Zc Za ?_; refine Zr (t := 15) (b' := true) rfl (decide_eq_true g3) ?_; refine Ze Za ?_; refine Ze Za ?_; refine Ze Za ?_; refine Ze Za ?_; refine Yf Zb ?_; refine Zj ?_; exact Xg true H (aF rfl) (Zf Zh Zg)
  · obtain ⟨g4, H⟩ := Ye H; refine rG Y9 rfl ?_; refine Zc Za ?_; refine Yq (xs := w1) a2.len Zb Wp ?_; refine Zo Zm ?_; refine Zc Za ?_; refine Zr (t := 15) (b' := false) rfl (decide_eq_false g3) ?_; refine Zc Za ?_; refine Wl a2 g4 Zb Wp Ve ?_; refine Z34 (v := .string (bs (w1.getD (0 : Int).toNat ([] : Str)))) ([] : Str) a2 g4 Zb Wz ?_; refine Lf (p := (w1.getD (0 : Int).toNat ([] : Str))) (q := ([102] : Str)) Zb ?_; refine Yc Zb ?_; refine Zj ?_; exact Xg (decide (¬((w1.getD (0 : Int).toNat ([] : Str)) = ([102] : Str)))) H (aF rfl) (Zf Zh Zg)
 ·
  rintro x5 H; unfold No at H; rcases Zp H with ⟨g6, H⟩ | ⟨g6, H⟩
  · refine Ys rfl g6 ?_; refine sR Y2 rfl ?_; refine Zz Za ?_; refine aN Za ?_; refine T.ret ?_; refine Zu ?_; obtain ⟨rfl, rfl⟩ := ret2 H; exact Xx Za (Res.tmp rfl) (Res.tmp rfl) Zg ⟨rfl, rfl⟩
  ·
   refine Xl rfl (Bool.eq_false_iff.2 g6) ?_; refine T.skip ?_; refine Ya ?_; refine Zi ?_; obtain ⟨g7, g8, g9, H⟩ := gd3 H; obtain ⟨⟨c0, d0⟩, b5, H⟩ := Zq H; refine Kh 14 [0, 1, 2, 3, 4, 5, 6, 7, 8, 9, 10, 11, 12, 13] rfl Vu (by kernel_rfl) (by kernel_rfl) rfl (by kernel_rfl) ?_; refine TQ.move Za ?_; refine Kf a2 g7 Zb Wp Ve ?_; refine Z1h (v := .string (bs (w1.getD (1 : Int).toNat ([] : Str)))) ([] : Str) a2 g7 Zb Wz ?_; refine Ur Za Js ?_; refine Up Za Yr Zl rfl ?_; refine Gx g8 Zb ?_; refine Ur Za Js ?_; refine Up Za Yr Zl rfl ?_; refine Gx g9 Zb ?_; refine Gi Z2o Za (fun wc hwc => Z21 (s0 := (w1.getD (1 : Int).toNat ([] : Str))) (low1 := (a0.fr + 1)) (high2 := (a0.fr + 1)) wc (hG.mono hwc) b5) (by rintro _ _ ⟨rfl, rfl⟩; rfl) ?_; refine TQ.move Za ?_; refine TQ.extract Zb ?_; refine TQ.extract Zb ?_; refine TQ.assign Za ?_; refine TQ.tail [14] Xj ?_; refine aN Za ?_; refine Zn (aT [1, 2, 7] rfl) ?_; refine Zi ?_; obtain ⟨a8, b6, b7, H⟩ := gd3 H; obtain ⟨⟨d1, d2⟩, b8, H⟩ := Zq H; refine Kh 14 [0, 1, 2, 3, 4, 5, 6, 7, 8, 9, 10, 11, 12, 13] rfl Vu (by kernel_rfl) (by kernel_rfl) rfl (by kernel_rfl) ?_; refine TQ.move Za ?_; refine Kf a2 a8 Zb Wp Ve ?_; refine Z1h (v := .string (bs (w1.getD (2 : Int).toNat ([] : Str)))) ([] : Str) a2 a8 Zb Wz ?_; refine Ur Za Gr ?_; refine Up Za Yr Zl rfl ?_; refine Gx b6 Zb ?_; refine Ur Za Gr ?_; refine Up Za Yr Zl rfl ?_; refine Gx b7 Zb ?_; refine Gi Z2o Za (fun wc hwc => Z21 (s0 := (w1.getD (2 : Int).toNat ([] : Str))) (low1 := (a0.to + 1)) (high2 := (a0.to + 1)) wc (hG.mono hwc) b8) (by rintro _ _ ⟨rfl, rfl⟩; rfl) ?_; refine TQ.move Za ?_; refine TQ.extract Zb ?_; refine TQ.extract Zb ?_; refine TQ.assign Za ?_; refine TQ.tail [14] Xj ?_; refine aN Za ?_; refine Zn (aT [1, 2, 7, 9] rfl) ?_; refine Zi ?_; obtain ⟨a9, H⟩ := Ye H; obtain ⟨⟨d3, d4⟩, b9, H⟩ := Zq H; refine Kh 10 [0, 1, 2, 3, 4, 5, 6, 7, 8, 9] rfl Vu (by kernel_rfl) (by kernel_rfl) rfl (by kernel_rfl) ?_; refine TQ.move Za ?_; refine Kf a2 a9 Zb Wp Ve ?_; refine Z1h (v := .string (bs (w1.getD (3 : Int).toNat ([] : Str)))) ([] : Str) a2 a9 Zb Wz ?_; refine Ur Za Uv ?_; refine Up Za Wc Zl rfl ?_; refine Gi Z2o Za (fun wc hwc => Z21 (s0 := (w1.getD (3 : Int).toNat ([] : Str))) (low1 := 0) (high2 := a0.cap) wc (hG.mono hwc) b9) (by rintro _ _ ⟨rfl, rfl⟩; rfl) ?_; refine TQ.move Za ?_; refine TQ.extract Zb ?_; refine TQ.extract Zb ?_; refine TQ.assign Za ?_; refine TQ.tail [10] Xj ?_; refine aN Za ?_; refine Zn (aT [7, 9, 10, 11] rfl) ?_; refine Zi ?_; rcases Zp H with ⟨a6, H⟩ | ⟨a6, H⟩
   ·
    rcases Zp H with ⟨a7, H⟩ | ⟨a7, H⟩
    · refine rG Y10 rfl ?_; refine Zc Za ?_; refine Zc Za ?_; refine Zc Za ?_; refine Zr (t := 58) (b' := true) rfl a6 ?_; refine Zc Za ?_; refine Yf Zb ?_; refine Zc Za ?_; refine Zr (t := 61) (b' := true) rfl a7 ?_; refine Zc Za ?_; refine Yf Zb ?_; refine Zz Za ?_; refine aN Za ?_; refine Zn (aT [4, 5] rfl) ?_; refine T.ret ?_; obtain ⟨rfl, rfl⟩ := ret2 H; exact Xx Za (Res.tmp rfl) (Res.tmp rfl) Zg ⟨rfl, rfl⟩
    · refine rG Y10 rfl ?_; refine Zc Za ?_; refine Zc Za ?_; refine Zc Za ?_; refine Zr (t := 58) (b' := true) rfl a6 ?_; refine Zc Za ?_; refine Yf Zb ?_; refine Zc Za ?_; refine Zr (t := 61) (b' := false) rfl (Bool.eq_false_iff.2 a7) ?_; refine Ze Za ?_; refine Yc Zb ?_; refine Zz Za ?_; refine aN Za ?_; refine Zn (aT [4, 5] rfl) ?_; refine T.ret ?_; obtain ⟨rfl, rfl⟩ := ret2 H; exact Xx Za (Res.tmp rfl) (Res.tmp rfl) Zg ⟨rfl, rfl⟩
   · refine rG Y10 rfl ?_; refine Zc Za ?_; refine Zc Za ?_; refine Zc Za ?_; refine Zr (t := 58) (b' := false) rfl (Bool.eq_false_iff.2 a6) ?_; refine Ze Za ?_; refine Yc Zb ?_; refine Zc Za ?_; refine Ze Za ?_; refine Yc Zb ?_; refine Zz Za ?_; refine aN Za ?_; refine Zn (aT [4, 5] rfl) ?_; refine T.ret ?_; obtain ⟨rfl, rfl⟩ := ret2 H; exact Xx Za (Res.tmp rfl) (Res.tmp rfl) Zg ⟨rfl, rfl⟩
theorem Z5l {n0 : Net} {f1 : List Int} {a3 a7 : Option Addr} {a5 a4 a9 a8 : Nat} (w : World) (a2 : RS w [] Yd 3 a3 a5 a4 n0.Arcs) (a6 : RS w [] iC 1 a7 a9 a8 f1) {r0 : Bool} (H : Ni n0 f1 = some r0) : Fnc Tryd.prog 13 #[.agg #[iV n0.N, iV n0.S, iV n0.T, .slice a3 a5 a4], .slice a7 a9 a8] w [] (fun v N => v = .bool r0 ∧ N = []) := by
 unfold Ni at H; refine Fnc.enter (vs := [.agg #[iV n0.N, iV n0.S, iV n0.T, .slice a3 a5 a4], .slice a7 a9 a8]) Tryd.func13 rfl rfl (Inv.refl w) ?_; refine sR Y2 rfl ?_; refine Xo Za ?_; intro b1; refine aN Za ?_; refine Zi ?_; refine Zi ?_; obtain ⟨r3, e4, H⟩ := Zq H; rcases Zp H with ⟨g5, H⟩ | ⟨g5, H⟩
 · refine rG Y11 rfl ?_; refine Ym Za Yk Zl rfl ?_; refine Zw Nz Za (fun wc hwc => Ns (n0 := n0) wc (a2.mono hwc) e4) ?_; rintro _ _ ⟨rfl, rfl⟩; refine Zo Zm ?_; refine Zc Za ?_; refine Zr (t := 10) (b' := true) rfl (decide_eq_true g5) ?_; refine Ze Za ?_; refine Ze Za ?_; refine Ze Za ?_; refine Ze Za ?_; refine Ze Za ?_; refine Ze Za ?_; refine Yf Zb ?_; refine dN ?_; refine Zn (aT [1, 2, 17] rfl) ?_; refine Ys rfl rfl ?_; refine sR Y1 rfl ?_; refine aN Za ?_; refine T.ret ?_; refine Zu ?_; obtain rfl := ret1 H; exact Zy Za (Res.tmp rfl) Zg ⟨rfl, rfl⟩
 ·
  refine rG Y11 rfl ?_; refine Ym Za Yk Zl rfl ?_; refine Zw Nz Za (fun wc hwc => Ns (n0 := n0) wc (a2.mono hwc) e4) ?_; rintro _ _ ⟨rfl, rfl⟩; refine Zo Zm ?_; refine Zc Za ?_; refine Zr (t := 10) (b' := false) rfl (decide_eq_false g5) ?_; refine Zc Za ?_; refine Yq (xs := f1) a6.len Zb Xh ?_; refine Zx Za Vd ?_; refine Zt Za Vm Zl rfl ?_; refine Yq (xs := n0.Arcs) a2.len Zb Xr ?_; refine Zo Zm ?_; refine Yc Zb ?_; refine dN ?_; refine Zn (aT [1, 2, 17] rfl) ?_; rcases Zp H with ⟨g6, H⟩ | ⟨g6, H⟩
  · refine Yz rfl g6 ?_; refine sR Y1 rfl ?_; refine aN Za ?_; refine T.ret ?_; refine Zu ?_; obtain rfl := ret1 H; exact Zy Za (Res.tmp rfl) Zg ⟨rfl, rfl⟩
  ·
   refine Yv rfl g6 ?_; refine T.skip ?_; refine Ya ?_; refine Zi ?_; refine sR Y4 rfl ?_; refine Zx Za Vd ?_; refine Zt Za Vm Zl rfl ?_; refine Yq (xs := n0.Arcs) a2.len Zb Xr ?_; refine Zc Za ?_; refine dN ?_; refine Wh (fun (b8 : Unit) => Z1s = some r0) (fun (b8 : Unit) => []) (fun (b8 : Unit) => []) ?_ ?_
   ·
    refine T.block ?_; obtain ⟨d2, d3, b9⟩ := Zq H; refine Rl (fun (b5 : Nat) (x7 : Int) => Xf (fun s => Z0v n0 f1 s) b5 x7 = some d2) (fun (b5 : Nat) (x7 : Int) => [(1, .slice a7 a9 a8), (19, .slice a3 a5 a4), (20, iV (n0.Arcs.length : Int)), (21, iV x7)]) (fun (b5 : Nat) (x7 : Int) => []) (fun (b5 : Nat) (x7 : Int) => b5) Yy 0 d3 (aF rfl) Zg ?_; rintro b5 x7 H; obtain ⟨d4, d5, rfl, H, b6⟩ := Ul H; have H : Z0v n0 f1 x7 = some d5 := H; unfold Z0v at H; refine sR Y1 rfl ?_; refine Zo Zm ?_; refine dS ?_; rcases Zp H with ⟨g8, H⟩ | ⟨g8, H⟩
    ·
     refine Yz rfl g8 ?_; refine T.skip ?_; refine Ya ?_; refine Zi ?_; refine T.block ?_; obtain ⟨g9, H⟩ := Ye H; refine sR Y6 rfl ?_; refine Zc Za ?_; refine Wl a2 g9 Zb Xr Ws ?_; refine Jh (cs := [iV ((n0.Arcs.getD x7.toNat default).fr), iV ((n0.Arcs.getD x7.toNat default).to), iV ((n0.Arcs.getD x7.toNat default).cap)]) default a2 g9 Zb Uj ?_; refine Ww Zv Kr ?_; intro d7; refine Zz Za ?_; refine Vg Za Zh Ws Zv ?_; refine dN ?_; refine Zi ?_; obtain ⟨b7, H⟩ := Ye H; rcases Zp H with ⟨c0, H⟩ | ⟨c0, H⟩
     · refine Kh 12 [0, 1, 2, 3, 4, 5, 6, 7, 8, 9, 10, 11] rfl Vu (by kernel_rfl) (by kernel_rfl) rfl (by kernel_rfl) ?_; refine TQ.move Za ?_; refine TQ.move Za ?_; refine Kf a6 b7 Zb Xh Xp ?_; refine Rc a6 b7 Za Wc ?_; refine Z56 Zm ?_; refine TQ.move Za ?_; refine Z5h (t := 31) (b' := true) rfl (decide_eq_true c0) ?_; refine Nh Za ?_; refine Nh Za ?_; refine Nh Za ?_; refine Nh Za ?_; refine Nh Za ?_; refine Nh Za ?_; refine TQ.tail [12, 13] Xj ?_; refine Ze Za ?_; refine Yf Zb ?_; refine dN ?_; refine Zn (aT [1, 19, 20, 21, 32, 33, 34, 35, 36, 37, 38, 39] rfl) ?_; refine Ys rfl rfl ?_; refine sR Y1 rfl ?_; refine aN Za ?_; refine Zn (aT [4] rfl) ?_; refine T.ret ?_; refine Yx ?_; refine Zu ?_; have H := Wm H b6 ▸ b9; refine Zu ?_; refine Yx ?_; refine Zu ?_; obtain rfl := ret1 H; exact Zy Za (Res.tmp rfl) Zg ⟨rfl, rfl⟩
     ·
      obtain ⟨d1, H⟩ := Ye H; refine Kh 12 [0, 1, 2, 3, 4, 5, 6, 7, 8, 9, 10, 11] rfl Vu (by kernel_rfl) (by kernel_rfl) rfl (by kernel_rfl) ?_; refine TQ.move Za ?_; refine TQ.move Za ?_; refine Kf a6 b7 Zb Xh Xp ?_; refine Rc a6 b7 Za Wc ?_; refine Z56 Zm ?_; refine TQ.move Za ?_; refine Z5h (t := 31) (b' := false) rfl (decide_eq_false c0) ?_; refine TQ.move Za ?_; refine TQ.move Za ?_; refine Kf a6 d1 Zb Xh Xp ?_; refine Rc a6 d1 Za Wc ?_; refine Ur Za Uv ?_; refine Up Za Wc Zl rfl ?_; refine TQ.tail [12, 13] Xj ?_; refine Zo Zm ?_; refine Yc Zb ?_; refine dN ?_; refine Zn (aT [1, 19, 20, 21, 32, 33, 34, 35, 36, 37, 38, 39] rfl) ?_; rcases Zp H with ⟨d0, H⟩ | ⟨d0, H⟩
      · refine Yz rfl d0 ?_; refine sR Y1 rfl ?_; refine aN Za ?_; refine Zn (aT [4] rfl) ?_; refine T.ret ?_; refine Yx ?_; refine Zu ?_; have H := Wm H b6 ▸ b9; refine Zu ?_; refine Yx ?_; refine Zu ?_; obtain rfl := ret1 H; exact Zy Za (Res.tmp rfl) Zg ⟨rfl, rfl⟩
      · refine Yv rfl d0 ?_; refine T.skip ?_; refine Xs ?_; refine Ya ?_; obtain ⟨d6, H⟩ := Ye H; refine rG Y2 rfl ?_; refine Wa d6 Zb ?_; refine Zc Za ?_; refine Zj ?_; have H := Vv H b6; exact Z0a d4 (x7 + 1) H (Nat.lt_succ_self _) (aF rfl) Zg
    · refine Yv rfl g8 ?_; refine T.exit ?_; refine Xn ?_; have H := Wm H b6 ▸ b9; refine Xn ?_; refine Vl ?_; exact Xg () H Kt Zg
   · rintro b8 H; unfold Z1s at H; refine sR Y1 rfl ?_; refine aN Za ?_; refine T.ret ?_; obtain rfl := ret1 H; exact Zy Za (Res.tmp rfl) Zg ⟨rfl, rfl⟩
theorem Z8s {n0 : Net} {f1 : List Int} {a4 b6 : Option Addr} {a6 a5 b9 b8 : Nat} (w : World) (a3 : RS w [] Yd 3 a4 a6 a5 n0.Arcs) (b5 : RS w [] iC 1 b6 b9 b8 f1) {r0 : List Int} {r1 : Int} (H : Z0e n0 f1 = some (r0, r1)) : Fnc Tryd.prog 26 #[.agg #[iV n0.N, iV n0.S, iV n0.T, .slice a4 a6 a5], .slice b6 b9 b8] w [] (fun v N => ∃ (c0 : Option Nat) (d1 d2 : Nat) (d5 : List Value), v = .tuple #[sV c0 d1 d2, iV r1] ∧ N = [(eI c0 r0 d5 2)] ∧ r0.length = d1 ∧ d1 ≤ d2 ∧ d5.length = (d2 - d1) * 1 ∧ (c0 = none → d2 = 0)) := by
 unfold Z0e at H; refine Fnc.enter (vs := [.agg #[iV n0.N, iV n0.S, iV n0.T, .slice a4 a6 a5], .slice b6 b9 b8]) Tryd.func26 rfl rfl (Inv.refl w) ?_; refine sR Y3 rfl ?_; refine Xo Za ?_; intro b1; refine Zz Za ?_; refine aN Za ?_; refine Zi ?_; refine Zi ?_; obtain ⟨r3, e4, H⟩ := Zq H; refine rG Y4 rfl ?_; refine Ym Za Yk Zl rfl ?_; refine Zc Za ?_; refine Zw Z5o Za (fun wc hwc => Z5l (n0 := n0) (f1 := f1) wc (a3.mono hwc) (b5.mono hwc) e4) ?_; rintro _ _ ⟨rfl, rfl⟩; refine TO.not Za ?_; refine dN ?_; rcases Zp H with ⟨g5, H⟩ | ⟨g5, H⟩
 · refine Ys rfl g5 ?_; refine sR Y2 rfl ?_; refine Zz Za ?_; refine aN Za ?_; refine T.ret ?_; refine Zu ?_; obtain ⟨rfl, rfl⟩ := ret2 H; exact Xx Za (Res.tmp rfl) (Res.tmp rfl) (Pick.none Zg) ⟨none, 0, 0, ([]), rfl, rfl, rfl, (Nat.le_refl _), (Wy 0 _), (fun _ => rfl)⟩
 ·
  refine Xl rfl (Bool.eq_false_iff.2 g5) ?_; refine T.skip ?_; refine Ya ?_; obtain ⟨g6, H⟩ := Ye H; refine sR Y4 rfl ?_; refine Zx Za Vn ?_; refine Zt Za Yr Zl rfl ?_; refine TO.mkI g6 Zb Xh Xp Gf Z3z rfl ?_; intro b7; refine aN Za ?_; refine Zn (aT [1, 2, 6] rfl) ?_; refine Zi ?_; refine sR Y4 rfl ?_; refine Zx Za Vd ?_; refine Zt Za Vm Xk rfl ?_; refine Yq (xs := n0.Arcs) a3.len Zb Xr ?_; refine Zc Za ?_; refine dN ?_; refine Wh (fun (a7 : List Int) => Z35 a7 = some (r0, r1) ∧ a7.length = n0.N.toNat) (fun (a7 : List Int) => [(6, nV b7 n0.N.toNat n0.N.toNat)]) (fun (a7 : List Int) => [(eI (some b7) a7 ([]) 2)]) ?_ ?_
  ·
   refine T.block ?_; obtain ⟨e5, e6, e7⟩ := Zq H; refine Z4e (fun (d0 : Nat) (a8 : List Int) (a2 : Int) => Xf (fun s => Rm n0 f1 s.1 s.2) d0 (a8, a2) = some e5 ∧ a8.length = n0.N.toNat) (fun (d0 : Nat) (a8 : List Int) (a2 : Int) => [(1, .slice b6 b9 b8), (6, nV b7 n0.N.toNat n0.N.toNat), (17, .slice a4 a6 a5), (18, iV (n0.Arcs.length : Int)), (19, iV a2)]) (fun (d0 : Nat) (a8 : List Int) (a2 : Int) => [(eI (some b7) a8 ([]) 2)]) (fun (d0 : Nat) (a8 : List Int) (a2 : Int) => d0) Yy (List.replicate n0.N.toNat (0 : Int)) 0 ⟨e6, List.length_replicate⟩ (aF rfl) (Zf Zh Zg) ?_; rintro d0 a8 a2 ⟨H, a9⟩; obtain ⟨e8, e9, rfl, H, d6⟩ := Ul H; have H : Rm n0 f1 a8 a2 = some e9 := H; unfold Rm at H; refine sR Y1 rfl ?_; refine Zo Zm ?_; refine dS ?_; rcases Zp H with ⟨d3, H⟩ | ⟨d3, H⟩
   · refine Yz rfl d3 ?_; refine T.skip ?_; refine Ya ?_; refine Zi ?_; refine T.block ?_; obtain ⟨d7, H⟩ := Ye H; refine sR Y6 rfl ?_; refine Zc Za ?_; refine Wl a3 d7 Zb Xr Ws ?_; refine Jh (cs := [iV ((n0.Arcs.getD a2.toNat default).fr), iV ((n0.Arcs.getD a2.toNat default).to), iV ((n0.Arcs.getD a2.toNat default).cap)]) default a3 d7 Zb Uj ?_; refine Ww Zv Kr ?_; intro f4; refine Zz Za ?_; refine Vg Za Zh Ws Zv ?_; refine dN ?_; refine Zi ?_; obtain ⟨d8, d9, f0, e0, H⟩ := gd4 H; refine Kh 9 [0, 1, 2, 3, 4, 5, 6, 7, 8] rfl Vu (by kernel_rfl) (by kernel_rfl) rfl (by kernel_rfl) ?_; refine TQ.move Za ?_; refine Ur Za Js ?_; refine Up Za Yr Zl rfl ?_; refine TQ.ix1 a9 d8 Zb Xh Xp ?_; refine Z7u d8 Za Wc Xk ?_; refine TQ.move Za ?_; refine TQ.move Za ?_; refine Kf b5 d9 Zb Xh Xp ?_; refine Rc b5 d9 Za Wc ?_; refine TQ.tail [9, 10, 11] Xj ?_; refine Z0g f0 Zb ?_; refine Z1m a9 e0 Zb Xh Xp ?_; refine Z3g e0 Za Yl Xp ?_; refine dN ?_; refine Zn (aT [1, 6, 17, 18, 19, 8, 7] rfl) ?_; obtain ⟨e1, e2, f2, e3, H⟩ := gd4 H; refine Kh 9 [0, 1, 2, 3, 4, 5, 6, 7, 8] rfl Vu (by kernel_rfl) (by kernel_rfl) rfl (by kernel_rfl) ?_; refine TQ.move Za ?_; refine Ur Za Gr ?_; refine Up Za Yr Xk rfl ?_; refine TQ.ix1 (List.length_set.trans a9) e1 Zb Xh Xp ?_; refine Z7u e1 Za Wc Zl ?_; refine TQ.move Za ?_; refine TQ.move Za ?_; refine Kf b5 e2 Zb Xh Xp ?_; refine Rc b5 e2 Za Wc ?_; refine TQ.tail [9, 10, 11] Xj ?_; refine Wa f2 Zb ?_; refine Z1m (List.length_set.trans a9) e3 Zb Xh Xp ?_; refine Z3g e3 Za Zh Xp ?_; refine Zj ?_; refine Xs ?_; refine Ya ?_; refine Zn (aT [1, 6, 17, 18, 19] rfl) ?_; obtain ⟨f3, H⟩ := Ye H; refine rG Y2 rfl ?_; refine Wa f3 Zb ?_; refine Zc Za ?_; refine Zj ?_; have H := Vv H d6; exact Rx e8 ((a8.set ((n0.Arcs.getD a2.toNat default).fr).toNat ((a8.getD ((n0.Arcs.getD a2.toNat default).fr).toNat 0) - (f1.getD a2.toNat 0))).set ((n0.Arcs.getD a2.toNat default).to).toNat (((a8.set ((n0.Arcs.getD a2.toNat default).fr).toNat ((a8.getD ((n0.Arcs.getD a2.toNat default).fr).toNat 0) - (f1.getD a2.toNat 0))).getD ((n0.Arcs.getD a2.toNat default).to).toNat 0) + (f1.getD a2.toNat 0))) (a2 + 1) ⟨H, (List.length_set.trans (List.length_set.trans a9))⟩ (Nat.lt_succ_self _) (aF rfl) (Zf Zh Zg)
   · refine Yv rfl d3 ?_; refine T.exit ?_; refine Xn ?_; have H := Wm H d6 ▸ e7; refine Xn ?_; refine Vl ?_; exact Xg a8 ⟨H, a9⟩ (aF rfl) (Zf Zh Zg)
  · rintro a7 ⟨H, d4⟩; unfold Z35 at H; refine sR Y3 rfl ?_; refine Zc Za ?_; refine Zz Za ?_; refine aN Za ?_; refine T.ret ?_; obtain ⟨rfl, rfl⟩ := ret2 H; exact Xx Za (Res.tmp rfl) (Res.tmp rfl) (Zf Zh Zg) ⟨(some b7), n0.N.toNat, n0.N.toNat, ([]), rfl, rfl, d4, (Nat.le_refl _), (Wy _ _), Xu⟩
theorem Z7b {n0 : Net} {f1 : List Int} {a2 a5 : Option Addr} {a4 a3 a8 a7 : Nat} (w : World) (a6 : RS w [] Yd 3 a2 a4 a3 n0.Arcs) (b7 : RS w [] iC 1 a5 a8 a7 f1) (hG : GK Tryd.prog w []) {r0 : Str} {r1 : Int} (H : Nt n0 f1 = some (r0, r1)) : Fnc Tryd.prog 16 #[.agg #[iV n0.N, iV n0.S, iV n0.T, .slice a2 a4 a3], .slice a5 a8 a7] w [] (fun v N => v = .tuple #[.string (bs r0), iV r1] ∧ N = []) := by
 unfold Nt at H; refine Fnc.enter (vs := [.agg #[iV n0.N, iV n0.S, iV n0.T, .slice a2 a4 a3], .slice a5 a8 a7]) Tryd.func16 rfl rfl (Inv.refl w) ?_; refine sR Y3 rfl ?_; refine Xo Za ?_; intro b1; refine Zz Za ?_; refine aN Za ?_; refine Zi ?_; obtain ⟨⟨r3, r4⟩, e5, H⟩ := Zq H; refine rG Y8 rfl ?_; refine Ym Za Yk Zl rfl ?_; refine Zc Za ?_; refine Zw Zc4 Za (fun wc hwc => Z8s (n0 := n0) (f1 := f1) wc (a6.mono hwc) (b7.mono hwc) e5) ?_; rintro _ _ ⟨d1, n7, c8, j9, rfl, rfl, a9, b5, c0, b6⟩; refine Zc Za ?_; refine TO.extract Zb ?_; refine TO.extract Zb ?_; refine Zz Za ?_; refine aN Za ?_; refine Zn (aT [2, 6, 7] rfl) ?_; refine Zi ?_; refine sR Y2 rfl ?_; refine Zc Za ?_; refine Zo Zm ?_; refine dN ?_; rcases Zp H with ⟨b8, H⟩ | ⟨b8, H⟩
 · refine Yz rfl b8 ?_; refine sR Y3 rfl ?_; refine Zc Za ?_; refine Zz Za ?_; refine aN Za ?_; refine T.ret ?_; refine Zu ?_; obtain ⟨rfl, rfl⟩ := ret2 H; exact Xx Za (Res.tmp rfl) (Res.tmp rfl) Zg ⟨rfl, rfl⟩
 · refine Yv rfl b8 ?_; refine T.skip ?_; refine Ya ?_; refine Zi ?_; obtain ⟨b9, H⟩ := Ye H; obtain ⟨d2, d0, H⟩ := Zq H; refine rG Y8 rfl ?_; refine Zc Za ?_; refine Zx Za Jk ?_; refine Zt Za Yr Xk rfl ?_; refine Z47 b6 b5 a9 b9 Zb Xh Xp ?_; refine TO.ldIV b6 b5 a9 b9 Za Wc Zl ?_; refine Zw Z7g Za (fun wc hwc => Z7f (n0 := (r3.getD n0.T.toNat 0)) wc (hG.mono hwc) d0) ?_; rintro _ _ ⟨rfl, rfl⟩; refine Zz Za ?_; refine aN Za ?_; refine Zn (aT [4, 5] rfl) ?_; refine T.ret ?_; obtain ⟨rfl, rfl⟩ := ret2 H; exact Xx Za (Res.tmp rfl) (Res.tmp rfl) Zg ⟨rfl, rfl⟩
theorem Z1l {n0 : Net} {f1 : List Int} {a6 d0 : Option Addr} {a8 a7 c0 b9 : Nat} (w : World) (a4 : RS w [] Yd 3 a6 a8 a7 n0.Arcs) (d3 : RS w [] iC 1 d0 c0 b9 f1) (hG : GK Tryd.prog w []) {r0 : List Int} {r1 : Int} (H : Jt n0 f1 = some (r0, r1)) : Fnc Tryd.prog 7 #[.agg #[iV n0.N, iV n0.S, iV n0.T, .slice a6 a8 a7], .slice d0 c0 b9] w [] (fun v N => ∃ (d4 : Option Nat) (e5 e6 : Nat) (h8 : List Value), v = .tuple #[sV d4 e5 e6, iV r1] ∧ N = [(eA d4 (intC .u8) r0 h8 5)] ∧ r0.length = e5 ∧ e5 ≤ e6 ∧ h8.length = (e6 - e5) * 1 ∧ (d4 = none → e6 = 0)) := by
 unfold Jt at H; refine Fnc.enter (vs := [.agg #[iV n0.N, iV n0.S, iV n0.T, .slice a6 a8 a7], .slice d0 c0 b9]) Tryd.func7 rfl rfl (Inv.refl w) ?_; refine sR Y3 rfl ?_; refine Xo Za ?_; intro b1; refine Zz Za ?_; refine aN Za ?_; refine Zi ?_; refine Zi ?_; obtain ⟨r3, e4, H⟩ := Zq H; refine rG Y3 rfl ?_; refine Ym Za Yk Zl rfl ?_; refine Zw Nz Za (fun wc hwc => Ns (n0 := n0) wc (a4.mono hwc) e4) ?_; rintro _ _ ⟨rfl, rfl⟩; refine aN Za ?_; refine sR Y2 rfl ?_; refine Zc Za ?_; refine Zo Zm ?_; refine dN ?_; rcases Zp H with ⟨g5, H⟩ | ⟨g5, H⟩
 · refine Yz rfl g5 ?_; refine sR Y3 rfl ?_; refine Zc Za ?_; refine Zz Za ?_; refine aN Za ?_; refine Zn (aT [4, 5] rfl) ?_; refine T.ret ?_; refine Zu ?_; obtain ⟨rfl, rfl⟩ := ret2 H; exact Xx Za (Res.tmp rfl) (Res.tmp rfl) (Pick.none Zg) ⟨none, 0, 0, ([]), rfl, rfl, rfl, (Nat.le_refl _), (Wy 0 _), (fun _ => rfl)⟩
 ·
  refine Yv rfl g5 ?_; refine T.skip ?_; refine Ya ?_; refine Zn (aT [1, 2] rfl) ?_; refine Zi ?_; obtain ⟨⟨r6, r7⟩, e8, H⟩ := Zq H; refine rG Y8 rfl ?_; refine Ym Za Yk Zl rfl ?_; refine Zc Za ?_; refine Zw Z62 Za (fun wc hwc => Z7b (n0 := n0) (f1 := f1) wc (a4.mono hwc) (d3.mono hwc) (hG.mono hwc) e8) ?_; rintro _ _ ⟨rfl, rfl⟩; refine Zc Za ?_; refine TO.extract Zb ?_; refine TO.extract Zb ?_; refine Zz Za ?_; refine aN Za ?_; refine Zi ?_; refine sR Y2 rfl ?_; refine Zc Za ?_; refine Zo Zm ?_; refine dN ?_; rcases Zp H with ⟨g9, H⟩ | ⟨g9, H⟩
  · refine Yz rfl g9 ?_; refine sR Y3 rfl ?_; refine Zc Za ?_; refine Zz Za ?_; refine aN Za ?_; refine Zn (aT [4, 5] rfl) ?_; refine T.ret ?_; refine Zu ?_; obtain ⟨rfl, rfl⟩ := ret2 H; exact Xx Za (Res.tmp rfl) (Res.tmp rfl) (Pick.none Zg) ⟨none, 0, 0, ([]), rfl, rfl, rfl, (Nat.le_refl _), (Wy 0 _), (fun _ => rfl)⟩
  ·
   refine Yv rfl g9 ?_; refine T.skip ?_; refine Ya ?_; refine Zn (aT [1, 2, 7] rfl) ?_; refine sR Y1 rfl ?_; refine Ww Zv Z5b ?_; intro d6; refine dN ?_; obtain ⟨i5, i6, i7, H⟩ := gd3 H; refine sR Y4 rfl ?_; refine Zc Za ?_; refine Ga (p := ([115, 32] : Str)) (q := r6) i5 Zb ?_; refine Ga (p := (([115, 32] : Str) ++ r6)) (q := ([10] : Str)) i6 Zb ?_; refine TO.addNone (.cells (arr (intC .u8) ([] : List Int) []).toArray 5 (0, 0)) ?_; refine Z3d (ρ := Z26) (s := ((([115, 32] : Str) ++ r6) ++ ([10] : Str))) (xs := ([] : List Int)) (j := ([])) (lr := 0) Z3e i7 rfl Z3p Zb Yl Zh rfl rfl (Nat.le_refl _) (Wy 0 _) (fun _ => rfl) (BufO.nil _) ?_; intro f0 i9 c18 j0 f2 f3 f4 f5 f6 f7; refine dS ?_; refine sR Y4 rfl ?_; refine Zx Za Vd ?_; refine Zt Za Vm Xw rfl ?_; refine Yq (xs := n0.Arcs) a4.len Zb Xr ?_; refine Zc Za ?_; refine dN ?_; refine Z4n (fun (a3 : List Int) (d5 d1 : Nat) (a9 : Option Nat) (d7 : List Value) (b7 : Int) => Z2q a3 = some (r0, r1) ∧ a3.length = d5 ∧ d5 ≤ d1 ∧ d7.length = (d1 - d5) * 1 ∧ (a9 = none → d1 = 0) ∧ BufO a9 d6 d1) (fun (a3 : List Int) (d5 d1 : Nat) (a9 : Option Nat) (d7 : List Value) (b7 : Int) => [(9, pV d6)]) (fun (a3 : List Int) (d5 d1 : Nat) (a9 : Option Nat) (d7 : List Value) (b7 : Int) => [(eC d6 #[sV a9 d5 d1, iV 0, .int .i8 b7] 52), (eA a9 (intC .u8) a3 d7 5)]) ?_ ?_
   ·
    refine T.block ?_; obtain ⟨j1, j2, j3⟩ := Zq H; refine Z7i (fun (d8 : Nat) (a2 : List Int) (b8 c29 : Nat) (a5 : Option Nat) (d2 : List Value) (b5 b6 : Int) => Xf (fun s => Z0u n0 f1 s.1 s.2) d8 (a2, b6) = some j1 ∧ a2.length = b8 ∧ b8 ≤ c29 ∧ d2.length = (c29 - b8) * 1 ∧ (a5 = none → c29 = 0) ∧ BufO a5 d6 c29) (fun (d8 : Nat) (a2 : List Int) (b8 c29 : Nat) (a5 : Option Nat) (d2 : List Value) (b5 b6 : Int) => [(1, .slice d0 c0 b9), (9, pV d6), (31, .slice a6 a8 a7), (32, iV (n0.Arcs.length : Int)), (33, iV b6)]) (fun (d8 : Nat) (a2 : List Int) (b8 c29 : Nat) (a5 : Option Nat) (d2 : List Value) (b5 b6 : Int) => [(eC d6 #[sV a5 b8 c29, iV 0, .int .i8 b5] 52), (eA a5 (intC .u8) a2 d2 5)]) (fun (d8 : Nat) (a2 : List Int) (b8 c29 : Nat) (a5 : Option Nat) (d2 : List Value) (b5 b6 : Int) => d8) Yy (([] : List Int) ++ ub ((([115, 32] : Str) ++ r6) ++ ([10] : Str))) i9 c18 f0 j0 f2 0 ⟨j2, f3, f4, f5, f6, f7⟩ (aF rfl) (Zf Zh (Zf Zh Zg)) ?_; rintro d8 a2 b8 c29 a5 d2 b5 b6 ⟨H, d9, e0, e1, e2, e3⟩; obtain ⟨j4, j5, rfl, H, h9⟩ := Ul H; have H : Z0u n0 f1 a2 b6 = some j5 := H; unfold Z0u at H; refine sR Y1 rfl ?_; refine Zo Zm ?_; refine dS ?_; rcases Zp H with ⟨f8, H⟩ | ⟨f8, H⟩
    · refine Yz rfl f8 ?_; refine T.skip ?_; refine Ya ?_; refine Zi ?_; refine T.block ?_; obtain ⟨i3, H⟩ := Ye H; refine sR Y6 rfl ?_; refine Zc Za ?_; refine Wl a4 i3 Zb Xr Ws ?_; refine Jh (cs := [iV ((n0.Arcs.getD b6.toNat default).fr), iV ((n0.Arcs.getD b6.toNat default).to), iV ((n0.Arcs.getD b6.toNat default).cap)]) default a4 i3 Zb Uj ?_; refine Ww Zv Kr ?_; intro k7; refine Zz Za ?_; refine Vg Za Zh Ws Zv ?_; refine dN ?_; obtain ⟨e7, j6, H⟩ := Zq H; obtain ⟨i4, H⟩ := Ye H; obtain ⟨e9, j7, H⟩ := Zq H; obtain ⟨j8, j9, k0, H⟩ := gd3 H; refine Kh 6 [0, 1, 2, 3, 4, 5] rfl Vu (by kernel_rfl) (by kernel_rfl) rfl (by kernel_rfl) ?_; refine TQ.loadA Za Uj Zl rfl ?_; refine Gi Zb7 Za (fun wc hwc => Zb1 (a0 := (n0.Arcs.getD b6.toNat default)) wc (hG.mono hwc) j6) (by rintro _ _ ⟨rfl, rfl⟩; rfl) ?_; refine TQ.move Za ?_; refine TQ.move Za ?_; refine Kf d3 i4 Zb Xh Xp ?_; refine Rc d3 i4 Za Wc ?_; refine TQ.tail [6, 7, 8, 9] Xj ?_; refine Zw Z7g Za (fun wc hwc => Z7f (n0 := (f1.getD b6.toNat 0)) wc (hG.mono hwc) j7) ?_; rintro _ _ ⟨rfl, rfl⟩; refine Ga (p := e7) (q := e9) j8 Zb ?_; refine Ga (p := (e7 ++ e9)) (q := ([10] : Str)) j9 Zb ?_; refine Z3d (ρ := Z26) (s := ((e7 ++ e9) ++ ([10] : Str))) (xs := a2) (j := d2) (lr := b5) Z3e k0 rfl Z3p Zb Yl Yl rfl d9 e0 e1 e2 e3 ?_; intro f9 k1 c54 k2 g0 g1 g2 g3 g4 g6; refine Zj ?_; refine Xs ?_; refine Ya ?_; refine Zn (aT [1, 9, 31, 32, 33] rfl) ?_; obtain ⟨k3, H⟩ := Ye H; refine rG Y2 rfl ?_; refine Wa k3 Zb ?_; refine Zc Za ?_; refine Zj ?_; have H := Vv H h9; exact Z3k j4 (a2 ++ ub ((e7 ++ e9) ++ ([10] : Str))) k1 c54 f9 k2 g0 (b6 + 1) ⟨H, g1, g2, g3, g4, g6⟩ (Nat.lt_succ_self _) (aF rfl) (Zf Zh (Zf Zh Zg))
    · refine Yv rfl f8 ?_; refine T.exit ?_; refine Xn ?_; have H := Wm H h9 ▸ j3; refine Xn ?_; refine Vl ?_; exact Z3c a2 b8 c29 a5 d2 b5 ⟨H, d9, e0, e1, e2, e3⟩ (aF rfl) (Zf Zh (Zf Zh Zg))
   · rintro a3 d5 d1 a9 d7 b7 ⟨H, g7, g8, h0, h1, h2⟩; unfold Z2q at H; refine sR Y3 rfl ?_; refine Z82 (ρ := Z3j) (xs := a3) (j := d7) (lr := b7) Z7s Z77 Zb Zh Zh rfl g7 g8 h0 h1 h2 ?_; intro h3 k4 k5 k6 h4 h5 h6 h7; refine Zz Za ?_; refine aN Za ?_; refine T.ret ?_; obtain ⟨rfl, rfl⟩ := ret2 H; exact Xx Za (Res.tmp rfl) (Res.tmp rfl) (Zf Zh Zg) ⟨h3, k4, k5, k6, rfl, rfl, h4, h5, h6, h7⟩
theorem Z39 {n0 : Net} {s1 : List Bool} {a7 d1 : Option Addr} {a9 a8 d0 d2 : Nat} (w : World) (e0 : RS w [] Yd 3 a7 a9 a8 n0.Arcs) (b9 : RS w [] boolC 1 d1 d0 d2 s1) (hG : GK Tryd.prog w []) {r0 : List Int} {r1 : Int} (H : Gm n0 s1 = some (r0, r1)) : Fnc Tryd.prog 9 #[.agg #[iV n0.N, iV n0.S, iV n0.T, .slice a7 a9 a8], .slice d1 d0 d2] w [] (fun v N => ∃ (d4 : Option Nat) (e3 e5 : Nat) (h0 : List Value), v = .tuple #[sV d4 e3 e5, iV r1] ∧ N = [(eA d4 (intC .u8) r0 h0 5)] ∧ r0.length = e3 ∧ e3 ≤ e5 ∧ h0.length = (e5 - e3) * 1 ∧ (d4 = none → e5 = 0)) := by
 unfold Gm at H; refine Fnc.enter (vs := [.agg #[iV n0.N, iV n0.S, iV n0.T, .slice a7 a9 a8], .slice d1 d0 d2]) Tryd.func9 rfl rfl (Inv.refl w) ?_; refine sR Y3 rfl ?_; refine Xo Za ?_; intro b1; refine Zz Za ?_; refine aN Za ?_; refine Zi ?_; refine Zi ?_; obtain ⟨r3, e4, H⟩ := Zq H; refine rG Y3 rfl ?_; refine Ym Za Yk Zl rfl ?_; refine Zw Nz Za (fun wc hwc => Ns (n0 := n0) wc (e0.mono hwc) e4) ?_; rintro _ _ ⟨rfl, rfl⟩; refine aN Za ?_; refine sR Y2 rfl ?_; refine Zc Za ?_; refine Zo Zm ?_; refine dN ?_; rcases Zp H with ⟨g5, H⟩ | ⟨g5, H⟩
 · refine Yz rfl g5 ?_; refine sR Y3 rfl ?_; refine Zc Za ?_; refine Zz Za ?_; refine aN Za ?_; refine Zn (aT [4, 5] rfl) ?_; refine T.ret ?_; refine Zu ?_; obtain ⟨rfl, rfl⟩ := ret2 H; exact Xx Za (Res.tmp rfl) (Res.tmp rfl) (Pick.none Zg) ⟨none, 0, 0, ([]), rfl, rfl, rfl, (Nat.le_refl _), (Wy 0 _), (fun _ => rfl)⟩
 ·
  refine Yv rfl g5 ?_; refine T.skip ?_; refine Ya ?_; refine Zn (aT [1, 2] rfl) ?_; refine Zi ?_; refine sR Y5 rfl ?_; refine Zc Za ?_; refine Yq (xs := s1) b9.len Zb Vt ?_; refine Zx Za Vn ?_; refine Zt Za Yr Zl rfl ?_; refine Zo Zm ?_; refine dN ?_; rcases Zp H with ⟨g6, H⟩ | ⟨g6, H⟩
  · refine Yz rfl g6 ?_; refine sR Y2 rfl ?_; refine Zz Za ?_; refine aN Za ?_; refine T.ret ?_; refine Zu ?_; obtain ⟨rfl, rfl⟩ := ret2 H; exact Xx Za (Res.tmp rfl) (Res.tmp rfl) (Pick.none Zg) ⟨none, 0, 0, ([]), rfl, rfl, rfl, (Nat.le_refl _), (Wy 0 _), (fun _ => rfl)⟩
  ·
   refine Yv rfl g6 ?_; refine T.skip ?_; refine Ya ?_; refine sR Y1 rfl ?_; refine Ww Zv Z5b ?_; intro b7; refine dS ?_; refine sR Y3 rfl ?_; refine Zc Za ?_; refine Yq (xs := s1) b9.len Zb Vt ?_; refine Zc Za ?_; refine dN ?_; refine Z4n (fun (a3 : List Int) (n45 d3 : Nat) (a6 : Option Nat) (e1 : List Value) (b5 : Int) => Z1o a3 = some (r0, r1) ∧ a3.length = n45 ∧ n45 ≤ d3 ∧ e1.length = (d3 - n45) * 1 ∧ (a6 = none → d3 = 0) ∧ BufO a6 b7 d3) (fun (a3 : List Int) (n45 d3 : Nat) (a6 : Option Nat) (e1 : List Value) (b5 : Int) => [(7, pV b7)]) (fun (a3 : List Int) (n45 d3 : Nat) (a6 : Option Nat) (e1 : List Value) (b5 : Int) => [(eC b7 #[sV a6 n45 d3, iV 0, .int .i8 b5] 52), (eA a6 (intC .u8) a3 e1 5)]) ?_ ?_
   ·
    refine T.block ?_; obtain ⟨h3, h4, h5⟩ := Zq H; refine Z7i (fun (e2 : Nat) (a2 : List Int) (b6 c11 : Nat) (a4 : Option Nat) (c0 : List Value) (a5 b8 : Int) => Xf (fun s => Rj s1 s.1 s.2) e2 (a2, b8) = some h3 ∧ a2.length = b6 ∧ b6 ≤ c11 ∧ c0.length = (c11 - b6) * 1 ∧ (a4 = none → c11 = 0) ∧ BufO a4 b7 c11) (fun (e2 : Nat) (a2 : List Int) (b6 c11 : Nat) (a4 : Option Nat) (c0 : List Value) (a5 b8 : Int) => [(7, pV b7), (20, .slice d1 d0 d2), (21, iV (s1.length : Int)), (22, iV b8)]) (fun (e2 : Nat) (a2 : List Int) (b6 c11 : Nat) (a4 : Option Nat) (c0 : List Value) (a5 b8 : Int) => [(eC b7 #[sV a4 b6 c11, iV 0, .int .i8 a5] 52), (eA a4 (intC .u8) a2 c0 5)]) (fun (e2 : Nat) (a2 : List Int) (b6 c11 : Nat) (a4 : Option Nat) (c0 : List Value) (a5 b8 : Int) => e2) Yy ([]) 0 0 none ([]) 0 0 ⟨h4, rfl, (Nat.le_refl _), (Wy 0 _), (fun _ => rfl), (BufO.nil _)⟩ (aF rfl) (Zf Zh (Pick.none Zg)) ?_; rintro e2 a2 b6 c11 a4 c0 a5 b8 ⟨H, d5, d6, d7, d8, d9⟩; obtain ⟨h1, h6, rfl, H, e7⟩ := Ul H; have H : Rj s1 a2 b8 = some h6 := H; unfold Rj at H; refine sR Y1 rfl ?_; refine Zo Zm ?_; refine dS ?_; rcases Zp H with ⟨e8, H⟩ | ⟨e8, H⟩
    ·
     refine Yz rfl e8 ?_; refine T.skip ?_; refine Ya ?_; refine Zi ?_; refine T.block ?_; obtain ⟨h2, H⟩ := Ye H; refine sR Y5 rfl ?_; refine Zc Za ?_; refine Wl b9 h2 Zb Vt Vx ?_; refine Z51 b9 h2 Za Nk ?_; refine Zz Za ?_; refine aN Za ?_; refine sR Y1 rfl ?_; refine Zc Za ?_; refine dN ?_; rcases Zp H with ⟨e9, H⟩ | ⟨e9, H⟩
     · refine Ys rfl e9 ?_; obtain ⟨h7, H⟩ := Ye H; obtain ⟨e6, h8, H⟩ := Zq H; obtain ⟨h9, i3, i4, H⟩ := gd3 H; refine rG Y6 rfl ?_; refine Zc Za ?_; refine Wa h7 Zb ?_; refine Zw Z3l Za (fun wc hwc => Z4s (i0 := (b8 + 1)) wc (hG.mono hwc) h8) ?_; rintro _ _ ⟨rfl, rfl⟩; refine Ga (p := ([107, 32] : Str)) (q := e6) h9 Zb ?_; refine Ga (p := (([107, 32] : Str) ++ e6)) (q := ([10] : Str)) i3 Zb ?_; refine Z3d (ρ := Z26) (s := ((([107, 32] : Str) ++ e6) ++ ([10] : Str))) (xs := a2) (j := c0) (lr := a5) Z3e i4 rfl Z3p Zb Zh Zh rfl d5 d6 d7 d8 d9 ?_; intro f0 i5 c33 i6 f2 f3 f4 f5 f6 f7; refine Zj ?_; refine Xs ?_; refine Ya ?_; refine Zn (aT [7, 20, 21, 22] rfl) ?_; obtain ⟨i7, H⟩ := Ye H; refine rG Y2 rfl ?_; refine Wa i7 Zb ?_; refine Zc Za ?_; refine Zj ?_; have H := Vv H e7; exact Z3k h1 (a2 ++ ub ((([107, 32] : Str) ++ e6) ++ ([10] : Str))) i5 c33 f0 i6 f2 (b8 + 1) ⟨H, f3, f4, f5, f6, f7⟩ (Nat.lt_succ_self _) (aF rfl) (Zf Zh (Zf Zh Zg))
     · refine Xl rfl (Bool.eq_false_iff.2 e9) ?_; refine T.skip ?_; refine Xs ?_; refine Ya ?_; obtain ⟨i9, H⟩ := Ye H; refine rG Y2 rfl ?_; refine Wa i9 Zb ?_; refine Zc Za ?_; refine Zj ?_; have H := Vv H e7; exact Z3k h1 a2 b6 c11 a4 c0 a5 (b8 + 1) ⟨H, d5, d6, d7, d8, d9⟩ (Nat.lt_succ_self _) (aF rfl) (Zf Zh (Zf Zh Zg))
    · refine Yv rfl e8 ?_; refine T.exit ?_; refine Xn ?_; have H := Wm H e7 ▸ h5; refine Xn ?_; refine Vl ?_; exact Z3c a2 b6 c11 a4 c0 a5 ⟨H, d5, d6, d7, d8, d9⟩ (aF rfl) (Zf Zh (Zf Zh Zg))
   · rintro a3 n45 d3 a6 e1 b5 ⟨H, f8, f9, g0, g1, g2⟩; unfold Z1o at H; refine sR Y3 rfl ?_; refine Z82 (ρ := Z3j) (xs := a3) (j := e1) (lr := b5) Z7s Z77 Zb Zh Zh rfl f8 f9 g0 g1 g2 ?_; intro g3 j0 j1 j2 g4 g7 g8 g9; refine Zz Za ?_; refine aN Za ?_; refine T.ret ?_; obtain ⟨rfl, rfl⟩ := ret2 H; exact Xx Za (Res.tmp rfl) (Res.tmp rfl) (Zf Zh Zg) ⟨g3, j0, j1, j2, rfl, rfl, g4, g7, g8, g9⟩
theorem Z5u {b0 : List Int} {a2 : Option Addr} {a4 a3 : Nat} (w : World) (a6 : RS w [] (intC .u8) 1 a2 a4 a3 b0) (H : Lk b0 = some ()) : Fnc Tryd.prog 23 #[.slice a2 a4 a3] w [] (fun v N => ∃ (a5 : Nat), v = .func (.func 32) #[] #[pV a5] ∧ N = [(eC a5 #[.slice a2 a4 a3] 27)]) := by
 unfold Lk at H; refine Fnc.enter (vs := [.slice a2 a4 a3]) Tryd.func23 rfl rfl (Inv.refl w) ?_; refine sR Y2 rfl ?_; refine TO.box Za ?_; intro b1; refine aN Za ?_; refine sR Y2 rfl ?_; refine TO.makeFunc Zb ?_; refine aN Za ?_; refine T.ret ?_; exact Zy Za (Res.tmp rfl) (Zf Zh Zg) ⟨b1, rfl, rfl⟩
theorem Z8r {s0 sep1 : List Int} {sepSave2 : Int} {a6 a4 : Option Addr} {a7 a5 a2 a3 : Nat} (w : World) (b8 : RS w [] (intC .u8) 1 a6 a7 a5 s0) (a8 : RS w [] (intC .u8) 1 a4 a2 a3 sep1) (H : Z1e s0 sep1 sepSave2 = some ()) : Fnc Tryd.prog 49 #[.slice a6 a7 a5, .slice a4 a2 a3, iV sepSave2] w [] (fun v N => ∃ (a9 b6 b7 : Nat), v = .func (.func 63) #[] #[pV a9, pV b6, pV b7] ∧ N = [(eC a9 #[.slice a4 a2 a3] 27), (eC b6 #[.slice a6 a7 a5] 27), (eC b7 #[iV sepSave2] 3)]) := by
 unfold Z1e at H; refine Fnc.enter (vs := [.slice a6 a7 a5, .slice a4 a2 a3, iV sepSave2]) Tryd.func49 rfl rfl (Inv.refl w) ?_; refine sR Y4 rfl ?_; refine TO.box Za ?_; intro b1; refine TO.box Za ?_; intro b3; refine TO.box Za ?_; intro b5; refine aN Za ?_; refine sR Y2 rfl ?_; refine TO.makeFunc Zb ?_; refine aN Za ?_; refine T.ret ?_; exact Zy Za (Res.tmp rfl) (Zf Yl (Zf Yl (Zf Zh Zg))) ⟨b3, b1, b5, rfl, rfl⟩
theorem Z9v {s0 sep1 : List Int} {a6 a4 : Option Addr} {a7 a5 a2 a3 : Nat} (w : World) (a9 : RS w [] (intC .u8) 1 a6 a7 a5 s0) (a8 : RS w [] (intC .u8) 1 a4 a2 a3 sep1) (H : Z2t s0 sep1 = some ()) : Fnc Tryd.prog 33 #[.slice a6 a7 a5, .slice a4 a2 a3] w [] (fun v N => ∃ (b5 b6 b7 : Nat), v = .func (.func 63) #[] #[pV b5, pV b6, pV b7] ∧ N = [(eC b5 #[.slice a4 a2 a3] 27), (eC b6 #[.slice a6 a7 a5] 27), (eC b7 #[iV 0] 3)]) := by
 unfold Z2t at H; refine Fnc.enter (vs := [.slice a6 a7 a5, .slice a4 a2 a3]) Tryd.func33 rfl rfl (Inv.refl w) ?_; refine sR Y1 rfl ?_; refine aN Za ?_; refine Zi ?_; obtain ⟨⟨⟩, e1, H⟩ := Zq H; refine rG Y4 rfl ?_; refine Zc Za ?_; refine Zc Za ?_; refine Zw Zbp Za (fun wc hwc => Z8r (s0 := s0) (sep1 := sep1) (sepSave2 := 0) wc (a9.mono hwc) (a8.mono hwc) e1) ?_; rintro _ _ ⟨b2, b3, b4, rfl, rfl⟩; refine aN Za ?_; refine T.ret ?_; exact Zy Za (Res.tmp rfl) (Zf Zh (Zf Zh (Zf Zh Zg))) ⟨b2, b3, b4, rfl, rfl⟩
theorem Z9d {b0 : List Int} {c1 : Int} {a2 : Option Addr} {a4 a3 : Nat} (w : World) (a5 : RS w [] (intC .u8) 1 a2 a4 a3 b0) {r0 : Int} (H : Z2i b0 c1 = some r0) : Fnc Tryd.prog 76 #[.slice a2 a4 a3, .int .u8 c1] w [] (fun v N => v = iV r0 ∧ N = []) := by
 unfold Z2i at H; refine Fnc.enter (vs := [.slice a2 a4 a3, .int .u8 c1]) Tryd.func76 rfl rfl (Inv.refl w) ?_; refine sR Y1 rfl ?_; refine aN Za ?_; refine sR Y4 rfl ?_; refine Zc Za ?_; refine Zc Za ?_; refine TO.idxB (xs := b0) Zbq Zb (fun wc hwc => (a5.mono hwc)) ?_; refine aN Za ?_; refine T.ret ?_; obtain rfl := ret1 H; exact Zy Za (Res.tmp rfl) Zg ⟨rfl, rfl⟩
theorem Z8n {s0 sep1 : List Int} {a7 a5 : Option Addr} {a8 a6 a3 a4 : Nat} (w : World) (a9 : RS w [] (intC .u8) 1 a7 a8 a6 s0) (a2 : RS w [] (intC .u8) 1 a5 a3 a4 sep1) {r0 : Int} (H : Z03 s0 sep1 = some r0) : Fnc Tryd.prog 65 #[.slice a7 a8 a6, .slice a5 a3 a4] w [] (fun v N => v = iV r0 ∧ N = []) := by
 unfold Z03 at H; refine Fnc.enter (vs := [.slice a7 a8 a6, .slice a5 a3 a4]) Tryd.func65 rfl rfl (Inv.refl w) ?_; refine sR Y1 rfl ?_; refine aN Za ?_; refine sR Y3 rfl ?_; refine Zc Za ?_; refine Yq (xs := sep1) a2.len Zb We ?_; refine aN Za ?_; refine Zi ?_; refine T.block ?_; refine sR Y3 rfl ?_; refine Zc Za ?_; refine Zo Zm ?_; refine aN Za ?_; rcases Zp H with ⟨g1, H⟩ | ⟨g1, H⟩
 · cases H
 ·
  refine Yv rfl g1 ?_; refine sR Y3 rfl ?_; refine Zc Za ?_; refine Zo Zm ?_; refine aN Za ?_; refine Zn (aT [0, 1, 5, 25] rfl) ?_; rcases Zp H with ⟨g2, H⟩ | ⟨g2, H⟩
  · refine Yz rfl g2 ?_; refine Zi ?_; obtain ⟨g3, H⟩ := Ye H; obtain ⟨r4, e5, H⟩ := Zq H; refine rG Y6 rfl ?_; refine Zc Za ?_; refine Zc Za ?_; refine Wl a2 g3 Zb We Jc ?_; refine Z27 a2 g3 Za TWDSY.s5 ?_; refine Zw Zac Za (fun wc hwc => Z9d (b0 := s0) (c1 := (sep1.getD (0 : Int).toNat 0)) wc (a9.mono hwc) e5) ?_; rintro _ _ ⟨rfl, rfl⟩; refine aN Za ?_; refine Zn (aT [4] rfl) ?_; refine T.ret ?_; refine Yx ?_; refine Zu ?_; obtain rfl := ret1 H; exact Zy Za (Res.tmp rfl) Zg ⟨rfl, rfl⟩
  · cases H
theorem Zbx {S_ X_ : Type} {yy_ : S_ → List Int → Option (S_ ⊕ X_)} {c1 c2 : List Int} {c3 : Int} {tt_ : S_ ⊕ X_} {d2 e5 e4 a2 a4 a6 d3 l_ : Nat} {e6 a3 : Option Addr} {J_ : S_ ⊕ X_ → Heap → Prop} {a5 : Heap} (w : World) (hin : Inv w (ids (a5 ++ [(eC a2 #[.slice a3 a4 a6] 27)])) w (a5 ++ [(eC a2 #[.slice a3 a4 a6] 27)])) (g4 : J_ tt_ a5) (g9 : YCR Tryd.prog l_ (V := List Int) (fun w M v vals => ∃ (b0 : Option Addr) (n0 c0 : Nat), vals = [.slice b0 n0 c0] ∧ RS w M (intC .u8) 1 b0 n0 c0 v) yy_ J_ (fun HE_ => ∃ (e8 : Option Addr) (e9 f0 : Nat), HE_ = [(eC a2 #[.slice e8 e9 f0] 27)]) w (ids (a5 ++ [(eC a2 #[.slice a3 a4 a6] 27)]))) (d6 : RS w (ids (a5 ++ [(eC a2 #[.slice a3 a4 a6] 27)])) (intC .u8) 1 e6 e5 e4 c1) (a9 : HB w (ids (a5 ++ [(eC a2 #[.slice a3 a4 a6] 27)])) d2 [.slice e6 e5 e4]) (f2 : RS w (ids (a5 ++ [(eC a2 #[.slice a3 a4 a6] 27)])) (intC .u8) 1 a3 a4 a6 c2) (d8 : HB w (ids (a5 ++ [(eC a2 #[.slice a3 a4 a6] 27)])) d3 [iV c3]) {e7 : S_ ⊕ X_} (H : Z05 yy_ c1 c2 c3 tt_ = some e7) : Fnc Tryd.prog 63 #[.func (.yield l_) #[] #[], pV d2, pV a2, pV d3] w (ids (a5 ++ [(eC a2 #[.slice a3 a4 a6] 27)])) (fun v N => v = .tuple #[] ∧ ∃ HE_ Hs_, N = HE_ ++ Hs_ ∧ J_ e7 Hs_ ∧ ∃ (f3 : Option Addr) (f4 f5 : Nat), HE_ = [(eC a2 #[.slice f3 f4 f5] 27)]) := by
 unfold Z05 at H; refine Fnc.enter (vs := [.func (.yield l_) #[] #[], pV d2, pV a2, pV d3]) Tryd.func63 rfl rfl (hin.perm List.perm_append_comm) ?_; refine Zi ?_; refine sR Y3 rfl ?_; refine Uz a9 Zb Kg ?_; refine Yq (xs := c1) d6.len Zb We ?_; refine Zo Zm ?_; refine dN ?_; refine Wh (fun (u3 : Unit) => Z2x yy_ c1 c2 c3 tt_ = some e7) (fun (u3 : Unit) => [(0, .func (.yield l_) #[] #[]), (1, pV d2), (2, pV a2), (3, pV d3)]) (fun (u3 : Unit) => ((some a2, .cells #[.slice a3 a4 a6] 27 (0, 0)) :: a5)) ?_ ?_
 ·
  rcases Zp H with ⟨g2, H⟩ | ⟨g2, H⟩
  · cases H
  · refine Yv rfl g2 ?_; refine T.skip ?_; exact Xg () H (aF rfl) (Zf Zh (Zs _))
 ·
  rintro u3 H; unfold Z2x at H; refine Zi ?_; refine Z4n (fun (b7 : List Int) (a7 : Option Addr) (d4 d5 : Nat) (b8 : Heap) (b9 : S_ ⊕ X_) => Z0c yy_ b7 b9 = some e7 ∧ RS w (ids (a5 ++ [(eC a2 #[.slice a3 a4 a6] 27)])) (intC .u8) 1 a7 d4 d5 b7 ∧ J_ b9 b8) (fun (b7 : List Int) (a7 : Option Addr) (d4 d5 : Nat) (b8 : Heap) (b9 : S_ ⊕ X_) => [(0, .func (.yield l_) #[] #[]), (2, pV a2)]) (fun (b7 : List Int) (a7 : Option Addr) (d4 d5 : Nat) (b8 : Heap) (b9 : S_ ⊕ X_) => ((some a2, .cells #[.slice a7 d4 d5] 27 (0, 0)) :: b8)) ?_ ?_
  ·
   refine T.block ?_; obtain ⟨h0, h1, g5⟩ := Zq H; refine Z6o (fun (d9 : Nat) (c4 : List Int) (b6 : Option Addr) (n6 c7 : Nat) (d7 : Heap) (a8 : S_ ⊕ X_) => Xf (fun s => Jj yy_ c1 c3 s.1 s.2) d9 (c4, a8) = some h0 ∧ RS w (ids (a5 ++ [(eC a2 #[.slice a3 a4 a6] 27)])) (intC .u8) 1 b6 n6 c7 c4 ∧ J_ a8 d7) (fun (d9 : Nat) (c4 : List Int) (b6 : Option Addr) (n6 c7 : Nat) (d7 : Heap) (a8 : S_ ⊕ X_) => [(0, .func (.yield l_) #[] #[]), (1, pV d2), (2, pV a2), (3, pV d3)]) (fun (d9 : Nat) (c4 : List Int) (b6 : Option Addr) (n6 c7 : Nat) (d7 : Heap) (a8 : S_ ⊕ X_) => ((some a2, .cells #[.slice b6 n6 c7] 27 (0, 0)) :: d7)) (fun (d9 : Nat) (c4 : List Int) (b6 : Option Addr) (n6 c7 : Nat) (d7 : Heap) (a8 : S_ ⊕ X_) => d9) Yy c2 a3 a4 a6 a5 tt_ ⟨h1, f2, g4⟩ (aF rfl) (Zf Zh (Zs _)) ?_; rintro d9 c4 b6 n6 c7 d7 a8 ⟨H, d0, e1⟩; obtain ⟨h2, h3, rfl, H, f6⟩ := Ul H; have H : Jj yy_ c1 c3 c4 a8 = some h3 := H; unfold Jj at H; refine T.block ?_; refine Zi ?_; obtain ⟨b5, h4, H⟩ := Zq H; refine rG Y4 rfl ?_; refine Zt Za Kg Zl rfl ?_; refine Uz a9 Zb Kg ?_; refine Zw Zbo Za (fun wc hwc => Z8n (s0 := c4) (sep1 := c1) wc (d0.mono hwc) (d6.mono hwc) h4) ?_; rintro _ _ ⟨rfl, rfl⟩; refine aN Za ?_; refine Zi ?_; refine sR Y2 rfl ?_; refine Zc Za ?_; refine Zo Zm ?_; refine dN ?_; rcases Zp H with ⟨f7, H⟩ | ⟨f7, H⟩
   · refine Yz rfl f7 ?_; refine T.exit ?_; refine Xn ?_; refine Zbr rfl ?_; have H := Wm H f6 ▸ g5; refine Xn ?_; refine Vl ?_; exact Z3c c4 b6 n6 c7 d7 a8 ⟨H, d0, e1⟩ (aF rfl) (Zf Zh (Zs _))
   ·
    refine Yv rfl f7 ?_; refine T.skip ?_; refine Ya ?_; obtain ⟨h5, e0, H⟩ := Uf H; refine sR Y6 rfl ?_; refine Zt Za Kg Zl rfl ?_; refine Zc Za ?_; refine Uz d8 Zb Yr ?_; refine Wa h5 Zb ?_; refine TO.slH (xs := c4) d0.len d0.cap e0 Zb We Jc ?_; refine aN Za ?_; refine Zn (aT [0, 1, 2, 3, 7, 8] rfl) ?_; refine Zi ?_; refine Zi ?_; obtain ⟨g6, H⟩ := Ye H; obtain ⟨f8, h6, H⟩ := Zq H; refine rG Y9 rfl ?_; refine Zc Za ?_; refine Zc Za ?_; refine Zc Za ?_; refine Yq (xs := (c4.take (b5 + c3).toNat)) ((RS.take d0 e0).len) Zb We ?_; refine Zc Za ?_; refine Yq (xs := (c4.take (b5 + c3).toNat)) ((RS.take d0 e0).len) Zb We ?_; refine Z6x (xs := (c4.take (b5 + c3).toNat)) ((RS.take d0 e0).len) ((RS.take d0 e0).cap) g6 Zm We Jc ?_; refine Z4u (Ho := []) (HE := [(eC a2 #[.slice b6 n6 c7] 27)]) (v := ((c4.take (b5 + c3).toNat).take ((c4.take (b5 + c3).toNat).length : Int).toNat)) (vals := [.slice b6 (((c4.take (b5 + c3).toNat).length : Int).toNat) (((c4.take (b5 + c3).toNat).length : Int).toNat)]) g9 h6 e1 ⟨_, _, _, rfl⟩ Zb (Z7e Zh (Gone.refl _)) rfl (fun wc hwc hp => ⟨_, _, _, rfl, ((Z75 (RS.take d0 e0) g6).monoM (by decide) hwc hp rfl)⟩) ?_; intro e2 e3; refine Ld (H := ((some a2, .cells #[.slice b6 n6 c7] 27 (0, 0)) :: e2)) rfl ?_; refine TO.not Za ?_; refine dN ?_; refine Zn (aT [0, 1, 2, 3, 7, 48] rfl) ?_; rcases Zp H with ⟨f9, H⟩ | ⟨f9, H⟩
    · refine Ys rfl f9 ?_; refine T.ret ?_; refine Zu ?_; refine Yx ?_; have H := Wm H f6 ▸ g5; refine Zu ?_; refine Yx ?_; refine Zu ?_; obtain rfl := ret1 H; exact X.ret0 Za (Zf Zh (Zs _)) ⟨rfl, [(eC a2 #[.slice b6 n6 c7] 27)], _, rfl, e3, ⟨_, _, _, rfl⟩⟩
    · refine Xl rfl (Bool.eq_false_iff.2 f9) ?_; refine T.skip ?_; refine Ya ?_; obtain ⟨h7, g7, H⟩ := Uf H; refine rG Y7 rfl ?_; refine Zt Za Kg Zl rfl ?_; refine Zc Za ?_; refine Uz a9 Zb Kg ?_; refine Yq (xs := c1) d6.len Zb We ?_; refine Wa h7 Zb ?_; refine TO.slL (xs := c4) d0.len g7 Zb We Jc ?_; refine Xd (cs' := [.slice (Ua b6 (b5 + (c1.length : Int)).toNat c7 1) (n6 - (b5 + (c1.length : Int)).toNat) (c7 - (b5 + (c1.length : Int)).toNat)]) Za Zh Z8o Zv ?_; refine Zj ?_; refine Xs ?_; have H := Vv H f6; exact Z5m h2 (c4.drop (b5 + (c1.length : Int)).toNat) (Ua b6 (b5 + (c1.length : Int)).toNat c7 1) (n6 - (b5 + (c1.length : Int)).toNat) (c7 - (b5 + (c1.length : Int)).toNat) e2 f8 ⟨H, (RS.drop d0 g7), e3⟩ (Nat.lt_succ_self _) (aF rfl) (Zf Zh (Zs _))
  · rintro b7 a7 d4 d5 b8 b9 ⟨H, d1, g0⟩; unfold Z0c at H; obtain ⟨g8, H⟩ := Ye H; obtain ⟨h8, h9, H⟩ := Zq H; refine rG Y8 rfl ?_; refine Zc Za ?_; refine Zt Za Kg Zl rfl ?_; refine Zt Za Kg Zl rfl ?_; refine Yq (xs := b7) d1.len Zb We ?_; refine Zt Za Kg Zl rfl ?_; refine Yq (xs := b7) d1.len Zb We ?_; refine Z6x (xs := b7) d1.len d1.cap g8 Zm We Jc ?_; refine Z4u (Ho := []) (HE := [(eC a2 #[.slice a7 d4 d5] 27)]) (v := (b7.take (b7.length : Int).toNat)) (vals := [.slice a7 ((b7.length : Int).toNat) ((b7.length : Int).toNat)]) g9 h9 g0 ⟨_, _, _, rfl⟩ Zb (Z7e Zh (Gone.refl _)) rfl (fun wc hwc hp => ⟨_, _, _, rfl, ((Z75 d1 g8).monoM (by decide) hwc hp rfl)⟩) ?_; intro g1 g3; refine Ld (H := ((some a2, .cells #[.slice a7 d4 d5] 27 (0, 0)) :: g1)) rfl ?_; refine Zj ?_; refine X.fall ?_; obtain rfl := ret1 H; exact X.ret0 Za (Zf Zh (Zs _)) ⟨rfl, [(eC a2 #[.slice a7 d4 d5] 27)], _, rfl, g3, ⟨_, _, _, rfl⟩⟩
theorem Z7p {S_ X_ : Type} {yy_ : S_ → List Str → Option (S_ ⊕ X_)} {c1 : List Int} {tt_ : S_ ⊕ X_} {e1 e2 e0 l_ : Nat} {e3 : Option Addr} {J_ : S_ ⊕ X_ → Heap → Prop} {a4 : Heap} (w : World) (hin : Inv w (ids (a4 ++ [])) w (a4 ++ [])) (g1 : J_ tt_ a4) (f0 : YCR Tryd.prog l_ (V := List Str) (fun w M v vals => ∃ (b0 : Option Addr) (n0 c0 : Nat), vals = [.slice b0 n0 c0] ∧ RS w M Ud 1 b0 n0 c0 v) yy_ J_ (fun HE_ => HE_ = []) w (ids (a4 ++ []))) (d5 : RS w (ids (a4 ++ [])) (intC .u8) 1 e3 e2 e0 c1) (a7 : HB w (ids (a4 ++ [])) e1 [.slice e3 e2 e0]) {f4 : S_ ⊕ X_} (H : Lh yy_ c1 tt_ = some f4) : Fnc Tryd.prog 32 #[.func (.yield l_) #[] #[], pV e1] w (ids (a4 ++ [])) (fun v N => v = .tuple #[] ∧ ∃ HE_ Hs_, N = HE_ ++ Hs_ ∧ J_ f4 Hs_ ∧ HE_ = []) := by
 unfold Lh at H; refine Z4t (vs := [.func (.yield l_) #[] #[], pV e1]) Tryd.func32 rfl rfl (hin.perm List.perm_append_comm) ?_; refine sR Y1 rfl ?_; refine TO.box Za ?_; intro b1; refine dS ?_; obtain ⟨⟨⟩, e5, H⟩ := Zq H; refine rG Y3 rfl ?_; refine Uz a7 Zb Kg ?_; refine Un [.int .u8 0] [0] Za We Jc Z1q Xj (by simp only [Xz, setCells, Value.cells, List.toList_toArray, List.getD_cons_zero, List.getD_cons_succ, List.set_cons_zero, List.set_cons_succ]; rfl) (by kernel_rfl) ?_; intro b3; refine Zw Z90 Za (fun wc hwc => Z9v (s0 := c1) (sep1 := [10]) wc (d5.mono hwc) (hwc.rs (f := (intC .u8)) (s := 1) (xs := [10]) (j := ([])) (fun _ => rfl) Zl rfl (Nat.le_refl _) Xu) e5) ?_; rintro _ _ ⟨b6, b7, b8, rfl, rfl⟩; refine dN ?_; refine T.block ?_; obtain ⟨g5, g6, g2⟩ := Zq H; refine Z4j (S := ((S_ ⊕ X_))) (X := ((S_ ⊕ X_))) (V := List Int) rfl Z99 Xj (fun w M v vals => ∃ (b0 : Option Addr) (n0 c0 : Nat), vals = [.slice b0 n0 c0] ∧ RS w M (intC .u8) 1 b0 n0 c0 v) (by rintro _ _ _ _ ⟨_, _, _, rfl, _⟩; rfl) (fun s v => Jn yy_ s v) (fun t Hq => match t with | .inl a3 => ∃ (a2 : Heap), (a2) = Hq ∧ J_ a3 a2 | .inr a3 => ∃ (a2 : Heap), (a2) = Hq ∧ J_ a3 a2) (fun HE_ => ∃ (f5 : Option Addr) (f6 f7 : Nat), HE_ = [(eC b7 #[.slice f5 f6 f7] 27)]) (fun HE_ => ∃ (a8 : Option Addr) (a9 b5 : Nat), HE_ = [(eC b7 #[.slice a8 a9 b5] 27)]) (fun _ => .ret) tt_ g5 (a4) [(eC b7 #[.slice e3 e2 e0] 27)] [(eC b6 #[nV b3 1 1] 27), (eC b8 #[iV 0] 3), (eA (some b3) (intC .u8) ([10]) ([]) 5), (eC b1 #[.func (.yield l_) #[] #[]] 81)] ⟨a4, rfl, g1⟩ (Zf Yl (Zf Zh (Zf Zh (Zf Zh (Zf Zh (Zs _)))))) ?_ ?_ ?_ ?_
 · intro lp wc J_ H0_ hJ_ hin_ f0 lo_ hwc g7; subst g7; exact Zbx (yy_ := (fun s v => Jn yy_ s v)) (c1 := [10]) (c2 := c1) (c3 := 0) (tt_ := .inl tt_) (J_ := J_) wc hin_ hJ_ f0 (hwc.rsM (f := (intC .u8)) (s := 1) (xs := [10]) (j := ([])) (fun _ => rfl) (List.Perm.refl _) rfl Xw rfl (Nat.le_refl _) Xu) (hwc.hbM (cs := [nV b3 1 1]) (List.Perm.refl _) rfl Zl) (d5.monoM (by decide) hwc (List.Perm.refl _) rfl) (hwc.hbM (cs := [iV 0]) (List.Perm.refl _) rfl Xk) g6
 ·
  rintro lp h8 a3 g3 g8 _ _ _ hy ⟨a2, rfl, a6⟩ ⟨d6, d7, d8, rfl⟩ ⟨e4, e6, e7, rfl, b9⟩ g9 h0; refine rG Y1 rfl ?_; refine Zz Za ?_; refine Zj ?_; refine Z4w [(2, pV b1), (8, .slice e4 e6 e7), (3, .slice e4 e6 e7)] ((some b7, .cells #[.slice d6 d7 d8] 27 (0, 0)) :: a2) (aF rfl) (Zs _) ?_; intro h9 h1 hwc h2; have d5 := d5.monoM (by decide) hwc (List.Perm.refl _) rfl; have a7 := a7.monoM (by simp) hwc (List.Perm.refl _) rfl; have e8 := hwc.hbM (cs := [.func (.yield l_) #[] #[]]) (List.Perm.refl _) rfl Ui; have b9 := b9.monoM (by decide) h2 (List.Perm.of_eq (List.append_nil _).symm) rfl; have f0 := f0.rebase hwc; have H : Jn yy_ a3 g3 = some g8 := hy; unfold Jn at H; refine T.block ?_; refine Zi ?_; obtain ⟨d0, h3, H⟩ := Zq H; refine rG Y3 rfl ?_; refine Zc Za ?_; refine Zw Zbi Za (fun wc hwc => Zaz (line0 := g3) wc (b9.mono hwc) h3) ?_; rintro _ _ ⟨d9, h4, c30, f8, rfl, rfl, a5, d1, h5, d2⟩; refine aN Za ?_; refine Zi ?_; rcases Zp H with ⟨f2, H⟩ | ⟨f2, H⟩
  ·
   obtain ⟨f3, g4, H⟩ := Uf H; rcases Zp H with ⟨f9, H⟩ | ⟨f9, H⟩
   ·
    obtain ⟨h6, h7, H⟩ := Zq H; refine rG Y16 rfl ?_; refine Zc Za ?_; refine Yq (xs := d0) a5 Zb Wp ?_; refine Zo Zm ?_; refine Zc Za ?_; refine Zr (t := 14) (b' := true) rfl (decide_eq_true f2) ?_; refine Zc Za ?_; refine Z47 d2 d1 a5 f3 Zb Wp Ve ?_; refine Z63 (f := Ud) (v := .string (bs (d0.getD (0 : Int).toNat ([] : Str)))) ([] : Str) (fun _ => rfl) d2 d1 a5 f3 Zb Wz Zl ?_; refine TO.ixT (p := (d0.getD (0 : Int).toNat ([] : Str))) g4 Zb Na ?_; refine Zo Zm ?_; refine Yf Zb ?_; refine Zc Za ?_; refine Zr (t := 21) (b' := true) rfl (decide_eq_true f9) ?_; refine Uz e8 Zb Z98 ?_; refine Zc Za ?_; refine Z4u (Ho := [(eA d9 Ud d0 f8 9), (eC b7 #[.slice d6 d7 d8] 27)]) (HE := []) (v := d0) (vals := [sV d9 h4 c30]) f0 h7 a6 rfl Zb (List.Perm.refl _) rfl (fun wc hwc hp => ⟨_, _, _, rfl, (hwc.rsM (f := Ud) (s := 1) (xs := d0) (j := f8) (fun _ => rfl) hp rfl Zl a5 d1 d2)⟩) ?_; intro d3 e9; refine Ld (H := ((eA d9 Ud d0 f8 9) :: (eC b7 #[.slice d6 d7 d8] 27) :: d3)) rfl ?_; refine TO.not Za ?_; refine Yf Zb ?_; refine dN ?_; refine Zn (aT [2, 8, 15, 16, 17, 18, 19, 22, 23, 24, 25, 26] rfl) ?_; rcases Zp H with ⟨g0, H⟩ | ⟨g0, H⟩
    · refine Ys rfl g0 ?_; refine T.ret ?_; refine Yx ?_; exact Lj H rfl ⟨(d3), rfl, ⟨d3, rfl, e9⟩⟩ (Zf Yl (Pick.skip (Zs _)))
    · refine Xl rfl (Bool.eq_false_iff.2 g0) ?_; refine T.skip ?_; refine Xs ?_; exact Nx H ⟨(d3), rfl, ⟨d3, rfl, e9⟩⟩ (Zf Yl (Pick.skip (Zs _)))
   · refine rG Y16 rfl ?_; refine Zc Za ?_; refine Yq (xs := d0) a5 Zb Wp ?_; refine Zo Zm ?_; refine Zc Za ?_; refine Zr (t := 14) (b' := true) rfl (decide_eq_true f2) ?_; refine Zc Za ?_; refine Z47 d2 d1 a5 f3 Zb Wp Ve ?_; refine Z63 (f := Ud) (v := .string (bs (d0.getD (0 : Int).toNat ([] : Str)))) ([] : Str) (fun _ => rfl) d2 d1 a5 f3 Zb Wz Zl ?_; refine TO.ixT (p := (d0.getD (0 : Int).toNat ([] : Str))) g4 Zb Na ?_; refine Zo Zm ?_; refine Yf Zb ?_; refine Zc Za ?_; refine Zr (t := 21) (b' := false) rfl (decide_eq_false f9) ?_; refine Ze Za ?_; refine Ze Za ?_; refine Ze Za ?_; refine Ze Za ?_; refine Yc Zb ?_; refine dN ?_; refine Zn (aT [2, 8, 15, 16, 17, 18, 19, 22, 23, 24, 25, 26] rfl) ?_; refine Xl rfl rfl ?_; refine T.skip ?_; refine Xs ?_; exact Nx H ⟨(a2), rfl, ⟨a2, rfl, a6⟩⟩ (Zf Yl (Pick.skip (Zs _)))
  · refine rG Y16 rfl ?_; refine Zc Za ?_; refine Yq (xs := d0) a5 Zb Wp ?_; refine Zo Zm ?_; refine Zc Za ?_; refine Zr (t := 14) (b' := false) rfl (decide_eq_false f2) ?_; refine Ze Za ?_; refine Ze Za ?_; refine Ze Za ?_; refine Ze Za ?_; refine Ze Za ?_; refine Yc Zb ?_; refine Zc Za ?_; refine Ze Za ?_; refine Ze Za ?_; refine Ze Za ?_; refine Ze Za ?_; refine Yc Zb ?_; refine dN ?_; refine Zn (aT [2, 8, 15, 16, 17, 18, 19, 22, 23, 24, 25, 26] rfl) ?_; refine Xl rfl rfl ?_; refine T.skip ?_; refine Xs ?_; exact Nx H ⟨(a2), rfl, ⟨a2, rfl, a6⟩⟩ (Zf Yl (Pick.skip (Zs _)))
 · rintro a3 ht d4 _ _ ⟨a2, rfl, a6⟩ ⟨a8, a9, b5, rfl⟩; subst ht; have H : (some a3) = some f4 := g2; refine Z45 (H := ((some b7, .cells #[.slice a8 a9 b5] 27 (0, 0)) :: (some d4, mkO) :: (eC b6 #[nV b3 1 1] 27) :: (eC b8 #[iV 0] 3) :: (eA (some b3) (intC .u8) ([10]) ([]) 5) :: (eC b1 #[.func (.yield l_) #[] #[]] 81) :: a2)) rfl ?_; refine Xs ?_; refine X.fallM ?_; obtain rfl := ret1 H; exact Z7q [d4] Zb (Zf Yl (Zs _)) (Pick.skip (Pick.skip (Pick.skip (Pick.skip (Pick.skip (Zs _)))))) ⟨rfl, [], _, rfl, a6, rfl⟩
 · rintro a3 ht d4 _ _ ⟨a2, rfl, a6⟩ ⟨a8, a9, b5, rfl⟩; subst ht; have H : (some a3) = some f4 := g2; refine Z4x (H := ((some b7, .cells #[.slice a8 a9 b5] 27 (0, 0)) :: (some d4, mkO) :: (eC b6 #[nV b3 1 1] 27) :: (eC b8 #[iV 0] 3) :: (eA (some b3) (intC .u8) ([10]) ([]) 5) :: (eC b1 #[.func (.yield l_) #[] #[]] 81) :: a2)) rfl ?_; refine T.ret ?_; refine Yx ?_; obtain rfl := ret1 H; exact Z7q [d4] Zb (Zf Yl (Zs _)) (Pick.skip (Pick.skip (Pick.skip (Pick.skip (Pick.skip (Zs _)))))) ⟨rfl, [], _, rfl, a6, rfl⟩
theorem Z9w {n0 : Net} {b1 : List Int} {a6 d8 : Option Addr} {a8 a7 d7 d6 : Nat} (w : World) (b9 : RS w [] Yd 3 a6 a8 a7 n0.Arcs) (f8 : RS w [] (intC .u8) 1 d8 d7 d6 b1) (hG : GK Tryd.prog w []) {r0 : Str} {r1 : List Int} {r2 : Bool} (H : Z07 n0 b1 = some (r0, r1, r2)) : Fnc Tryd.prog 21 #[.agg #[iV n0.N, iV n0.S, iV n0.T, .slice a6 a8 a7], .slice d8 d7 d6] w [] (fun v N => ∃ (g5 : Option Nat) (h6 h7 : Nat) (j2 : List Value), v = .tuple #[.string (bs r0), sV g5 h6 h7, .bool r2] ∧ N = [(eI g5 r1 j2 2)] ∧ r1.length = h6 ∧ h6 ≤ h7 ∧ j2.length = (h7 - h6) * 1 ∧ (g5 = none → h7 = 0)) := by
 unfold Z07 at H; refine Z4t (vs := [.agg #[iV n0.N, iV n0.S, iV n0.T, .slice a6 a8 a7], .slice d8 d7 d6]) Tryd.func21 rfl rfl (Inv.refl w) ?_; refine sR Y4 rfl ?_; refine Xo Za ?_; intro b2; refine TO.alloc Zv Z6f ?_; intro b4; refine TO.alloc Zv Z7v ?_; intro b6; refine TO.alloc Zv Rr ?_; intro b8; refine dN ?_; refine sR Y2 rfl ?_; refine TO.alloc Zv Z6f ?_; intro e0; refine Xd (cs' := [.string (bs ([] : Str))]) Za Zh Ve Zv ?_; refine dN ?_; refine sR Y3 rfl ?_; refine Za8 Zv Xh Xp ?_; intro h8; refine TO.alloc Zv Z7v ?_; intro e1; refine Xd (cs' := [nV h8 0 0]) Za Zh Gw Zv ?_; refine dS ?_; refine Zi ?_; obtain ⟨⟨⟩, j9, H⟩ := Zq H; refine rG Y2 rfl ?_; refine Zc Za ?_; refine Zw Z80 Za (fun wc hwc => Z5u (b0 := b1) wc (f8.mono hwc) j9) ?_; rintro _ _ ⟨h4, rfl, rfl⟩; refine dN ?_; refine T.block ?_; obtain ⟨k0, f9, j3⟩ := Zq H; refine Z4j (S := (Str × List Int)) (X := (Str × List Int)) (V := List Str) rfl Z5j Xj (fun w M v vals => ∃ (b0 : Option Addr) (n0 c0 : Nat), vals = [.slice b0 n0 c0] ∧ RS w M Ud 1 b0 n0 c0 v) (by rintro _ _ _ _ ⟨_, _, _, rfl, _⟩; rfl) (fun s v => Jl n0 s.1 s.2 v) (fun t Hq => match t with | .inl (a2, a9) => ∃ (a5 c22 : Nat) (a3 : Option Nat) (d0 : List Value), Hq = [(eC b4 #[.string (bs ([] : Str))] 9), (eC b6 #[.slice none 0 0] 25), (eC b8 #[.bool false] 4), (eC e0 #[.string (bs a2)] 9), (eC e1 #[sV a3 a5 c22] 25), (eI a3 a9 d0 2)] ∧ a9.length = a5 ∧ a5 ≤ c22 ∧ d0.length = (c22 - a5) * 1 ∧ (a3 = none → c22 = 0) | .inr (a2, a9) => ∃ (a5 c22 : Nat) (a3 : Option Nat) (d0 : List Value), Hq = [(eC b4 #[.string (bs ([] : Str))] 9), (eC b6 #[.slice none 0 0] 25), (eC b8 #[.bool false] 4), (eC e0 #[.string (bs a2)] 9), (eC e1 #[sV a3 a5 c22] 25), (eI a3 a9 d0 2)] ∧ a9.length = a5 ∧ a5 ≤ c22 ∧ d0.length = (c22 - a5) * 1 ∧ (a3 = none → c22 = 0)) (fun HE_ => HE_ = []) (fun HE_ => HE_ = []) (fun _ => .ret) (([] : Str), ([] : List Int)) k0 [(eC b4 #[.string (bs ([] : Str))] 9), (eC b6 #[.slice none 0 0] 25), (eC b8 #[.bool false] 4), (eC e0 #[.string (bs ([] : Str))] 9), (eC e1 #[nV h8 0 0] 25), (eI (some h8) ([] : List Int) ([]) 2)] [] [(eC h4 #[.slice d8 d7 d6] 27), (eC b2 #[iV n0.N, iV n0.S, iV n0.T, .slice a6 a8 a7] 24)] ⟨0, 0, (some h8), ([]), rfl, rfl, (Nat.le_refl _), (Wy 0 _), Xu⟩ (Zf Zh (Zf tk6 (Zf tk5 (Zf tk4 (Zf Uw (Zf Wj (Zf Zh (Zf Zh (Zs _))))))))) ?_ ?_ ?_ ?_
 · intro lp wc J_ H0_ hJ_ hin_ hY_ lo_ hwc k1; subst k1; exact Z7p (yy_ := (fun s v => Jl n0 s.1 s.2 v)) (c1 := b1) (tt_ := .inl (([] : Str), ([] : List Int))) (J_ := J_) wc hin_ hJ_ hY_ (f8.monoM (by decide) hwc (List.Perm.refl _) rfl) (hwc.hbM (cs := [.slice d8 d7 d6]) (List.Perm.refl _) rfl Zl) f9
 ·
  rintro lp k8 ⟨a2, a9⟩ e3 j4 _ _ _ hy ⟨a5, c22, a3, d0, rfl, b7, d2, d3, d4⟩ rfl ⟨g0, g1, g2, rfl, b5⟩ k2 k3; refine rG Y1 rfl ?_; refine Zz Za ?_; refine Zj ?_; refine Z4w [(2, pV b2), (4, pV b4), (5, pV b6), (6, pV b8), (7, pV e0), (8, pV e1), (15, .slice g0 g1 g2), (9, .slice g0 g1 g2)] [(eC b4 #[.string (bs ([] : Str))] 9), (eC b6 #[.slice none 0 0] 25), (eC b8 #[.bool false] 4), (eC e0 #[.string (bs a2)] 9), (eC e1 #[sV a3 a5 c22] 25), (eI a3 a9 d0 2)] (aF rfl) (Zs _) ?_; intro k9 k4 hwc k5; have b9 := b9.monoM (by decide) hwc (List.Perm.refl _) rfl; have f8 := f8.monoM (by decide) hwc (List.Perm.refl _) rfl; have g4 := hwc.hbM (cs := [iV n0.N, iV n0.S, iV n0.T, .slice a6 a8 a7]) (List.Perm.refl _) rfl Xk; have b5 := b5.monoM (by decide) k5 (List.Perm.of_eq (List.append_nil _).symm) rfl; have hG := hG.monoM hwc (List.Perm.refl _) rfl; have H : Jl n0 a2 a9 e3 = some j4 := hy
  unfold Jl at H; refine T.block ?_; refine Zi ?_; refine sR Y2 rfl ?_; refine Zt Za Wz Ui rfl ?_; refine Z53 (p := a2) (q := ([] : Str)) Zb ?_; refine dN ?_; rcases Zp H with ⟨h9, H⟩ | ⟨h9, H⟩
  ·
   refine Yz rfl h9 ?_; refine Zi ?_; refine Zi ?_; refine Wh (fun (h5 : Bool) => Ny a2 a9 e3 h5 = some j4) (fun (h5 : Bool) => [(2, pV b2), (4, pV b4), (5, pV b6), (6, pV b8), (7, pV e0), (8, pV e1), (9, .slice g0 g1 g2), (15, .slice g0 g1 g2), (26, .bool h5)]) (fun (h5 : Bool) => [(eC b4 #[.string (bs ([] : Str))] 9), (eC b6 #[.slice none 0 0] 25), (eC b8 #[.bool false] 4), (eC e0 #[.string (bs a2)] 9), (eC e1 #[sV a3 a5 c22] 25), (eI a3 a9 d0 2)]) ?_ ?_
   ·
    rcases Zp H with ⟨i3, H⟩ | ⟨i3, H⟩
    · refine rG Y9 rfl ?_; refine Zc Za ?_; refine Yq (xs := e3) b5.len Zb Wp ?_; refine Zo Zm ?_; refine Zc Za ?_; refine Zr (t := 21) (b' := true) rfl (decide_eq_true i3) ?_; refine Ze Za ?_; refine Ze Za ?_; refine Ze Za ?_; refine Ze Za ?_; refine Yf Zb ?_; refine Zj ?_; exact Xg true H (aF rfl) (Zf Zh (Zf Zh (Zf Zh (Zf Zh (Zf Zh (Zf Zh Zg))))))
    · obtain ⟨j5, H⟩ := Ye H; refine rG Y9 rfl ?_; refine Zc Za ?_; refine Yq (xs := e3) b5.len Zb Wp ?_; refine Zo Zm ?_; refine Zc Za ?_; refine Zr (t := 21) (b' := false) rfl (decide_eq_false i3) ?_; refine Zc Za ?_; refine Wl b5 j5 Zb Wp Ve ?_; refine Z34 (v := .string (bs (e3.getD (0 : Int).toNat ([] : Str)))) ([] : Str) b5 j5 Zb Wz ?_; refine Lf (p := (e3.getD (0 : Int).toNat ([] : Str))) (q := ([115] : Str)) Zb ?_; refine Yc Zb ?_; refine Zj ?_; exact Xg (decide (¬((e3.getD (0 : Int).toNat ([] : Str)) = ([115] : Str)))) H (aF rfl) (Zf Zh (Zf Zh (Zf Zh (Zf Zh (Zf Zh (Zf Zh Zg))))))
   ·
    rintro h5 H; unfold Ny at H; rcases Zp H with ⟨i4, H⟩ | ⟨i4, H⟩
    · refine Ys rfl i4 ?_; refine sR Y3 rfl ?_; refine Xd (cs' := [.string (bs ([] : Str))]) Za Zh Ve Zv ?_; refine Xd (cs' := [.slice none 0 0]) Za Yl Gw Zv ?_; refine Xd (cs' := [.bool false]) Za Wj Vx Zv ?_; refine dN ?_; refine T.ret ?_; refine Zu ?_; refine Zu ?_; refine Yx ?_; exact Lj H rfl ⟨[(eC b4 #[.string (bs ([] : Str))] 9), (eC b6 #[.slice none 0 0] 25), (eC b8 #[.bool false] 4), (eC e0 #[.string (bs a2)] 9), (eC e1 #[sV a3 a5 c22] 25), (eI a3 a9 d0 2)], rfl, ⟨a5, c22, a3, d0, rfl, b7, d2, d3, d4⟩⟩ (Zf Wj (Zf Yl (Zf Zh (Zf Zh (Zf Zh (Zf Zh Zg))))))
    · refine Xl rfl (Bool.eq_false_iff.2 i4) ?_; refine T.skip ?_; refine Ya ?_; obtain ⟨j6, H⟩ := Ye H; refine sR Y4 rfl ?_; refine Zc Za ?_; refine Wl b5 j6 Zb Wp Ve ?_; refine Z34 (v := .string (bs (e3.getD (1 : Int).toNat ([] : Str)))) ([] : Str) b5 j6 Zb Wz ?_; refine Xd (cs' := [.string (bs (e3.getD (1 : Int).toNat ([] : Str)))]) Za Uw Ve Zv ?_; refine dN ?_; refine T.exit ?_; refine Xn ?_; refine Vl ?_; exact Nx H ⟨[(eC b4 #[.string (bs ([] : Str))] 9), (eC b6 #[.slice none 0 0] 25), (eC b8 #[.bool false] 4), (eC e0 #[.string (bs (e3.getD (1 : Int).toNat ([] : Str)))] 9), (eC e1 #[sV a3 a5 c22] 25), (eI a3 a9 d0 2)], rfl, ⟨a5, c22, a3, d0, rfl, b7, d2, d3, d4⟩⟩ (Zf Yl (Zf Yl (Zf Yl (Zf Zh (Zf Zh (Zf Zh Zg))))))
  ·
   refine Yv rfl h9 ?_; refine T.skip ?_; refine Ya ?_; refine Zi ?_; refine sR Y6 rfl ?_; refine Zt Za Je Wt rfl ?_; refine Yq (xs := a9) b7 Zb Xh ?_; refine Zx Za Vd ?_; refine Uz g4 Zb Vm ?_; refine Yq (xs := n0.Arcs) b9.len Zb Xr ?_; refine Zo Zm ?_; refine dN ?_; rcases Zp H with ⟨i5, H⟩ | ⟨i5, H⟩
   · refine Yz rfl i5 ?_; refine sR Y3 rfl ?_; refine Xd (cs' := [.string (bs ([] : Str))]) Za Zh Ve Zv ?_; refine Xd (cs' := [.slice none 0 0]) Za Yl Gw Zv ?_; refine Xd (cs' := [.bool false]) Za Wj Vx Zv ?_; refine dN ?_; refine Zn (aT [4, 5, 6] rfl) ?_; refine T.ret ?_; refine Zu ?_; refine Yx ?_; exact Lj H rfl ⟨[(eC b4 #[.string (bs ([] : Str))] 9), (eC b6 #[.slice none 0 0] 25), (eC b8 #[.bool false] 4), (eC e0 #[.string (bs a2)] 9), (eC e1 #[sV a3 a5 c22] 25), (eI a3 a9 d0 2)], rfl, ⟨a5, c22, a3, d0, rfl, b7, d2, d3, d4⟩⟩ (Zf Wj (Zf Yl (Zf Zh (Zf Zh (Zf Zh (Zf Zh Zg))))))
   ·
    refine Yv rfl i5 ?_; refine T.skip ?_; refine Ya ?_; refine Zn (aT [2, 4, 5, 6, 7, 8, 15, 9] rfl) ?_; refine Zi ?_; obtain ⟨j7, H⟩ := Ye H; obtain ⟨⟨i6, l0⟩, k6, H⟩ := Zq H; refine rG Y13 rfl ?_; refine Zx Za Vd ?_; refine Uz g4 Zb Vm ?_; refine Zt Za Je Wt rfl ?_; refine Yq (xs := a9) b7 Zb Xh ?_; refine Wl b9 j7 Zb Xr Ws ?_; refine Jh (cs := [iV ((n0.Arcs.getD (a9.length : Int).toNat default).fr), iV ((n0.Arcs.getD (a9.length : Int).toNat default).to), iV ((n0.Arcs.getD (a9.length : Int).toNat default).cap)]) default b9 j7 Zb Uj ?_; refine Zc Za ?_; refine Zw Z9z Za (fun wc hwc => Zbs (a0 := (n0.Arcs.getD (a9.length : Int).toNat default)) (w1 := e3) wc (b5.mono hwc) (hG.mono hwc) k6) ?_; rintro _ _ ⟨rfl, rfl⟩; refine Zc Za ?_; refine TO.extract Zb ?_; refine TO.extract Zb ?_; refine Zz Za ?_; refine aN Za ?_; refine Zn (aT [2, 4, 5, 6, 7, 8, 15, 10, 11] rfl) ?_; refine Zi ?_; refine sR Y2 rfl ?_; refine Zc Za ?_; refine TO.not Za ?_; refine dN ?_; rcases Zp H with ⟨i7, H⟩ | ⟨i7, H⟩
    · refine Ys rfl i7 ?_; refine sR Y3 rfl ?_; refine Xd (cs' := [.string (bs ([] : Str))]) Za Zh Ve Zv ?_; refine Xd (cs' := [.slice none 0 0]) Za Yl Gw Zv ?_; refine Xd (cs' := [.bool false]) Za Wj Vx Zv ?_; refine dN ?_; refine Zn (aT [4, 5, 6] rfl) ?_; refine T.ret ?_; refine Zu ?_; refine Yx ?_; exact Lj H rfl ⟨[(eC b4 #[.string (bs ([] : Str))] 9), (eC b6 #[.slice none 0 0] 25), (eC b8 #[.bool false] 4), (eC e0 #[.string (bs a2)] 9), (eC e1 #[sV a3 a5 c22] 25), (eI a3 a9 d0 2)], rfl, ⟨a5, c22, a3, d0, rfl, b7, d2, d3, d4⟩⟩ (Zf Wj (Zf Yl (Zf Zh (Zf Zh (Zf Zh (Zf Zh Zg))))))
    · refine Xl rfl (Bool.eq_false_iff.2 i7) ?_; refine T.skip ?_; refine Ya ?_; obtain ⟨k7, H⟩ := Ye H; refine rG Y5 rfl ?_; refine Zt Za Je Wt rfl ?_; refine Zc Za ?_; refine Un [iV 0] [0] Za Xh Xp Gf Xj (by simp only [Xz, setCells, Value.cells, List.toList_toArray, List.getD_cons_zero, List.getD_cons_succ, List.set_cons_zero, List.set_cons_succ]; rfl) (by kernel_rfl) ?_; intro l3; refine TO.app (f := iC) (s := 1) (xs := a9) (ob := a3) (j := d0) (ys := [i6]) (fun _ => rfl) (fun _ => rfl) Z9r k7 Zb tk6 b7 d2 d3 d4 (fun wc hwc => (hwc.rs (f := iC) (s := 1) (xs := [i6]) (j := ([])) (fun _ => rfl) Zl rfl (Nat.le_refl _) Xu)) ?_; intro g3 c51 j8 i8 i9 j0; refine Xd (cs' := [sV g3 (a5 + 1) c51]) Za tk6 Gw Zv ?_; refine Zj ?_; refine Xs ?_; exact Nx H ⟨[(eC b4 #[.string (bs ([] : Str))] 9), (eC b6 #[.slice none 0 0] 25), (eC b8 #[.bool false] 4), (eC e0 #[.string (bs a2)] 9), (eC e1 #[sV g3 (a5 + 1) c51] 25), (eI g3 (a9 ++ ([i6])) j8 2)], rfl, ⟨(a5 + 1), c51, g3, j8, rfl, (Z3h b7 rfl), i8, i9, j0⟩⟩ (Zf Uw (Zf Uw (Zf Uw (Zf Uw (Zf Zh (Zf Zh Zg))))))
 ·
  rintro ⟨a2, a9⟩ ht d9 _ _ ⟨a5, c22, a3, d0, rfl, b7, d2, d3, d4⟩ rfl; subst ht; have H : (if ¬(a2 = ([] : Str)) then (some (a2, a9, (decide ((a9.length : Int) = (n0.Arcs.length : Int))))) else some (a2, a9, false)) = some (r0, r1, r2) := j3; refine Z45 (H := [(some d9, mkO), (eC h4 #[.slice d8 d7 d6] 27), (eC b2 #[iV n0.N, iV n0.S, iV n0.T, .slice a6 a8 a7] 24), (eC b4 #[.string (bs ([] : Str))] 9), (eC b6 #[.slice none 0 0] 25), (eC b8 #[.bool false] 4), (eC e0 #[.string (bs a2)] 9), (eC e1 #[sV a3 a5 c22] 25), (eI a3 a9 d0 2)]) rfl ?_; refine Xs ?_; refine Ya ?_; refine Zi ?_; rcases Zp H with ⟨j1, H⟩ | ⟨j1, H⟩
  ·
   apply Z4a [rV [] _, rV [] _, rV [] _, rV [2] _, rV [3] _, rV [4] _, rV [4, 5] _, rV [4] _, rV [4, 7] _, rV [4, 8] _, rV [4, 6, 9] _, rV [4, 10] _, ⟨[0], true, [], relN⟩, ⟨[1], true, [], relN⟩] [53, 54, 55, 56, 57, 58, 59, 60, 61, 62, 63, 64] 14 (HRk [[(eC b4 #[.string (bs ([] : Str))] 9), (eC b6 #[.slice none 0 0] 25)], [(eC b4 #[.string (bs a2)] 9), (eC b6 #[.slice none 0 0] 25)], [(eC b4 #[.string (bs a2)] 9), (eC b6 #[sV a3 a5 c22] 25)]]) [[], [], []] [(eC b4 #[.string (bs ([] : Str))] 9), (eC b6 #[.slice none 0 0] 25)] [(some d9, mkO), (eC h4 #[.slice d8 d7 d6] 27), (eC b2 #[iV n0.N, iV n0.S, iV n0.T, .slice a6 a8 a7] 24), (eC b8 #[.bool false] 4), (eC e0 #[.string (bs a2)] 9), (eC e1 #[sV a3 a5 c22] 25), (eI a3 a9 d0 2)]
   · exact Vu
   · exact rfl
   · kernel_rfl
   · kernel_rfl
   · kernel_rfl
   · exact rfl
   · exact rfl
   · exact rfl
   · exact rfl
   · exact pkI (by repeat constructor)
   ·
    refine ⟨?_, ?_, ?_, ?_, ?_, ?_, ?_, ?_, ?_, ?_, ?_, ?_, ?_, ?_, trivial⟩
    · rintro vs es Es Hx -; refine Yp (D := []) rfl ?_; refine Zt Za Wz Wt rfl ?_; refine Zj ?_; exact Yw rfl ⟨rfl, rfl⟩ (Zs _) rfl
    · rintro vs es Es Hx -; refine Yp (D := []) rfl ?_; refine Zt Za Je mm5 rfl ?_; refine Zj ?_; exact Yw rfl ⟨rfl, rfl⟩ (Zs _) rfl
    · rintro vs es Es Hx -; refine Yp (D := []) rfl ?_; refine Zt Za Wz Wt rfl ?_; refine Zj ?_; exact Yw rfl ⟨rfl, rfl⟩ (Zs _) rfl
    · rintro vs es Es Hx ⟨⟨e4, g6⟩, -⟩; refine Yp (D := [(55, vs 2)]) rfl ?_; rw [e4]; refine Lf (p := a2) (q := ([] : Str)) Zb ?_; refine Zj ?_; exact Yw rfl ⟨rfl, rfl⟩ (Zs _) (by show [(55, vs 2)] = _; rw [e4])
    · rintro vs es Es Hx ⟨⟨e5, g7⟩, -⟩; refine Yp (D := [(56, vs 3)]) rfl ?_; rw [e5]; refine Zc Za ?_; refine Zr (t := 57) (b' := true) rfl (decide_eq_true j1) ?_; refine Zj ?_; exact X.obQ2 rfl ⟨rfl, rfl⟩ (Zs _) (by show [(56, vs 3)] = _; rw [e5])
    · rintro vs es Es Hx ⟨⟨a4, d5⟩, -⟩; refine Yp (D := [(57, vs 4)]) rfl ?_; rw [a4]; refine Zt Za Je mm5 rfl ?_; refine Zj ?_; exact Yw rfl ⟨rfl, rfl⟩ (Zs _) (by show [(57, vs 4)] = _; rw [a4])
    · rintro vs es Es Hx ⟨⟨a4, d5⟩, ⟨e6, g8⟩, -⟩; refine Yp (D := [(57, vs 4), (58, vs 5)]) rfl ?_; rw [a4, e6]; refine Yq (xs := a9) b7 Zb Xh ?_; refine Zj ?_; exact Yw rfl ⟨rfl, rfl⟩ (Zs _) (by show [(57, vs 4), (58, vs 5)] = _; rw [a4, e6])
    · rintro vs es Es Hx ⟨⟨a4, d5⟩, -⟩; refine Yp (D := [(57, vs 4)]) rfl ?_; rw [a4]; refine Zx Za Vd ?_; refine Zj ?_; exact Yw rfl ⟨rfl, rfl⟩ (Zs _) (by show [(57, vs 4)] = _; rw [a4])
    · rintro vs es Es Hx ⟨⟨a4, d5⟩, ⟨e7, g9⟩, -⟩; refine Yp (D := [(57, vs 4), (60, vs 7)]) rfl ?_; rw [a4, e7]; refine Zt Za Vm Xw rfl ?_; refine Zj ?_; exact Yw rfl ⟨rfl, rfl⟩ (Zs _) (by show [(57, vs 4), (60, vs 7)] = _; rw [a4, e7])
    · rintro vs es Es Hx ⟨⟨a4, d5⟩, ⟨e8, h0⟩, -⟩; refine Yp (D := [(57, vs 4), (61, vs 8)]) rfl ?_; rw [a4, e8]; refine Yq (xs := n0.Arcs) b9.len Zb Xr ?_; refine Zj ?_; exact Yw rfl ⟨rfl, rfl⟩ (Zs _) (by show [(57, vs 4), (61, vs 8)] = _; rw [a4, e8])
    · rintro vs es Es Hx ⟨⟨a4, d5⟩, ⟨e9, h1⟩, ⟨f0, h2⟩, -⟩; refine Yp (D := [(57, vs 4), (59, vs 6), (62, vs 9)]) rfl ?_; rw [a4, e9, f0]; refine Zo Zm ?_; refine Zj ?_; exact Yw rfl ⟨rfl, rfl⟩ (Zs _) (by show [(57, vs 4), (59, vs 6), (62, vs 9)] = _; rw [a4, e9, f0])
    · rintro vs es Es Hx ⟨⟨a4, d5⟩, ⟨d1, e2⟩, -⟩; refine Yp (D := [(57, vs 4), (63, vs 10)]) rfl ?_; rw [a4, d1]; refine Yf Zb ?_; refine Zj ?_; exact Yw rfl ⟨rfl, rfl⟩ (Zs _) (by show [(57, vs 4), (63, vs 10)] = _; rw [a4, d1])
    · rintro vs es Es Hx hb ⟨⟨f2, h3⟩, -⟩ hHR; obtain rfl : hb = [(eC b4 #[.string (bs ([] : Str))] 9), (eC b6 #[.slice none 0 0] 25)] := hHR; refine Yp (D := [(53, vs 0)]) rfl ?_; rw [f2]; refine Xd (cs' := [.string (bs a2)]) Za Zh Ve Zv ?_; refine Zj ?_; exact X.obE (hb' := [(eC b4 #[.string (bs a2)] 9), (eC b6 #[.slice none 0 0] 25)]) rfl rfl rfl (pkI (by repeat constructor)) (by show [(53, vs 0)] = _; rw [f2])
    · rintro vs es Es Hx hb ⟨⟨f3, f9⟩, -⟩ hHR; obtain rfl : hb = [(eC b4 #[.string (bs a2)] 9), (eC b6 #[.slice none 0 0] 25)] := hHR; refine Yp (D := [(54, vs 1)]) rfl ?_; rw [f3]; refine Xd (cs' := [sV a3 a5 c22]) Za Yl Gw Zv ?_; refine Zj ?_; exact X.obE (hb' := [(eC b4 #[.string (bs a2)] 9), (eC b6 #[sV a3 a5 c22] 25)]) rfl rfl rfl (pkI (by repeat constructor)) (by show [(54, vs 1)] = _; rw [f3])
   · rintro vs es hb ⟨⟨f2, h3⟩, ⟨f3, f9⟩, ⟨e4, g6⟩, ⟨e5, g7⟩, ⟨a4, d5⟩, ⟨e6, g8⟩, ⟨e9, h1⟩, ⟨e7, g9⟩, ⟨e8, h0⟩, ⟨f0, h2⟩, ⟨d1, e2⟩, ⟨f4, f5⟩, f6, f7, -⟩ hHR; obtain rfl : hb = [(eC b4 #[.string (bs a2)] 9), (eC b6 #[sV a3 a5 c22] 25)] := hHR; refine Yp (D := [(53, vs 0), (54, vs 1), (55, vs 2), (56, vs 3), (57, vs 4), (58, vs 5), (59, vs 6), (60, vs 7), (61, vs 8), (62, vs 9), (63, vs 10), (64, vs 11)]) rfl ?_; refine Ld (H := _ ++ (_ ++ (es 0 ++ (es 1 ++ (es 2 ++ (es 3 ++ (es 4 ++ (es 5 ++ (es 6 ++ (es 7 ++ (es 8 ++ (es 9 ++ (es 10 ++ (es 11 ++ (es 12 ++ (es 13 ++ ([]))))))))))))))))) rfl ?_; rw [h3, f9, g6, g7, d5, g8, h1, g9, h0, h2, e2, f5, f6, f7]; rw [f2, f3, e4, e5, a4, e6, e9, e7, e8, f0, d1, f4]; clear f4 d1 f0 e8 e7 e9 e6 a4 e5 e4 f3 f2 h3 f9 g6 g7 d5 g8 h1 g9 h0 h2 e2 f5 f6 f7; refine Xd (cs' := [.bool (decide ((a9.length : Int) = (n0.Arcs.length : Int)))]) Za tk5 Vx Zv ?_; refine dN ?_; refine Zn (aT [4, 5, 6] rfl) ?_; refine T.ret ?_; obtain ⟨rfl, rfl, rfl⟩ := ret3 H; exact Z4v [d9] Zb (Zf Uw (Zs _)) (Vq rfl Wz Xk rfl) (Vq rfl Je Xw rfl) (Vq rfl Nk Zl rfl) (Zf tk7 Zg) ⟨a3, a5, c22, d0, rfl, rfl, b7, d2, d3, d4⟩
  ·
   apply Z4a [rV [] _, rV [] _, rV [] _, rV [2] _, rV [3] _, rV [4] _, rV [4, 5] _, rV [4] _, rV [4, 7] _, rV [4, 8] _, rV [4, 6, 9] _, rV [4, 10] _, ⟨[0], true, [], relN⟩, ⟨[1], true, [], relN⟩] [53, 54, 55, 56, 57, 58, 59, 60, 61, 62, 63, 64] 14 (HRk [[(eC b4 #[.string (bs ([] : Str))] 9), (eC b6 #[.slice none 0 0] 25)], [(eC b4 #[.string (bs a2)] 9), (eC b6 #[.slice none 0 0] 25)], [(eC b4 #[.string (bs a2)] 9), (eC b6 #[sV a3 a5 c22] 25)]]) [[], [], []] [(eC b4 #[.string (bs ([] : Str))] 9), (eC b6 #[.slice none 0 0] 25)] [(some d9, mkO), (eC h4 #[.slice d8 d7 d6] 27), (eC b2 #[iV n0.N, iV n0.S, iV n0.T, .slice a6 a8 a7] 24), (eC b8 #[.bool false] 4), (eC e0 #[.string (bs a2)] 9), (eC e1 #[sV a3 a5 c22] 25), (eI a3 a9 d0 2)]
   · exact Vu
   · exact rfl
   · kernel_rfl
   · kernel_rfl
   · kernel_rfl
   · exact rfl
   · exact rfl
   · exact rfl
   · exact rfl
   · exact pkI (by repeat constructor)
   ·
    refine ⟨?_, ?_, ?_, ?_, ?_, ?_, ?_, ?_, ?_, ?_, ?_, ?_, ?_, ?_, trivial⟩
    · rintro vs es Es Hx -; refine Yp (D := []) rfl ?_; refine Zt Za Wz Wt rfl ?_; refine Zj ?_; exact Yw rfl ⟨rfl, rfl⟩ (Zs _) rfl
    · rintro vs es Es Hx -; refine Yp (D := []) rfl ?_; refine Zt Za Je mm5 rfl ?_; refine Zj ?_; exact Yw rfl ⟨rfl, rfl⟩ (Zs _) rfl
    · rintro vs es Es Hx -; refine Yp (D := []) rfl ?_; refine Zt Za Wz Wt rfl ?_; refine Zj ?_; exact Yw rfl ⟨rfl, rfl⟩ (Zs _) rfl
    · rintro vs es Es Hx ⟨⟨e4, g6⟩, -⟩; refine Yp (D := [(55, vs 2)]) rfl ?_; rw [e4]; refine Lf (p := a2) (q := ([] : Str)) Zb ?_; refine Zj ?_; exact Yw rfl ⟨rfl, rfl⟩ (Zs _) (by show [(55, vs 2)] = _; rw [e4])
    · rintro vs es Es Hx ⟨⟨e5, g7⟩, -⟩; refine Yp (D := [(56, vs 3)]) rfl ?_; rw [e5]; refine Zc Za ?_; refine Zr (t := 57) (b' := false) rfl (decide_eq_false j1) ?_; refine Zj ?_; exact X.obQ2 rfl ⟨rfl, rfl⟩ (Zs _) (by show [(56, vs 3)] = _; rw [e5])
    · rintro vs es Es Hx ⟨⟨a4, d5⟩, -⟩; refine Yp (D := [(57, vs 4)]) rfl ?_; rw [a4]; refine Ze Za ?_; refine Zj ?_; exact Yw rfl ⟨rfl, rfl⟩ (Zs _) (by show [(57, vs 4)] = _; rw [a4])
    · rintro vs es Es Hx ⟨⟨a4, d5⟩, ⟨e6, g8⟩, -⟩; refine Yp (D := [(57, vs 4), (58, vs 5)]) rfl ?_; rw [a4, e6]; refine Ze Za ?_; refine Zj ?_; exact Yw rfl ⟨rfl, rfl⟩ (Zs _) (by show [(57, vs 4), (58, vs 5)] = _; rw [a4, e6])
    · rintro vs es Es Hx ⟨⟨a4, d5⟩, -⟩; refine Yp (D := [(57, vs 4)]) rfl ?_; rw [a4]; refine Ze Za ?_; refine Zj ?_; exact Yw rfl ⟨rfl, rfl⟩ (Zs _) (by show [(57, vs 4)] = _; rw [a4])
    · rintro vs es Es Hx ⟨⟨a4, d5⟩, ⟨e7, g9⟩, -⟩; refine Yp (D := [(57, vs 4), (60, vs 7)]) rfl ?_; rw [a4, e7]; refine Ze Za ?_; refine Zj ?_; exact Yw rfl ⟨rfl, rfl⟩ (Zs _) (by show [(57, vs 4), (60, vs 7)] = _; rw [a4, e7])
    · rintro vs es Es Hx ⟨⟨a4, d5⟩, ⟨e8, h0⟩, -⟩; refine Yp (D := [(57, vs 4), (61, vs 8)]) rfl ?_; rw [a4, e8]; refine Ze Za ?_; refine Zj ?_; exact Yw rfl ⟨rfl, rfl⟩ (Zs _) (by show [(57, vs 4), (61, vs 8)] = _; rw [a4, e8])
    · rintro vs es Es Hx ⟨⟨a4, d5⟩, ⟨e9, h1⟩, ⟨f0, h2⟩, -⟩; refine Yp (D := [(57, vs 4), (59, vs 6), (62, vs 9)]) rfl ?_; rw [a4, e9, f0]; refine Ze Za ?_; refine Zj ?_; exact Yw rfl ⟨rfl, rfl⟩ (Zs _) (by show [(57, vs 4), (59, vs 6), (62, vs 9)] = _; rw [a4, e9, f0])
    · rintro vs es Es Hx ⟨⟨a4, d5⟩, ⟨d1, e2⟩, -⟩; refine Yp (D := [(57, vs 4), (63, vs 10)]) rfl ?_; rw [a4, d1]; refine Yc Zb ?_; refine Zj ?_; exact Yw rfl ⟨rfl, rfl⟩ (Zs _) (by show [(57, vs 4), (63, vs 10)] = _; rw [a4, d1])
    · rintro vs es Es Hx hb ⟨⟨f2, h3⟩, -⟩ hHR; obtain rfl : hb = [(eC b4 #[.string (bs ([] : Str))] 9), (eC b6 #[.slice none 0 0] 25)] := hHR; refine Yp (D := [(53, vs 0)]) rfl ?_; rw [f2]; refine Xd (cs' := [.string (bs a2)]) Za Zh Ve Zv ?_; refine Zj ?_; exact X.obE (hb' := [(eC b4 #[.string (bs a2)] 9), (eC b6 #[.slice none 0 0] 25)]) rfl rfl rfl (pkI (by repeat constructor)) (by show [(53, vs 0)] = _; rw [f2])
    · rintro vs es Es Hx hb ⟨⟨f3, f9⟩, -⟩ hHR; obtain rfl : hb = [(eC b4 #[.string (bs a2)] 9), (eC b6 #[.slice none 0 0] 25)] := hHR; refine Yp (D := [(54, vs 1)]) rfl ?_; rw [f3]; refine Xd (cs' := [sV a3 a5 c22]) Za Yl Gw Zv ?_; refine Zj ?_; exact X.obE (hb' := [(eC b4 #[.string (bs a2)] 9), (eC b6 #[sV a3 a5 c22] 25)]) rfl rfl rfl (pkI (by repeat constructor)) (by show [(54, vs 1)] = _; rw [f3])
   · rintro vs es hb ⟨⟨f2, h3⟩, ⟨f3, f9⟩, ⟨e4, g6⟩, ⟨e5, g7⟩, ⟨a4, d5⟩, ⟨e6, g8⟩, ⟨e9, h1⟩, ⟨e7, g9⟩, ⟨e8, h0⟩, ⟨f0, h2⟩, ⟨d1, e2⟩, ⟨f4, f5⟩, f6, f7, -⟩ hHR; obtain rfl : hb = [(eC b4 #[.string (bs a2)] 9), (eC b6 #[sV a3 a5 c22] 25)] := hHR; refine Yp (D := [(53, vs 0), (54, vs 1), (55, vs 2), (56, vs 3), (57, vs 4), (58, vs 5), (59, vs 6), (60, vs 7), (61, vs 8), (62, vs 9), (63, vs 10), (64, vs 11)]) rfl ?_; refine Ld (H := _ ++ (_ ++ (es 0 ++ (es 1 ++ (es 2 ++ (es 3 ++ (es 4 ++ (es 5 ++ (es 6 ++ (es 7 ++ (es 8 ++ (es 9 ++ (es 10 ++ (es 11 ++ (es 12 ++ (es 13 ++ ([]))))))))))))))))) rfl ?_; rw [h3, f9, g6, g7, d5, g8, h1, g9, h0, h2, e2, f5, f6, f7]; rw [f2, f3, e4, e5, a4, e6, e9, e7, e8, f0, d1, f4]; clear f4 d1 f0 e8 e7 e9 e6 a4 e5 e4 f3 f2 h3 f9 g6 g7 d5 g8 h1 g9 h0 h2 e2 f5 f6 f7; refine Xd (cs' := [.bool false]) Za tk5 Vx Zv ?_; refine dN ?_; refine Zn (aT [4, 5, 6] rfl) ?_; refine T.ret ?_; obtain ⟨rfl, rfl, rfl⟩ := ret3 H; exact Z4v [d9] Zb (Zf Uw (Zs _)) (Vq rfl Wz Xk rfl) (Vq rfl Je Xw rfl) (Vq rfl Nk Zl rfl) (Zf tk7 Zg) ⟨a3, a5, c22, d0, rfl, rfl, b7, d2, d3, d4⟩
 · rintro ⟨a2, a9⟩ ht d9 _ _ ⟨a5, c22, a3, d0, rfl, b7, d2, d3, d4⟩ rfl; subst ht; have H : (some (([] : Str), [], false)) = some (r0, r1, r2) := j3; refine Z4x (H := [(some d9, mkO), (eC h4 #[.slice d8 d7 d6] 27), (eC b2 #[iV n0.N, iV n0.S, iV n0.T, .slice a6 a8 a7] 24), (eC b4 #[.string (bs ([] : Str))] 9), (eC b6 #[.slice none 0 0] 25), (eC b8 #[.bool false] 4), (eC e0 #[.string (bs a2)] 9), (eC e1 #[sV a3 a5 c22] 25), (eI a3 a9 d0 2)]) rfl ?_; refine T.ret ?_; refine Yx ?_; refine Zu ?_; obtain ⟨rfl, rfl, rfl⟩ := ret3 H; exact Z4v [d9] Zb (Zf Zh (Zs _)) (Vq rfl Wz Xw rfl) (Vq rfl Je Ui rfl) (Vq rfl Nk Wt rfl) (Pick.none Zg) ⟨none, 0, 0, ([]), rfl, rfl, rfl, (Nat.le_refl _), (Wy 0 _), (fun _ => rfl)⟩
theorem Z12 {n0 : Net} {b1 : List Int} {a3 b5 : Option Addr} {a5 a4 a9 a8 : Nat} (w : World) (a2 : RS w [] Yd 3 a3 a5 a4 n0.Arcs) (d1 : RS w [] (intC .u8) 1 b5 a9 a8 b1) (hG : GK Tryd.prog w []) {r0 : List Int} {r1 : Int} (H : Kn n0 b1 = some (r0, r1)) : Fnc Tryd.prog 8 #[.agg #[iV n0.N, iV n0.S, iV n0.T, .slice a3 a5 a4], .slice b5 a9 a8] w [] (fun v N => ∃ (a6 : Option Nat) (c0 d0 : Nat) (d6 : List Value), v = .tuple #[sV a6 c0 d0, iV r1] ∧ N = [(eI a6 r0 d6 2)] ∧ r0.length = c0 ∧ c0 ≤ d0 ∧ d6.length = (d0 - c0) * 1 ∧ (a6 = none → d0 = 0)) := by
 unfold Kn at H; refine Fnc.enter (vs := [.agg #[iV n0.N, iV n0.S, iV n0.T, .slice a3 a5 a4], .slice b5 a9 a8]) Tryd.func8 rfl rfl (Inv.refl w) ?_; refine sR Y3 rfl ?_; refine Xo Za ?_; intro b2; refine Zz Za ?_; refine aN Za ?_; refine Zi ?_; refine Zi ?_; obtain ⟨r4, e5, H⟩ := Zq H; refine rG Y3 rfl ?_; refine Ym Za Yk Zl rfl ?_; refine Zw Nz Za (fun wc hwc => Ns (n0 := n0) wc (a2.mono hwc) e5) ?_; rintro _ _ ⟨rfl, rfl⟩; refine aN Za ?_; refine sR Y2 rfl ?_; refine Zc Za ?_; refine Zo Zm ?_; refine dN ?_; rcases Zp H with ⟨g6, H⟩ | ⟨g6, H⟩
 · refine Yz rfl g6 ?_; refine sR Y3 rfl ?_; refine Zc Za ?_; refine Zz Za ?_; refine aN Za ?_; refine Zn (aT [4, 5] rfl) ?_; refine T.ret ?_; refine Zu ?_; obtain ⟨rfl, rfl⟩ := ret2 H; exact Xx Za (Res.tmp rfl) (Res.tmp rfl) (Pick.none Zg) ⟨none, 0, 0, ([]), rfl, rfl, rfl, (Nat.le_refl _), (Wy 0 _), (fun _ => rfl)⟩
 ·
  refine Yv rfl g6 ?_; refine T.skip ?_; refine Ya ?_; refine Zn (aT [1, 2] rfl) ?_; refine Zi ?_; obtain ⟨⟨r7, r8, r9⟩, e0, H⟩ := Zq H; refine rG Y10 rfl ?_; refine Ym Za Yk Zl rfl ?_; refine Zc Za ?_; refine Zw Zal Za (fun wc hwc => Z9w (n0 := n0) (b1 := b1) wc (a2.mono hwc) (d1.mono hwc) (hG.mono hwc) e0) ?_; rintro _ _ ⟨a7, d7, c13, d8, rfl, rfl, b6, b7, d2, b8⟩; refine Zc Za ?_; refine TO.extract Zb ?_; refine TO.extract Zb ?_; refine TO.extract Zb ?_; refine Zz Za ?_; refine Zz Za ?_; refine aN Za ?_; refine Zn (aT [2, 7, 8, 9] rfl) ?_; refine Zi ?_; refine sR Y2 rfl ?_; refine Zc Za ?_; refine TO.not Za ?_; refine dN ?_; rcases Zp H with ⟨d3, H⟩ | ⟨d3, H⟩
  · refine Ys rfl d3 ?_; refine sR Y2 rfl ?_; refine Zz Za ?_; refine aN Za ?_; refine T.ret ?_; refine Zu ?_; obtain ⟨rfl, rfl⟩ := ret2 H; exact Xx Za (Res.tmp rfl) (Res.tmp rfl) (Pick.none Zg) ⟨none, 0, 0, ([]), rfl, rfl, rfl, (Nat.le_refl _), (Wy 0 _), (fun _ => rfl)⟩
  ·
   refine Xl rfl (Bool.eq_false_iff.2 d3) ?_; refine T.skip ?_; refine Ya ?_; refine Zi ?_; refine Zi ?_; obtain ⟨⟨d9, e2⟩, e1, H⟩ := Zq H; refine rG Y8 rfl ?_; refine Ym Za Yk Xk rfl ?_; refine Zc Za ?_; refine Zw Z62 Za (fun wc hwc => Z7b (n0 := n0) (f1 := r8) wc (a2.mono hwc) (Ke hwc Zl b6 b7 b8) (hG.mono hwc) e1) ?_; rintro _ _ ⟨rfl, rfl⟩; refine Zc Za ?_; refine TO.extract Zb ?_; refine TO.extract Zb ?_; refine Zz Za ?_; refine aN Za ?_; refine Zn (aT [7, 8, 10, 11] rfl) ?_; refine Zi ?_; refine Wh (fun (b9 : Bool) => Z2v r8 b9 = some (r0, r1)) (fun (b9 : Bool) => [(8, sV a7 d7 c13), (38, .bool b9)]) (fun (b9 : Bool) => [(eI a7 r8 d8 2)]) ?_ ?_
   ·
    rcases Zp H with ⟨d4, H⟩ | ⟨d4, H⟩
    · refine rG Y7 rfl ?_; refine Zc Za ?_; refine Zo Zm ?_; refine Zc Za ?_; refine Zr (t := 34) (b' := true) rfl (decide_eq_true d4) ?_; refine Ze Za ?_; refine Ze Za ?_; refine Ze Za ?_; refine Yf Zb ?_; refine Zj ?_; exact Xg true H (aF rfl) (Zf Zh Zg)
    · refine rG Y7 rfl ?_; refine Zc Za ?_; refine Zo Zm ?_; refine Zc Za ?_; refine Zr (t := 34) (b' := false) rfl (decide_eq_false d4) ?_; refine Zc Za ?_; refine Zc Za ?_; refine Lf (p := d9) (q := r7) Zb ?_; refine Yc Zb ?_; refine Zj ?_; exact Xg (decide (¬(d9 = r7))) H (aF rfl) (Zf Zh Zg)
   ·
    rintro b9 H; unfold Z2v at H; rcases Zp H with ⟨d5, H⟩ | ⟨d5, H⟩
    · refine Ys rfl d5 ?_; refine sR Y2 rfl ?_; refine Zz Za ?_; refine aN Za ?_; refine T.ret ?_; refine Zu ?_; obtain ⟨rfl, rfl⟩ := ret2 H; exact Xx Za (Res.tmp rfl) (Res.tmp rfl) (Pick.none Zg) ⟨none, 0, 0, ([]), rfl, rfl, rfl, (Nat.le_refl _), (Wy 0 _), (fun _ => rfl)⟩
    · refine Xl rfl (Bool.eq_false_iff.2 d5) ?_; refine T.skip ?_; refine Ya ?_; refine sR Y3 rfl ?_; refine Zc Za ?_; refine Zz Za ?_; refine aN Za ?_; refine T.ret ?_; obtain ⟨rfl, rfl⟩ := ret2 H; exact Xx Za (Res.tmp rfl) (Res.tmp rfl) (Zf Zh Zg) ⟨a7, d7, c13, d8, rfl, rfl, b6, b7, d2, b8⟩
theorem Z0j {n0 : Net} {b1 : List Int} {a4 b9 : Option Addr} {a6 a5 b8 b7 : Nat} (w : World) (b5 : RS w [] Yd 3 a4 a6 a5 n0.Arcs) (d3 : RS w [] (intC .u8) 1 b9 b8 b7 b1) (hG : GK Tryd.prog w []) {r0 : List Bool} {r1 : Int} (H : Km n0 b1 = some (r0, r1)) : Fnc Tryd.prog 10 #[.agg #[iV n0.N, iV n0.S, iV n0.T, .slice a4 a6 a5], .slice b9 b8 b7] w [] (fun v N => ∃ (d8 : Option Nat) (e3 e4 : Nat) (f3 : List Value), v = .tuple #[sV d8 e3 e4, iV r1] ∧ N = [(eA d8 boolC r0 f3 4)] ∧ r0.length = e3 ∧ e3 ≤ e4 ∧ f3.length = (e4 - e3) * 1 ∧ (d8 = none → e4 = 0)) := by
 unfold Km at H; refine Z4t (vs := [.agg #[iV n0.N, iV n0.S, iV n0.T, .slice a4 a6 a5], .slice b9 b8 b7]) Tryd.func10 rfl rfl (Inv.refl w) ?_; refine sR Y3 rfl ?_; refine Xo Za ?_; intro b2; refine TO.alloc Zv Z5e ?_; intro b4; refine TO.alloc Zv Zbz ?_; intro b6; refine dS ?_; refine Zi ?_; obtain ⟨r8, e9, H⟩ := Zq H; refine rG Y3 rfl ?_; refine Ym Za Yk Xw rfl ?_; refine Zw Nz Za (fun wc hwc => Ns (n0 := n0) wc (b5.mono hwc) e9) ?_; rintro _ _ ⟨rfl, rfl⟩; refine aN Za ?_; refine sR Y2 rfl ?_; refine Zc Za ?_; refine Zo Zm ?_; refine dN ?_; rcases Zp H with ⟨e5, H⟩ | ⟨e5, H⟩
 · refine Yz rfl e5 ?_; refine sR Y3 rfl ?_; refine Zc Za ?_; refine Xd (cs' := [.slice none 0 0]) Za Yl Z00 Zv ?_; refine Xd (cs' := [iV r8]) Za Yl Z2f Zv ?_; refine dN ?_; refine Zn (aT [4, 5] rfl) ?_; refine T.ret ?_; refine Zu ?_; obtain ⟨rfl, rfl⟩ := ret2 H; exact Z48 [] Zb (Zs _) (Vq rfl Rp Xk rfl) (Vq rfl Ks Zl rfl) (Pick.none Zg) ⟨none, 0, 0, ([]), rfl, rfl, rfl, (Nat.le_refl _), (Wy 0 _), (fun _ => rfl)⟩
 ·
  refine Yv rfl e5 ?_; refine T.skip ?_; refine Ya ?_; obtain ⟨f9, H⟩ := Ye H; refine sR Y5 rfl ?_; refine Zx Za Vn ?_; refine Zt Za Yr Xw rfl ?_; refine TO.mkB f9 Zb Vt Vx Rr Z6t rfl ?_; intro a8; refine TO.alloc Zv Z5e ?_; intro e0; refine Xd (cs' := [nV a8 n0.N.toNat n0.N.toNat]) Za Zh Z00 Zv ?_; refine dN ?_; refine Zn (aT [1, 2, 4, 5, 7] rfl) ?_; refine sR Y2 rfl ?_; refine TO.alloc Zv Gf ?_; intro d1; refine Xd (cs' := [iV 0]) Za Zh Xp Zv ?_; refine dS ?_; refine Zi ?_; obtain ⟨⟨⟩, g0, H⟩ := Zq H; refine rG Y2 rfl ?_; refine Zc Za ?_; refine Zw Z80 Za (fun wc hwc => Z5u (b0 := b1) wc (d3.mono hwc) g0) ?_; rintro _ _ ⟨e6, rfl, rfl⟩; refine dN ?_; refine T.block ?_; obtain ⟨g1, g2, f4⟩ := Zq H; refine Z4j (S := (Int × List Bool × Int)) (X := (Int × List Bool × Int)) (V := List Str) rfl Z5j Xj (fun w M v vals => ∃ (b0 : Option Addr) (n0 c0 : Nat), vals = [.slice b0 n0 c0] ∧ RS w M Ud 1 b0 n0 c0 v) (by rintro _ _ _ _ ⟨_, _, _, rfl, _⟩; rfl) (fun s v => Gv n0 s.1 s.2.1 s.2.2 v) (fun t Hq => match t with | .inl (d0, a3, a2) => Hq = [(eC b4 #[.slice none 0 0] 26), (eC b6 #[iV d0] 31), (eA (some a8) boolC a3 ([]) 4), (eC d1 #[iV a2] 2)] ∧ a3.length = n0.N.toNat | .inr (d0, a3, a2) => Hq = [(eC b4 #[.slice none 0 0] 26), (eC b6 #[iV d0] 31), (eA (some a8) boolC a3 ([]) 4), (eC d1 #[iV a2] 2)] ∧ a3.length = n0.N.toNat) (fun HE_ => HE_ = []) (fun HE_ => HE_ = []) (fun _ => .ret) (0, (List.replicate n0.N.toNat (false : Bool)), 0) g1 [(eC b4 #[.slice none 0 0] 26), (eC b6 #[iV 0] 31), (eA (some a8) boolC (List.replicate n0.N.toNat (false : Bool)) ([]) 4), (eC d1 #[iV 0] 2)] [] [(eC e6 #[.slice b9 b8 b7] 27), (eC e0 #[nV a8 n0.N.toNat n0.N.toNat] 26), (eC b2 #[iV n0.N, iV n0.S, iV n0.T, .slice a4 a6 a5] 24)] ⟨rfl, List.length_replicate⟩ (Zf Zh (Zf Yl (Zf tk4 (Zf Uw (Zf Wj (Zf Yl (Zf Zh (Zs _)))))))) ?_ ?_ ?_ ?_
  · intro lp wc J_ H0_ hJ_ hin_ hY_ lo_ hwc g3; subst g3; exact Z7p (yy_ := (fun s v => Gv n0 s.1 s.2.1 s.2.2 v)) (c1 := b1) (tt_ := .inl (0, (List.replicate n0.N.toNat (false : Bool)), 0)) (J_ := J_) wc hin_ hJ_ hY_ (d3.monoM (by decide) hwc (List.Perm.refl _) rfl) (hwc.hbM (cs := [.slice b9 b8 b7]) (List.Perm.refl _) rfl Zl) g2
  ·
   rintro lp h1 ⟨d0, a3, a2⟩ d4 f5 _ _ _ hy ⟨rfl, a9⟩ rfl ⟨d5, d6, d7, rfl, a7⟩ g4 g5; refine rG Y1 rfl ?_; refine Zz Za ?_; refine Zj ?_; refine Z4w [(2, pV b2), (4, pV b4), (5, pV b6), (7, pV e0), (8, pV d1), (22, .slice d5 d6 d7), (9, .slice d5 d6 d7)] [(eC b4 #[.slice none 0 0] 26), (eC b6 #[iV d0] 31), (eA (some a8) boolC a3 ([]) 4), (eC d1 #[iV a2] 2)] (aF rfl) (Zs _) ?_; intro h2 g6 hwc g7; have b5 := b5.monoM (by decide) hwc (List.Perm.refl _) rfl; have d3 := d3.monoM (by decide) hwc (List.Perm.refl _) rfl; have d9 := hwc.hbM (cs := [nV a8 n0.N.toNat n0.N.toNat]) (List.Perm.refl _) rfl Xk; have e1 := hwc.hbM (cs := [iV n0.N, iV n0.S, iV n0.T, .slice a4 a6 a5]) (List.Perm.refl _) rfl Xw; have a7 := a7.monoM (by decide) g7 (List.Perm.of_eq (List.append_nil _).symm) rfl; have hG := hG.monoM hwc (List.Perm.refl _) rfl; have H : Gv n0 d0 a3 a2 d4 = some f5 := hy; unfold Gv at H; refine T.block ?_; refine Zi ?_; refine Zi ?_; refine Wh (fun (e2 : Bool) => Ra n0 d0 a3 a2 d4 e2 = some f5) (fun (e2 : Bool) => [(2, pV b2), (4, pV b4), (5, pV b6), (7, pV e0), (8, pV d1), (9, .slice d5 d6 d7), (22, .slice d5 d6 d7), (31, .bool e2)]) (fun (e2 : Bool) => [(eC b4 #[.slice none 0 0] 26), (eC b6 #[iV d0] 31), (eA (some a8) boolC a3 ([]) 4), (eC d1 #[iV a2] 2)]) ?_ ?_
   ·
    rcases Zp H with ⟨e7, H⟩ | ⟨e7, H⟩
    · refine rG Y9 rfl ?_; refine Zc Za ?_; refine Yq (xs := d4) a7.len Zb Wp ?_; refine Zo Zm ?_; refine Zc Za ?_; refine Zr (t := 26) (b' := true) rfl (decide_eq_true e7) ?_; refine Ze Za ?_; refine Ze Za ?_; refine Ze Za ?_; refine Ze Za ?_; refine Yf Zb ?_; refine Zj ?_; exact Xg true H (aF rfl) (Zf Zh (Zf Zh (Zf Zh (Zf Zh Zg))))
    · obtain ⟨f6, H⟩ := Ye H; refine rG Y9 rfl ?_; refine Zc Za ?_; refine Yq (xs := d4) a7.len Zb Wp ?_; refine Zo Zm ?_; refine Zc Za ?_; refine Zr (t := 26) (b' := false) rfl (decide_eq_false e7) ?_; refine Zc Za ?_; refine Wl a7 f6 Zb Wp Ve ?_; refine Z34 (v := .string (bs (d4.getD (0 : Int).toNat ([] : Str)))) ([] : Str) a7 f6 Zb Wz ?_; refine Lf (p := (d4.getD (0 : Int).toNat ([] : Str))) (q := ([107] : Str)) Zb ?_; refine Yc Zb ?_; refine Zj ?_; exact Xg (decide (¬((d4.getD (0 : Int).toNat ([] : Str)) = ([107] : Str)))) H (aF rfl) (Zf Zh (Zf Zh (Zf Zh (Zf Zh Zg))))
   ·
    rintro e2 H; unfold Ra at H; rcases Zp H with ⟨e8, H⟩ | ⟨e8, H⟩
    · refine Ys rfl e8 ?_; refine sR Y2 rfl ?_; refine Xd (cs' := [.slice none 0 0]) Za Zh Z00 Zv ?_; refine Xd (cs' := [iV 70]) Za Yl Z2f Zv ?_; refine dN ?_; refine T.ret ?_; refine Zu ?_; refine Yx ?_; exact Lj H rfl ⟨[(eC b4 #[.slice none 0 0] 26), (eC b6 #[iV 70] 31), (eA (some a8) boolC a3 ([]) 4), (eC d1 #[iV a2] 2)], rfl, ⟨rfl, a9⟩⟩ (Zf Yl (Zf Zh (Zf Zh (Zf Zh Zg))))
    ·
     refine Xl rfl (Bool.eq_false_iff.2 e8) ?_; refine T.skip ?_; refine Ya ?_; refine Zi ?_; obtain ⟨f7, g8, H⟩ := Uf H; obtain ⟨⟨f0, h3⟩, g9, H⟩ := Zq H; refine Kh 12 [0, 1, 2, 3, 4, 5, 6, 7, 8, 9, 10, 11] rfl Vu (by kernel_rfl) (by kernel_rfl) rfl (by kernel_rfl) ?_; refine TQ.move Za ?_; refine Kf a7 f7 Zb Wp Ve ?_; refine Z1h (v := .string (bs (d4.getD (1 : Int).toNat ([] : Str)))) ([] : Str) a7 f7 Zb Wz ?_; refine Up Za Wc Ui rfl ?_; refine Gx g8 Zb ?_; refine Ur Za Vn ?_; refine TQ.ldHB e1 Zb Yr ?_; refine Gi Z2o Za (fun wc hwc => Z21 (s0 := (d4.getD (1 : Int).toNat ([] : Str))) (low1 := (a2 + 1)) (high2 := n0.N) wc (hG.mono hwc) g9) (by rintro _ _ ⟨rfl, rfl⟩; rfl) ?_; refine TQ.move Za ?_; refine TQ.extract Zb ?_; refine TQ.extract Zb ?_; refine TQ.assign Za ?_; refine TQ.tail [12] Xj ?_; refine aN Za ?_; refine Zn (aT [2, 4, 5, 7, 8, 22, 10, 11] rfl) ?_; refine Zi ?_; refine sR Y2 rfl ?_; refine Zc Za ?_; refine TO.not Za ?_; refine dN ?_; rcases Zp H with ⟨f2, H⟩ | ⟨f2, H⟩
     · refine Ys rfl f2 ?_; refine sR Y2 rfl ?_; refine Xd (cs' := [.slice none 0 0]) Za Zh Z00 Zv ?_; refine Xd (cs' := [iV 70]) Za Yl Z2f Zv ?_; refine dN ?_; refine Zn (aT [4, 5] rfl) ?_; refine T.ret ?_; refine Zu ?_; refine Yx ?_; exact Lj H rfl ⟨[(eC b4 #[.slice none 0 0] 26), (eC b6 #[iV 70] 31), (eA (some a8) boolC a3 ([]) 4), (eC d1 #[iV a2] 2)], rfl, ⟨rfl, a9⟩⟩ (Zf Yl (Zf Zh (Zf Zh (Zf Zh Zg))))
     · refine Xl rfl (Bool.eq_false_iff.2 f2) ?_; refine T.skip ?_; refine Ya ?_; obtain ⟨h0, f8, H⟩ := Uf H; refine rG Y7 rfl ?_; refine Uz d9 Zb Rp ?_; refine Zc Za ?_; refine Z0g h0 Zb ?_; refine Zc Za ?_; refine Z1m a9 f8 Zb Vt Vx ?_; refine TO.stBO f8 Za Wj Vx ?_; refine Xd (cs' := [iV f0]) Za Uw Xp Zv ?_; refine Zj ?_; refine Xs ?_; exact Nx H ⟨[(eC b4 #[.slice none 0 0] 26), (eC b6 #[iV d0] 31), (eA (some a8) boolC (a3.set (f0 - 1).toNat true) ([]) 4), (eC d1 #[iV f0] 2)], rfl, ⟨rfl, (List.length_set.trans a9)⟩⟩ (Zf Wj (Zf Wj (Zf Yl (Zf Zh Zg))))
  · rintro ⟨d0, a3, a2⟩ ht d2 _ _ ⟨rfl, a9⟩ rfl; subst ht; have H : (some (a3, 0)) = some (r0, r1) := f4; refine Z45 (H := [(some d2, mkO), (eC e6 #[.slice b9 b8 b7] 27), (eC e0 #[nV a8 n0.N.toNat n0.N.toNat] 26), (eC b2 #[iV n0.N, iV n0.S, iV n0.T, .slice a4 a6 a5] 24), (eC b4 #[.slice none 0 0] 26), (eC b6 #[iV d0] 31), (eA (some a8) boolC a3 ([]) 4), (eC d1 #[iV a2] 2)]) rfl ?_; refine Xs ?_; refine Ya ?_; refine sR Y3 rfl ?_; refine Zt Za Rp Xw rfl ?_; refine Xd (cs' := [nV a8 n0.N.toNat n0.N.toNat]) Za tk4 Z00 Zv ?_; refine Xd (cs' := [iV 0]) Za tk5 Z2f Zv ?_; refine dN ?_; refine T.ret ?_; obtain ⟨rfl, rfl⟩ := ret2 H; exact Z48 [d2] Zb (Zf Wj (Zs _)) (Vq rfl Rp Xk rfl) (Vq rfl Ks Zl rfl) (Zf tk5 Zg) ⟨(some a8), n0.N.toNat, n0.N.toNat, ([]), rfl, rfl, a9, (Nat.le_refl _), (Wy _ _), Xu⟩
  · rintro ⟨d0, a3, a2⟩ ht d2 _ _ ⟨rfl, a9⟩ rfl; subst ht; have H : (some ([], d0)) = some (r0, r1) := f4; refine Z4x (H := [(some d2, mkO), (eC e6 #[.slice b9 b8 b7] 27), (eC e0 #[nV a8 n0.N.toNat n0.N.toNat] 26), (eC b2 #[iV n0.N, iV n0.S, iV n0.T, .slice a4 a6 a5] 24), (eC b4 #[.slice none 0 0] 26), (eC b6 #[iV d0] 31), (eA (some a8) boolC a3 ([]) 4), (eC d1 #[iV a2] 2)]) rfl ?_; refine T.ret ?_; refine Yx ?_; refine Zu ?_; obtain ⟨rfl, rfl⟩ := ret2 H; exact Z48 [d2] Zb (Zf Zh (Zs _)) (Vq rfl Rp Ui rfl) (Vq rfl Ks Wt rfl) (Pick.none Zg) ⟨none, 0, 0, ([]), rfl, rfl, rfl, (Nat.le_refl _), (Wy 0 _), (fun _ => rfl)⟩
theorem Z5r (w : World) (hG : GK Tryd.prog w []) {r0 : Bool} (H : Nm = some r0) : Fnc Tryd.prog 6 #[] w [] (fun v N => v = .bool r0 ∧ N = []) := by
 unfold Nm at H; refine Fnc.enter (vs := []) Tryd.func6 rfl rfl (Inv.refl w) ?_; refine sR Y1 rfl ?_; refine aN Za ?_; refine sR Y5 rfl ?_; refine Us (t := 45) [iV 0, iV 0, iV 0] [0, 1, 2] Za (by simp only [Xz, setCells, Value.cells, List.toList_toArray, List.getD_cons_zero, List.getD_cons_succ, List.set_cons_zero, List.set_cons_succ]; rfl) (by kernel_rfl) ?_; refine Un [iV 0, iV 0, iV 0] [0] Za Xr Ws Kr Xj (by simp only [Xz, setCells, Value.cells, List.toList_toArray, List.getD_cons_zero, List.getD_cons_succ, List.set_cons_zero, List.set_cons_succ]; rfl) (by kernel_rfl) ?_; intro b1; refine Us (t := 24) [iV 0, iV 0, iV 0, .slice none 0 0] [0, 1, 2, 3] Za (by simp only [Xz, setCells, Value.cells, List.toList_toArray, List.getD_cons_zero, List.getD_cons_succ, List.set_cons_zero, List.set_cons_succ]; rfl) (by kernel_rfl) ?_; refine Ww Zv Z4b ?_; intro b3; refine Vg Za Zh Z15 Zv ?_; refine dS ?_; obtain ⟨⟨r7, r8⟩, e9, H⟩ := Zq H; refine rG Y8 rfl ?_; refine Ym Za Yk Zl rfl ?_; refine Un [iV 0] [0] Za Xh Xp Gf Xj (by simp only [Xz, setCells, Value.cells, List.toList_toArray, List.getD_cons_zero, List.getD_cons_succ, List.set_cons_zero, List.set_cons_succ]; rfl) (by kernel_rfl) ?_; intro b5; refine Zw Z37 Za (fun wc hwc => Z1l (n0 := (Net.mk 2 0 1 ([(Arc.mk 0 1 5)]))) (f1 := [3]) wc (hwc.rs (f := Yd) (s := 3) (xs := [(Arc.mk 0 1 5)]) (j := ([])) (fun _ => rfl) Xw rfl (Nat.le_refl _) Xu) (hwc.rs (f := iC) (s := 1) (xs := [3]) (j := ([])) (fun _ => rfl) Zl rfl (Nat.le_refl _) Xu) (hG.mono hwc) e9) ?_; rintro _ _ ⟨g9, k6, c12, h0, rfl, rfl, f4, f5, h1, f6⟩; refine Zc Za ?_; refine TO.extract Zb ?_; refine TO.extract Zb ?_; refine Zz Za ?_; refine aN Za ?_; refine Zn (aT [1, 2, 3] rfl) ?_; refine Zi ?_; obtain ⟨⟨k7, f7⟩, h2, H⟩ := Zq H; refine rG Y8 rfl ?_; refine Ym Za Yk Xw rfl ?_; refine Un [iV 0] [0] Za Xh Xp Gf Xj (by simp only [Xz, setCells, Value.cells, List.toList_toArray, List.getD_cons_zero, List.getD_cons_succ, List.set_cons_zero, List.set_cons_succ]; rfl) (by kernel_rfl) ?_; intro k8; refine Zw Z37 Za (fun wc hwc => Z1l (n0 := (Net.mk 2 0 1 ([(Arc.mk 0 1 5)]))) (f1 := [6]) wc (hwc.rs (f := Yd) (s := 3) (xs := [(Arc.mk 0 1 5)]) (j := ([])) (fun _ => rfl) Wt rfl (Nat.le_refl _) Xu) (hwc.rs (f := iC) (s := 1) (xs := [6]) (j := ([])) (fun _ => rfl) Zl rfl (Nat.le_refl _) Xu) (hG.mono hwc) h2) ?_; rintro _ _ ⟨h3, n25, c26, k9, rfl, rfl, h4, h5, h6, h7⟩; refine Zc Za ?_; refine TO.extract Zb ?_; refine TO.extract Zb ?_; refine Zz Za ?_; refine aN Za ?_; refine Zi ?_; obtain ⟨⟨f3, d8⟩, h8, H⟩ := Zq H; refine rG Y9 rfl ?_; refine Ym Za Yk Wt rfl ?_; refine Un [.int .u8 0, .int .u8 0, .int .u8 0, .int .u8 0, .int .u8 0, .int .u8 0, .int .u8 0, .int .u8 0, .int .u8 0, .int .u8 0, .int .u8 0] [0, 1, 2, 3, 4, 5, 6, 7, 8, 9, 10] Za We Jc Z1q Xj (by simp only [Xz, setCells, Value.cells, List.toList_toArray, List.getD_cons_zero, List.getD_cons_succ, List.set_cons_zero, List.set_cons_succ]; rfl) (by kernel_rfl) ?_; intro l0; refine Z4c Za We Nn Zh ?_; intro h9; refine Zw Ri Za (fun wc hwc => Z12 (n0 := (Net.mk 2 0 1 ([(Arc.mk 0 1 5)]))) (b1 := [115, 32, 51, 10, 102, 32, 49, 32, 50, 32, 51]) wc (hwc.rs (f := Yd) (s := 3) (xs := [(Arc.mk 0 1 5)]) (j := ([])) (fun _ => rfl) mm6 rfl (Nat.le_refl _) Xu) (hwc.rs (f := (intC .u8)) (s := 1) (xs := [115, 32, 51, 10, 102, 32, 49, 32, 50, 32, 51]) (j := ([])) (fun _ => rfl) Zl rfl (Nat.le_refl _) Xu) (hG.mono hwc) h8) ?_; rintro _ _ ⟨b7, f8, c41, l3, rfl, rfl, f9, g0, i3, g1⟩; refine Zc Za ?_; refine TO.extract Zb ?_; refine TO.extract Zb ?_; refine Zz Za ?_; refine aN Za ?_; refine Zn (aT [1, 2, 3, 5, 6, 7] rfl) ?_; refine Zi ?_; obtain ⟨⟨l4, b8⟩, i4, H⟩ := Zq H; refine rG Y9 rfl ?_; refine Ym Za Yk mm6 rfl ?_; refine Un [.int .u8 0, .int .u8 0, .int .u8 0, .int .u8 0, .int .u8 0, .int .u8 0, .int .u8 0, .int .u8 0, .int .u8 0, .int .u8 0, .int .u8 0, .int .u8 0] [0, 1, 2, 3, 4, 5, 6, 7, 8, 9, 10, 11] Za We Jc Z1q Xj (by simp only [Xz, setCells, Value.cells, List.toList_toArray, List.getD_cons_zero, List.getD_cons_succ, List.set_cons_zero, List.set_cons_succ]; rfl) (by kernel_rfl) ?_; intro l5; refine Z4c Za We Nn Zh ?_; intro i5; refine Zw Ri Za (fun wc hwc => Z12 (n0 := (Net.mk 2 0 1 ([(Arc.mk 0 1 5)]))) (b1 := [115, 32, 50, 10, 102, 32, 49, 32, 50, 32, 51, 10]) wc (hwc.rs (f := Yd) (s := 3) (xs := [(Arc.mk 0 1 5)]) (j := ([])) (fun _ => rfl) mm8 rfl (Nat.le_refl _) Xu) (hwc.rs (f := (intC .u8)) (s := 1) (xs := [115, 32, 50, 10, 102, 32, 49, 32, 50, 32, 51, 10]) (j := ([])) (fun _ => rfl) Zl rfl (Nat.le_refl _) Xu) (hG.mono hwc) i4) ?_; rintro _ _ ⟨i6, l6, c56, l7, rfl, rfl, i7, i8, i9, j0⟩; refine Zc Za ?_; refine TO.extract Zb ?_; refine TO.extract Zb ?_; refine Zz Za ?_; refine aN Za ?_; refine Zn (aT [1, 2, 3, 5, 6, 7, 9] rfl) ?_; refine Zi ?_; obtain ⟨⟨a6, a7⟩, j1, H⟩ := Zq H; refine rG Y8 rfl ?_; refine Ym Za Yk mm8 rfl ?_; refine Un [.bool false, .bool false] [0, 1] Za Vt Vx Rr Xj (by simp only [Xz, setCells, Value.cells, List.toList_toArray, List.getD_cons_zero, List.getD_cons_succ, List.set_cons_zero, List.set_cons_succ]; rfl) (by kernel_rfl) ?_; intro l8; refine Zw Z3u Za (fun wc hwc => Z39 (n0 := (Net.mk 2 0 1 ([(Arc.mk 0 1 5)]))) (s1 := [true, false]) wc (hwc.rs (f := Yd) (s := 3) (xs := [(Arc.mk 0 1 5)]) (j := ([])) (fun _ => rfl) mm10 rfl (Nat.le_refl _) Xu) (hwc.rs (f := boolC) (s := 1) (xs := [true, false]) (j := ([])) (fun _ => rfl) Zl rfl (Nat.le_refl _) Xu) (hG.mono hwc) j1) ?_; rintro _ _ ⟨a5, d9, e0, j2, rfl, rfl, g2, g3, j3, g4⟩; refine Zc Za ?_; refine TO.extract Zb ?_; refine TO.extract Zb ?_; refine Zz Za ?_; refine aN Za ?_; refine Zi ?_; obtain ⟨⟨l9, a4⟩, j4, H⟩ := Zq H; refine rG Y9 rfl ?_; refine Ym Za Yk mm10 rfl ?_; refine Un [.int .u8 0, .int .u8 0, .int .u8 0, .int .u8 0, .int .u8 0, .int .u8 0, .int .u8 0, .int .u8 0] [0, 1, 2, 3, 4, 5, 6, 7] Za We Jc Z1q Xj (by simp only [Xz, setCells, Value.cells, List.toList_toArray, List.getD_cons_zero, List.getD_cons_succ, List.set_cons_zero, List.set_cons_succ]; rfl) (by kernel_rfl) ?_; intro m0; refine Z4c Za We Nn Zh ?_; intro j5; refine Zw Z01 Za (fun wc hwc => Z0j (n0 := (Net.mk 2 0 1 ([(Arc.mk 0 1 5)]))) (b1 := [107, 32, 50, 10, 107, 32, 49, 10]) wc (hwc.rs (f := Yd) (s := 3) (xs := [(Arc.mk 0 1 5)]) (j := ([])) (fun _ => rfl) mm12 rfl (Nat.le_refl _) Xu) (hwc.rs (f := (intC .u8)) (s := 1) (xs := [107, 32, 50, 10, 107, 32, 49, 10]) (j := ([])) (fun _ => rfl) Zl rfl (Nat.le_refl _) Xu) (hG.mono hwc) j4) ?_; rintro _ _ ⟨j6, m1, m2, m3, rfl, rfl, j7, j8, j9, k0⟩; refine Zc Za ?_; refine TO.extract Zb ?_; refine TO.extract Zb ?_; refine Zz Za ?_; refine aN Za ?_; refine Zn (aT [1, 2, 3, 5, 6, 7, 9, 10, 11, 13] rfl) ?_; refine Zi ?_; obtain ⟨⟨a8, a3⟩, k1, H⟩ := Zq H; refine rG Y7 rfl ?_; refine Ym Za Yk mm12 rfl ?_; refine Zw Z01 Za (fun wc hwc => Z0j (n0 := (Net.mk 2 0 1 ([(Arc.mk 0 1 5)]))) (b1 := []) wc (hwc.rs (f := Yd) (s := 3) (xs := [(Arc.mk 0 1 5)]) (j := ([])) (fun _ => rfl) mm13 rfl (Nat.le_refl _) Xu) (RS.nil _ _ (fun _ => rfl)) (hG.mono hwc) k1) ?_; rintro _ _ ⟨a2, a9, b6, m4, rfl, rfl, g5, e1, g8, e2⟩; refine Zc Za ?_; refine TO.extract Zb ?_; refine TO.extract Zb ?_; refine Zz Za ?_; refine aN Za ?_; refine sR Y47 rfl ?_; refine Zc Za ?_; refine Zo Zm ?_; refine Zc Za ?_; refine TO.join [3, 4, 5, 6] [7, 8, 9, 10, 11, 12, 13, 14, 15, 16, 17, 18, 19, 20, 21, 22, 23, 24, 25, 26, 27, 28, 29, 30, 31, 32, 33, 34, 35, 36, 37, 38, 39, 40, 41, 42, 43, 44, 45, 46] rfl 69 (fun e3 => Z2d f7 f3 d8 b8 a6 a7 a4 a8 a3 e3 = some r0) [(5, iV f7), (6, sV b7 f8 c41), (7, iV d8), (9, iV b8), (10, sV a5 d9 e0), (11, iV a7), (13, iV a4), (14, sV a2 a9 b6), (15, iV a3)] ?_ ?_
 ·
  rcases Zp H with ⟨b9, H⟩ | ⟨b9, H⟩
  · refine Zr (t := 65) (b' := true) rfl (decide_eq_true b9) ?_; refine Zc Za ?_; refine Z4p (xs := r7) Za We Nn Na (fun wc hwc => (hwc.rs (f := (intC .u8)) (s := 1) (xs := r7) (j := h0) (fun _ => rfl) mm11 f4 f5 f6)) ?_; refine Z53 (p := (bu r7)) (q := ([115, 32, 51, 10, 102, 32, 49, 32, 50, 32, 51, 10] : Str)) Zb ?_; refine Yf Zb ?_; refine Zj ?_; exact Xt (b := (decide ((bu r7) = ([115, 32, 51, 10, 102, 32, 49, 32, 50, 32, 51, 10] : Str)))) H (aF rfl)
  · refine Zr (t := 65) (b' := false) rfl (decide_eq_false b9) ?_; refine Ze Za ?_; refine Ze Za ?_; refine Ze Za ?_; refine Yc Zb ?_; refine Zj ?_; exact Xt (b := false) H (aF rfl)
 ·
  rintro e3 H; unfold Z2d at H; refine Zc Za ?_; refine TO.join [8, 9, 10] [11, 12, 13, 14, 15, 16, 17, 18, 19, 20, 21, 22, 23, 24, 25, 26, 27, 28, 29, 30, 31, 32, 33, 34, 35, 36, 37, 38, 39, 40, 41, 42, 43, 44, 45, 46] rfl 73 (fun e4 => Z19 f3 d8 b8 a6 a7 a4 a8 a3 e4 = some r0) [(6, sV b7 f8 c41), (7, iV d8), (9, iV b8), (10, sV a5 d9 e0), (11, iV a7), (13, iV a4), (14, sV a2 a9 b6), (15, iV a3)] ?_ ?_
  ·
   rcases Zp H with ⟨c0, H⟩ | ⟨c0, H⟩
   · refine Zr (t := 70) (b' := true) rfl c0 ?_; refine Zc Za ?_; refine Zo Zm ?_; refine Yf Zb ?_; refine Zj ?_; exact Xt (b := (decide (f7 = 20))) H (aF rfl)
   · refine Zr (t := 70) (b' := false) rfl (Bool.eq_false_iff.2 c0) ?_; refine Ze Za ?_; refine Ze Za ?_; refine Yc Zb ?_; refine Zj ?_; exact Xt (b := false) H (aF rfl)
  ·
   rintro e4 H; unfold Z19 at H; refine Zc Za ?_; refine TO.join [12, 13, 14] [15, 16, 17, 18, 19, 20, 21, 22, 23, 24, 25, 26, 27, 28, 29, 30, 31, 32, 33, 34, 35, 36, 37, 38, 39, 40, 41, 42, 43, 44, 45, 46] rfl 77 (fun e5 => Z2u f3 b8 a6 a7 a4 a8 a3 e5 = some r0) [(6, sV b7 f8 c41), (9, iV b8), (10, sV a5 d9 e0), (11, iV a7), (13, iV a4), (14, sV a2 a9 b6), (15, iV a3)] ?_ ?_
   ·
    rcases Zp H with ⟨d0, H⟩ | ⟨d0, H⟩
    · refine Zr (t := 74) (b' := true) rfl d0 ?_; refine Zc Za ?_; refine Zo Zm ?_; refine Yf Zb ?_; refine Zj ?_; exact Xt (b := (decide (d8 = 0))) H (aF rfl)
    · refine Zr (t := 74) (b' := false) rfl (Bool.eq_false_iff.2 d0) ?_; refine Ze Za ?_; refine Ze Za ?_; refine Yc Zb ?_; refine Zj ?_; exact Xt (b := false) H (aF rfl)
   ·
    rintro e5 H; unfold Z2u at H; rcases Zp H with ⟨d1, H⟩ | ⟨d1, H⟩
    ·
     obtain ⟨k2, g6, H⟩ := Zq H; refine Zc Za ?_; refine Zr (t := 78) (b' := true) rfl d1 ?_; refine Zc Za ?_; refine Un [iV 0] [0] Za Xh Xp Gf Xj (by simp only [Xz, setCells, Value.cells, List.toList_toArray, List.getD_cons_zero, List.getD_cons_succ, List.set_cons_zero, List.set_cons_succ]; rfl) (by kernel_rfl) ?_; intro k3; refine Zw Z36 Za (fun wc hwc => Z31 (a0 := f3) (b1 := [3]) wc (Ke hwc mm8 f9 g0 g1) (hwc.rs (f := iC) (s := 1) (xs := [3]) (j := ([])) (fun _ => rfl) Zl rfl (Nat.le_refl _) Xu) g6) ?_; rintro _ _ ⟨rfl, rfl⟩; refine Yf Zb ?_; refine Zc Za ?_; refine TO.join [21, 22, 23] [24, 25, 26, 27, 28, 29, 30, 31, 32, 33, 34, 35, 36, 37, 38, 39, 40, 41, 42, 43, 44, 45, 46] rfl 86 (fun e6 => Z1c a6 a7 a4 a8 a3 e6 = some r0) [(10, sV a5 d9 e0), (11, iV a7), (13, iV a4), (14, sV a2 a9 b6), (15, iV a3)] ?_ ?_
     ·
      rcases Zp H with ⟨d2, H⟩ | ⟨d2, H⟩
      · refine Zr (t := 83) (b' := true) rfl d2 ?_; refine Zc Za ?_; refine Zo Zm ?_; refine Yf Zb ?_; refine Zj ?_; exact Xt (b := (decide (b8 = 70))) H (aF rfl)
      · refine Zr (t := 83) (b' := false) rfl (Bool.eq_false_iff.2 d2) ?_; refine Ze Za ?_; refine Ze Za ?_; refine Yc Zb ?_; refine Zj ?_; exact Xt (b := false) H (aF rfl)
     ·
      rintro e6 H; unfold Z1c at H; refine Zc Za ?_; refine TO.join [25, 26, 27] [28, 29, 30, 31, 32, 33, 34, 35, 36, 37, 38, 39, 40, 41, 42, 43, 44, 45, 46] rfl 90 (fun e7 => Z32 a6 a4 a8 a3 e7 = some r0) [(10, sV a5 d9 e0), (13, iV a4), (14, sV a2 a9 b6), (15, iV a3)] ?_ ?_
      ·
       rcases Zp H with ⟨d3, H⟩ | ⟨d3, H⟩
       · refine Zr (t := 87) (b' := true) rfl d3 ?_; refine Zc Za ?_; refine Zo Zm ?_; refine Yf Zb ?_; refine Zj ?_; exact Xt (b := (decide (a7 = 0))) H (aF rfl)
       · refine Zr (t := 87) (b' := false) rfl (Bool.eq_false_iff.2 d3) ?_; refine Ze Za ?_; refine Ze Za ?_; refine Yc Zb ?_; refine Zj ?_; exact Xt (b := false) H (aF rfl)
      ·
       rintro e7 H; unfold Z32 at H; refine Zc Za ?_; refine TO.join [29, 30, 31, 32] [33, 34, 35, 36, 37, 38, 39, 40, 41, 42, 43, 44, 45, 46] rfl 95 (fun e8 => Z18 a4 a8 a3 e8 = some r0) [(13, iV a4), (14, sV a2 a9 b6), (15, iV a3)] ?_ ?_
       ·
        rcases Zp H with ⟨d4, H⟩ | ⟨d4, H⟩
        · refine Zr (t := 91) (b' := true) rfl d4 ?_; refine Zc Za ?_; refine Z4p (xs := a6) Za We Nn Na (fun wc hwc => (hwc.rs (f := (intC .u8)) (s := 1) (xs := a6) (j := j2) (fun _ => rfl) Wt g2 g3 g4)) ?_; refine Z53 (p := (bu a6)) (q := ([107, 32, 49, 10] : Str)) Zb ?_; refine Yf Zb ?_; refine Zj ?_; exact Xt (b := (decide ((bu a6) = ([107, 32, 49, 10] : Str)))) H (aF rfl)
        · refine Zr (t := 91) (b' := false) rfl (Bool.eq_false_iff.2 d4) ?_; refine Ze Za ?_; refine Ze Za ?_; refine Ze Za ?_; refine Yc Zb ?_; refine Zj ?_; exact Xt (b := false) H (aF rfl)
       ·
        rintro e8 H; unfold Z18 at H; refine Zc Za ?_; refine TO.join [34, 35, 36] [37, 38, 39, 40, 41, 42, 43, 44, 45, 46] rfl 99 (fun f0 => Z13 a8 a3 f0 = some r0) [(14, sV a2 a9 b6), (15, iV a3)] ?_ ?_
        ·
         rcases Zp H with ⟨d5, H⟩ | ⟨d5, H⟩
         · refine Zr (t := 96) (b' := true) rfl d5 ?_; refine Zc Za ?_; refine Zo Zm ?_; refine Yf Zb ?_; refine Zj ?_; exact Xt (b := (decide (a4 = 70))) H (aF rfl)
         · refine Zr (t := 96) (b' := false) rfl (Bool.eq_false_iff.2 d5) ?_; refine Ze Za ?_; refine Ze Za ?_; refine Yc Zb ?_; refine Zj ?_; exact Xt (b := false) H (aF rfl)
        ·
         rintro f0 H; unfold Z13 at H; refine Zc Za ?_; refine TO.join [38, 39, 40] [41, 42, 43, 44, 45, 46] rfl 103 (fun f2 => Z2a a8 f2 = some r0) [(14, sV a2 a9 b6)] ?_ ?_
         ·
          rcases Zp H with ⟨d6, H⟩ | ⟨d6, H⟩
          · refine Zr (t := 100) (b' := true) rfl d6 ?_; refine Zc Za ?_; refine Zo Zm ?_; refine Yf Zb ?_; refine Zj ?_; exact Xt (b := (decide (a3 = 0))) H (aF rfl)
          · refine Zr (t := 100) (b' := false) rfl (Bool.eq_false_iff.2 d6) ?_; refine Ze Za ?_; refine Ze Za ?_; refine Yc Zb ?_; refine Zj ?_; exact Xt (b := false) H (aF rfl)
         ·
          rintro f2 H; unfold Z2a at H; rcases Zp H with ⟨d7, H⟩ | ⟨d7, H⟩
          · obtain ⟨k4, g7, H⟩ := Zq H; refine Zc Za ?_; refine Zr (t := 104) (b' := true) rfl d7 ?_; refine Zc Za ?_; refine Un [.bool false, .bool false] [0, 1] Za Vt Vx Rr Xj (by simp only [Xz, setCells, Value.cells, List.toList_toArray, List.getD_cons_zero, List.getD_cons_succ, List.set_cons_zero, List.set_cons_succ]; rfl) (by kernel_rfl) ?_; intro k5; refine Zw Z1f Za (fun wc hwc => Z1j (a0 := a8) (b1 := [false, false]) wc (rsB hwc Xw g5 e1 e2) (hwc.rs (f := boolC) (s := 1) (xs := [false, false]) (j := ([])) (fun _ => rfl) Zl rfl (Nat.le_refl _) Xu) g7) ?_; rintro _ _ ⟨rfl, rfl⟩; refine Yf Zb ?_; refine aN Za ?_; refine T.ret ?_; obtain rfl := ret1 H; exact Zy Za (Res.tmp rfl) Zg ⟨rfl, rfl⟩
          · refine Zc Za ?_; refine Zr (t := 104) (b' := false) rfl (Bool.eq_false_iff.2 d7) ?_; refine Ze Za ?_; refine Ze Za ?_; refine Ze Za ?_; refine Yc Zb ?_; refine aN Za ?_; refine T.ret ?_; obtain rfl := ret1 H; exact Zy Za (Res.tmp rfl) Zg ⟨rfl, rfl⟩
    · refine Zc Za ?_; refine Zr (t := 78) (b' := false) rfl (Bool.eq_false_iff.2 d1) ?_; refine Ze Za ?_; refine Ze Za ?_; refine Ze Za ?_; refine Yc Zb ?_; refine Zc Za ?_; refine Ze Za ?_; refine Ze Za ?_; refine Yc Zb ?_; refine Zc Za ?_; refine Ze Za ?_; refine Ze Za ?_; refine Yc Zb ?_; refine Zc Za ?_; refine Ze Za ?_; refine Ze Za ?_; refine Ze Za ?_; refine Yc Zb ?_; refine Zc Za ?_; refine Ze Za ?_; refine Ze Za ?_; refine Yc Zb ?_; refine Zc Za ?_; refine Ze Za ?_; refine Ze Za ?_; refine Yc Zb ?_; refine Zc Za ?_; refine Ze Za ?_; refine Ze Za ?_; refine Ze Za ?_; refine Yc Zb ?_; refine aN Za ?_; refine Zn (aT [0] rfl) ?_; refine T.ret ?_; obtain rfl := ret1 H; exact Zy Za (Res.tmp rfl) Zg ⟨rfl, rfl⟩
end Go.Proofs.YtnppjbofdkokkaaDoor.Ax
namespace Go.Proofs.YtnppjbofdkokkaaDoor.Ax
open Go Go.Acq Go.RowKit Go.Proofs
set_option maxHeartbeats 8000000
set_option maxRecDepth 20000
theorem Zbk : Yb Tryd.prog 4 = true := by kernel_rfl
theorem Z97 : Yb Tryd.prog 5 = true := by kernel_rfl
theorem Z64 : Yb Tryd.prog 6 = true := by kernel_rfl
theorem w_acequialaw28_SayBack {n0 : Net} {l1 b3 : List Int} {marks2 : List Bool} {b5 g1 a4 a8 : Option Addr} {b7 b6 g3 g2 a5 a6 a7 a9 : Nat} (w : World) (g0 : RS w [] Yd 3 b5 b7 b6 n0.Arcs) (i9 : RS w [] iC 1 g1 g3 g2 l1) (d2 : RS w [] boolC 1 a4 a5 a6 marks2) (e8 : RS w [] (intC .u8) 1 a8 a7 a9 b3) (hG : GK Tryd.prog w []) {r0 : Bool} (H : Z2p n0 l1 marks2 b3 = some r0) : Fnc Tryd.prog 3 #[.agg #[iV n0.N, iV n0.S, iV n0.T, .slice b5 b7 b6], .slice g1 g3 g2, .slice a4 a5 a6, .slice a8 a7 a9] w [] (fun v N => v = .bool r0 ∧ N = []) := by
 unfold Z2p at H; refine Fnc.enter (vs := [.agg #[iV n0.N, iV n0.S, iV n0.T, .slice b5 b7 b6], .slice g1 g3 g2, .slice a4 a5 a6, .slice a8 a7 a9]) Tryd.func3 rfl rfl (Inv.refl w) ?_; refine sR Y2 rfl ?_; refine Xo Za ?_; intro b1; refine aN Za ?_; refine Zi ?_; obtain ⟨r3, e4, H⟩ := Zq H; refine rG Y3 rfl ?_; refine Ym Za Yk Zl rfl ?_; refine Zw Zbk Za (fun wc hwc => Zbb (n0 := n0) (verts1 := 20) (arcs2 := 30) wc (g0.mono hwc) e4) ?_; rintro _ _ ⟨m5, n6, c7, j8, rfl, rfl, d1, a2, p2, a3⟩; refine Vg Za Yl Z15 Zv ?_; refine dS ?_; obtain ⟨g4, p3, H⟩ := Zq H; refine rG Y4 rfl ?_; refine Ym Za Yk Zl rfl ?_; refine Zc Za ?_; refine Zw Z97 Za (fun wc hwc => Z9i (n0 := r3) (l1 := l1) wc (hwc.rs (f := Yd) (s := 3) (xs := r3.Arcs) (j := j8) (fun _ => rfl) Xk d1 a2 a3) (i9.mono hwc) p3) ?_; rintro _ _ ⟨e9, j0, c18, v2, rfl, rfl, g5, g6, p4, g7⟩; refine aN Za ?_; refine Zn (aT [2, 3, 4, 9] rfl) ?_; obtain ⟨p5, H⟩ := Ye H; refine sR Y4 rfl ?_; refine Zx Za Vn ?_; refine Zt Za Yr Xk rfl ?_; refine TO.mkB p5 Zb Vt Vx Rr Z6t rfl ?_; intro g8; refine aN Za ?_; refine sR Y3 rfl ?_; refine Zc Za ?_; refine Zc Za ?_; refine TO.copyO (f := boolC) (s := 1) (xs := (List.replicate r3.N.toNat (false : Bool))) (ob := some g8) (j := ([])) (ys := marks2) (fun _ => rfl) (fun _ => rfl) List.length_replicate (Nat.le_refl _) Xu Zb Vt Vx Zh (fun wc hwc => (d2.mono hwc)) ?_; refine dS ?_; refine sR Y3 rfl ?_; refine Zc Za ?_; refine Yq (xs := b3) e8.len Zb We ?_; refine Zo Zm ?_; refine dN ?_; refine Zn (aT [3, 4, 9, 10, 44] rfl) ?_; rcases Zp H with ⟨j1, H⟩ | ⟨j1, H⟩
 · refine Yz rfl j1 ?_; refine Zi ?_; obtain ⟨v3, p6, H⟩ := Zq H; refine rG Y2 rfl ?_; refine Zw Z64 Za (fun wc hwc => Z5r  wc (hG.mono hwc) p6) ?_; rintro _ _ ⟨rfl, rfl⟩; refine aN Za ?_; refine T.ret ?_; refine Zu ?_; obtain rfl := ret1 H; exact Zy Za (Res.tmp rfl) Zg ⟨rfl, rfl⟩
 ·
  refine Yv rfl j1 ?_; refine T.skip ?_; refine Ya ?_; refine Zi ?_; obtain ⟨⟨m6, v4⟩, p7, H⟩ := Zq H; refine rG Y8 rfl ?_; refine Ym Za Yk Xw rfl ?_; refine Zc Za ?_; refine Zw Z37 Za (fun wc hwc => Z1l (n0 := r3) (f1 := g4) wc (hwc.rs (f := Yd) (s := 3) (xs := r3.Arcs) (j := j8) (fun _ => rfl) Ui d1 a2 a3) (Ke hwc Xk g5 g6 g7) (hG.mono hwc) p7) ?_; rintro _ _ ⟨p8, v6, c36, p9, rfl, rfl, j2, j3, q0, j4⟩; refine Zc Za ?_; refine TO.extract Zb ?_; refine TO.extract Zb ?_; refine Zz Za ?_; refine aN Za ?_; refine Zi ?_; obtain ⟨⟨i6, q1⟩, q2, H⟩ := Zq H; refine rG Y8 rfl ?_; refine Ym Za Yk Ui rfl ?_; refine Zc Za ?_; refine Zw Ri Za (fun wc hwc => Z12 (n0 := r3) (b1 := m6) wc (hwc.rs (f := Yd) (s := 3) (xs := r3.Arcs) (j := j8) (fun _ => rfl) Wt d1 a2 a3) (hwc.rs (f := (intC .u8)) (s := 1) (xs := m6) (j := p9) (fun _ => rfl) Zl j2 j3 j4) (hG.mono hwc) q2) ?_; rintro _ _ ⟨f0, j5, j6, v7, rfl, rfl, j7, j9, q3, k0⟩; refine Zc Za ?_; refine TO.extract Zb ?_; refine TO.extract Zb ?_; refine Zz Za ?_; refine aN Za ?_; refine Zn (aT [3, 4, 9, 10, 12, 13, 14] rfl) ?_; refine Zi ?_; obtain ⟨⟨m7, k1⟩, q4, H⟩ := Zq H; refine rG Y8 rfl ?_; refine Ym Za Yk Wt rfl ?_; refine Zc Za ?_; refine Zw Z3u Za (fun wc hwc => Z39 (n0 := r3) (s1 := (Uh (List.replicate r3.N.toNat (false : Bool)) marks2)) wc (hwc.rs (f := Yd) (s := 3) (xs := r3.Arcs) (j := j8) (fun _ => rfl) mm5 d1 a2 a3) (rsB hwc Xw (Z4y List.length_replicate) (Nat.le_refl _) Xu) (hG.mono hwc) q4) ?_; rintro _ _ ⟨q5, v8, v9, q6, rfl, rfl, k2, k3, q7, k4⟩; refine Zc Za ?_; refine TO.extract Zb ?_; refine TO.extract Zb ?_; refine Zz Za ?_; refine aN Za ?_; refine Zi ?_; obtain ⟨⟨g9, h0⟩, q8, H⟩ := Zq H; refine rG Y8 rfl ?_; refine Ym Za Yk mm5 rfl ?_; refine Zc Za ?_; refine Zw Z01 Za (fun wc hwc => Z0j (n0 := r3) (b1 := m7) wc (hwc.rs (f := Yd) (s := 3) (xs := r3.Arcs) (j := j8) (fun _ => rfl) mm6 d1 a2 a3) (hwc.rs (f := (intC .u8)) (s := 1) (xs := m7) (j := q6) (fun _ => rfl) Zl k2 k3 k4) (hG.mono hwc) q8) ?_; rintro _ _ ⟨d7, n71, i7, w0, rfl, rfl, k5, k6, q9, k7⟩; refine Zc Za ?_; refine TO.extract Zb ?_; refine TO.extract Zb ?_; refine Zz Za ?_; refine aN Za ?_; refine Zn (aT [3, 4, 9, 10, 12, 13, 14, 16, 17, 18] rfl) ?_; refine Zi ?_; refine sR Y26 rfl ?_; refine Zc Za ?_; refine Zo Zm ?_; refine Zc Za ?_; refine TO.join [3, 4, 5] [6, 7, 8, 9, 10, 11, 12, 13, 14, 15, 16, 17, 18, 19, 20, 21, 22, 23, 24, 25] rfl 75 (fun m8 => Z0l marks2 b3 r3 g4 i6 k1 g9 h0 m8 = some r0) [(3, .slice a8 a7 a9), (4, pV b1), (9, sV e9 j0 c18), (10, nV g8 r3.N.toNat r3.N.toNat), (13, sV f0 j5 j6), (16, iV k1), (17, sV d7 n71 i7), (18, iV h0)] ?_ ?_
  ·
   rcases Zp H with ⟨k8, H⟩ | ⟨k8, H⟩
   · refine Zr (t := 72) (b' := true) rfl (decide_eq_true k8) ?_; refine Ze Za ?_; refine Ze Za ?_; refine Yf Zb ?_; refine Zj ?_; exact Xt (b := true) H (aF rfl)
   · refine Zr (t := 72) (b' := false) rfl (decide_eq_false k8) ?_; refine Zc Za ?_; refine Zo Zm ?_; refine Yc Zb ?_; refine Zj ?_; exact Xt (b := (decide (q1 ≠ 0))) H (aF rfl)
  ·
   rintro m8 H; unfold Z0l at H; refine Zc Za ?_; refine TO.join [7, 8, 9] [10, 11, 12, 13, 14, 15, 16, 17, 18, 19, 20, 21, 22, 23, 24, 25] rfl 79 (fun m9 => Rz marks2 b3 r3 g4 i6 g9 h0 m9 = some r0) [(3, .slice a8 a7 a9), (4, pV b1), (9, sV e9 j0 c18), (10, nV g8 r3.N.toNat r3.N.toNat), (13, sV f0 j5 j6), (17, sV d7 n71 i7), (18, iV h0)] ?_ ?_
   ·
    rcases Zp H with ⟨k9, H⟩ | ⟨k9, H⟩
    · refine Zr (t := 76) (b' := true) rfl k9 ?_; refine Ze Za ?_; refine Ze Za ?_; refine Yf Zb ?_; refine Zj ?_; exact Xt (b := true) H (aF rfl)
    · refine Zr (t := 76) (b' := false) rfl (Bool.eq_false_iff.2 k9) ?_; refine Zc Za ?_; refine Zo Zm ?_; refine Yc Zb ?_; refine Zj ?_; exact Xt (b := (decide (k1 ≠ 0))) H (aF rfl)
   ·
    rintro m9 H; unfold Rz at H; refine Zc Za ?_; refine TO.join [11, 12, 13] [14, 15, 16, 17, 18, 19, 20, 21, 22, 23, 24, 25] rfl 83 (fun n7 => Rk marks2 b3 r3 g4 i6 g9 n7 = some r0) [(3, .slice a8 a7 a9), (4, pV b1), (9, sV e9 j0 c18), (10, nV g8 r3.N.toNat r3.N.toNat), (13, sV f0 j5 j6), (17, sV d7 n71 i7)] ?_ ?_
    ·
     rcases Zp H with ⟨l0, H⟩ | ⟨l0, H⟩
     · refine Zr (t := 80) (b' := true) rfl l0 ?_; refine Ze Za ?_; refine Ze Za ?_; refine Yf Zb ?_; refine Zj ?_; exact Xt (b := true) H (aF rfl)
     · refine Zr (t := 80) (b' := false) rfl (Bool.eq_false_iff.2 l0) ?_; refine Zc Za ?_; refine Zo Zm ?_; refine Yc Zb ?_; refine Zj ?_; exact Xt (b := (decide (h0 ≠ 0))) H (aF rfl)
    ·
     rintro n7 H; unfold Rk at H; refine Zc Za ?_; refine TO.join [15, 16, 17, 18, 19] [20, 21, 22, 23, 24, 25] rfl 89 (fun n8 => Z0t marks2 b3 r3 g9 n8 = some r0) [(3, .slice a8 a7 a9), (4, pV b1), (10, nV g8 r3.N.toNat r3.N.toNat), (17, sV d7 n71 i7)] ?_ ?_
     ·
      rcases Zp H with ⟨l3, H⟩ | ⟨l3, H⟩
      · refine Zr (t := 84) (b' := true) rfl l3 ?_; refine Ze Za ?_; refine Ze Za ?_; refine Ze Za ?_; refine Ze Za ?_; refine Yf Zb ?_; refine Zj ?_; exact Xt (b := true) H (aF rfl)
      · obtain ⟨r1, r2, H⟩ := Zq H; refine Zr (t := 84) (b' := false) rfl (Bool.eq_false_iff.2 l3) ?_; refine Zc Za ?_; refine Zc Za ?_; refine Zw Z36 Za (fun wc hwc => Z31 (a0 := g4) (b1 := i6) wc (Ke hwc mm5 g5 g6 g7) (Ke hwc Xw j7 j9 k0) r2) ?_; rintro _ _ ⟨rfl, rfl⟩; refine TO.not Za ?_; refine Yc Zb ?_; refine Zj ?_; exact Xt (b := (!r1)) H (aF rfl)
     ·
      rintro n8 H; unfold Z0t at H; refine Zc Za ?_; refine TO.join [21, 22, 23, 24, 25] [] rfl 95 (fun o0 => Z0n b3 r3 o0 = some r0) [(3, .slice a8 a7 a9), (4, pV b1)] ?_ ?_
      ·
       rcases Zp H with ⟨l4, H⟩ | ⟨l4, H⟩
       · refine Zr (t := 90) (b' := true) rfl l4 ?_; refine Ze Za ?_; refine Ze Za ?_; refine Ze Za ?_; refine Ze Za ?_; refine Yf Zb ?_; refine Zj ?_; exact Xt (b := true) H (aF rfl)
       · obtain ⟨r4, r5, H⟩ := Zq H; refine Zr (t := 90) (b' := false) rfl (Bool.eq_false_iff.2 l4) ?_; refine Zc Za ?_; refine Zc Za ?_; refine Zw Z1f Za (fun wc hwc => Z1j (a0 := (Uh (List.replicate r3.N.toNat (false : Bool)) marks2)) (b1 := g9) wc (rsB hwc Wt (Z4y List.length_replicate) (Nat.le_refl _) Xu) (rsB hwc Zl k5 k6 k7) r5) ?_; rintro _ _ ⟨rfl, rfl⟩; refine TO.not Za ?_; refine Yc Zb ?_; refine Zj ?_; exact Xt (b := (!r4)) H (aF rfl)
      ·
       rintro o0 H; unfold Z0n at H; refine dN ?_; rcases Zp H with ⟨l5, H⟩ | ⟨l5, H⟩
       · refine Ys rfl l5 ?_; refine sR Y1 rfl ?_; refine aN Za ?_; refine T.ret ?_; refine Zu ?_; obtain rfl := ret1 H; exact Zy Za (Res.tmp rfl) Zg ⟨rfl, rfl⟩
       ·
        refine Xl rfl (Bool.eq_false_iff.2 l5) ?_; refine T.skip ?_; refine Ya ?_; refine Zi ?_; refine Zi ?_; obtain ⟨⟨i8, w2⟩, r6, H⟩ := Zq H; refine rG Y8 rfl ?_; refine Ym Za Yk mm6 rfl ?_; refine Zc Za ?_; refine Zw Ri Za (fun wc hwc => Z12 (n0 := r3) (b1 := b3) wc (hwc.rs (f := Yd) (s := 3) (xs := r3.Arcs) (j := j8) (fun _ => rfl) mm7 d1 a2 a3) (e8.mono hwc) (hG.mono hwc) r6) ?_; rintro _ _ ⟨r7, w3, w4, r8, rfl, rfl, b8, b9, o1, c0⟩; refine Zc Za ?_; refine TO.extract Zb ?_; refine TO.extract Zb ?_; refine Zz Za ?_; refine aN Za ?_; refine sR Y2 rfl ?_; refine Zc Za ?_; refine Zo Zm ?_; refine dN ?_; refine Zn (aT [3, 4, 19, 103] rfl) ?_; refine Wh (fun (f2 : Unit) => Le b3 r3 = some r0) (fun (f2 : Unit) => [(3, .slice a8 a7 a9), (4, pV b1)]) (fun (f2 : Unit) => [(eC b1 #[iV r3.N, iV r3.S, iV r3.T, sV m5 n6 c7] 24), (eA m5 Yd r3.Arcs j8 45)]) ?_ ?_
        ·
         rcases Zp H with ⟨f3, H⟩ | ⟨f3, H⟩
         ·
          refine Yz rfl f3 ?_; refine Zi ?_; obtain ⟨⟨h1, r9⟩, l6, H⟩ := Zq H; refine rG Y8 rfl ?_; refine Ym Za Yk mm7 rfl ?_; refine Zc Za ?_; refine Zw Z37 Za (fun wc hwc => Z1l (n0 := r3) (f1 := i8) wc (hwc.rs (f := Yd) (s := 3) (xs := r3.Arcs) (j := j8) (fun _ => rfl) mm8 d1 a2 a3) (Ke hwc Zl b8 b9 c0) (hG.mono hwc) l6) ?_; rintro _ _ ⟨o2, s6, s7, l7, rfl, rfl, h2, h3, o3, h4⟩; refine Zc Za ?_; refine TO.extract Zb ?_; refine TO.extract Zb ?_; refine Zz Za ?_; refine aN Za ?_; refine Zi ?_; obtain ⟨⟨h5, s8⟩, l8, H⟩ := Zq H; refine rG Y8 rfl ?_; refine Ym Za Yk mm8 rfl ?_; refine Zc Za ?_; refine Zw Ri Za (fun wc hwc => Z12 (n0 := r3) (b1 := h1) wc (hwc.rs (f := Yd) (s := 3) (xs := r3.Arcs) (j := j8) (fun _ => rfl) mm9 d1 a2 a3) (hwc.rs (f := (intC .u8)) (s := 1) (xs := h1) (j := l7) (fun _ => rfl) Zl h2 h3 h4) (hG.mono hwc) l8) ?_; rintro _ _ ⟨o4, t0, t1, t2, rfl, rfl, e1, e2, o5, e3⟩; refine Zc Za ?_; refine TO.extract Zb ?_; refine TO.extract Zb ?_; refine Zz Za ?_; refine aN Za ?_; refine Zn (aT [3, 4, 19, 22, 23, 24] rfl) ?_; refine Zi ?_; rcases Zp H with ⟨d3, H⟩ | ⟨d3, H⟩
          · refine rG Y18 rfl ?_; refine Zc Za ?_; refine Zo Zm ?_; refine Zc Za ?_; refine Zr (t := 118) (b' := true) rfl (decide_eq_true d3) ?_; refine Ze Za ?_; refine Ze Za ?_; refine Yf Zb ?_; refine Zc Za ?_; refine Ze Za ?_; refine Ze Za ?_; refine Ze Za ?_; refine Ze Za ?_; refine Yf Zb ?_; refine Zc Za ?_; refine Ze Za ?_; refine Ze Za ?_; refine Ze Za ?_; refine Ze Za ?_; refine Yf Zb ?_; refine dN ?_; refine Zn (aT [3, 4, 133] rfl) ?_; refine Ys rfl rfl ?_; refine sR Y1 rfl ?_; refine aN Za ?_; refine T.ret ?_; refine Zu ?_; obtain rfl := ret1 H; exact Zy Za (Res.tmp rfl) Zg ⟨rfl, rfl⟩
          ·
           rcases Zp H with ⟨d8, H⟩ | ⟨d8, H⟩
           · refine rG Y18 rfl ?_; refine Zc Za ?_; refine Zo Zm ?_; refine Zc Za ?_; refine Zr (t := 118) (b' := false) rfl (decide_eq_false d3) ?_; refine Zc Za ?_; refine Zo Zm ?_; refine Yc Zb ?_; refine Zc Za ?_; refine Zr (t := 122) (b' := true) rfl (decide_eq_true d8) ?_; refine Ze Za ?_; refine Ze Za ?_; refine Ze Za ?_; refine Ze Za ?_; refine Yf Zb ?_; refine Zc Za ?_; refine Ze Za ?_; refine Ze Za ?_; refine Ze Za ?_; refine Ze Za ?_; refine Yf Zb ?_; refine dN ?_; refine Zn (aT [3, 4, 133] rfl) ?_; refine Ys rfl rfl ?_; refine sR Y1 rfl ?_; refine aN Za ?_; refine T.ret ?_; refine Zu ?_; obtain rfl := ret1 H; exact Zy Za (Res.tmp rfl) Zg ⟨rfl, rfl⟩
           ·
            obtain ⟨t3, h6, H⟩ := Zq H; rcases Zp H with ⟨f4, H⟩ | ⟨f4, H⟩
            · refine rG Y18 rfl ?_; refine Zc Za ?_; refine Zo Zm ?_; refine Zc Za ?_; refine Zr (t := 118) (b' := false) rfl (decide_eq_false d3) ?_; refine Zc Za ?_; refine Zo Zm ?_; refine Yc Zb ?_; refine Zc Za ?_; refine Zr (t := 122) (b' := false) rfl (decide_eq_false d8) ?_; refine Zc Za ?_; refine Zc Za ?_; refine Zw Z36 Za (fun wc hwc => Z31 (a0 := i8) (b1 := h5) wc (Ke hwc Xw b8 b9 c0) (Ke hwc Zl e1 e2 e3) h6) ?_; rintro _ _ ⟨rfl, rfl⟩; refine TO.not Za ?_; refine Yc Zb ?_; refine Zc Za ?_; refine Zr (t := 128) (b' := true) rfl f4 ?_; refine Ze Za ?_; refine Ze Za ?_; refine Ze Za ?_; refine Ze Za ?_; refine Yf Zb ?_; refine dN ?_; refine Zn (aT [3, 4, 133] rfl) ?_; refine Ys rfl rfl ?_; refine sR Y1 rfl ?_; refine aN Za ?_; refine T.ret ?_; refine Zu ?_; obtain rfl := ret1 H; exact Zy Za (Res.tmp rfl) Zg ⟨rfl, rfl⟩
            ·
             obtain ⟨t4, l9, H⟩ := Zq H; refine rG Y18 rfl ?_; refine Zc Za ?_; refine Zo Zm ?_; refine Zc Za ?_; refine Zr (t := 118) (b' := false) rfl (decide_eq_false d3) ?_; refine Zc Za ?_; refine Zo Zm ?_; refine Yc Zb ?_; refine Zc Za ?_; refine Zr (t := 122) (b' := false) rfl (decide_eq_false d8) ?_; refine Zc Za ?_; refine Zc Za ?_; refine Zw Z36 Za (fun wc hwc => Z31 (a0 := i8) (b1 := h5) wc (Ke hwc Xw b8 b9 c0) (Ke hwc Zl e1 e2 e3) h6) ?_; rintro _ _ ⟨rfl, rfl⟩; refine TO.not Za ?_; refine Yc Zb ?_; refine Zc Za ?_; refine Zr (t := 128) (b' := false) rfl (Bool.eq_false_iff.2 f4) ?_; refine Ym Za Yk mm9 rfl ?_; refine Zc Za ?_; refine Zw Z5o Za (fun wc hwc => Z5l (n0 := r3) (f1 := i8) wc (hwc.rs (f := Yd) (s := 3) (xs := r3.Arcs) (j := j8) (fun _ => rfl) mm10 d1 a2 a3) (Ke hwc Xw b8 b9 c0) l9) ?_; rintro _ _ ⟨rfl, rfl⟩; refine TO.not Za ?_; refine Yc Zb ?_; refine dN ?_; refine Zn (aT [3, 4, 133] rfl) ?_; rcases Zp H with ⟨f5, H⟩ | ⟨f5, H⟩
             · refine Ys rfl f5 ?_; refine sR Y1 rfl ?_; refine aN Za ?_; refine T.ret ?_; refine Zu ?_; obtain rfl := ret1 H; exact Zy Za (Res.tmp rfl) Zg ⟨rfl, rfl⟩
             · refine Xl rfl (Bool.eq_false_iff.2 f5) ?_; refine T.skip ?_; exact Xg () H (aF rfl) (Zf tk9 (Zf tk9 Zg))
         · refine Yv rfl f3 ?_; refine T.skip ?_; exact Xg () H (aF rfl) (Zf tk7 (Zf tk7 Zg))
        ·
         rintro f2 H; unfold Le at H; refine Zi ?_; refine Zi ?_; obtain ⟨⟨d9, t5⟩, m0, H⟩ := Zq H; refine rG Y8 rfl ?_; refine Ym Za Yk Zl rfl ?_; refine Zc Za ?_; refine Zw Z01 Za (fun wc hwc => Z0j (n0 := r3) (b1 := b3) wc (hwc.rs (f := Yd) (s := 3) (xs := r3.Arcs) (j := j8) (fun _ => rfl) Xk d1 a2 a3) (e8.mono hwc) (hG.mono hwc) m0) ?_; rintro _ _ ⟨o6, t6, t7, t8, rfl, rfl, d0, d4, o7, d5⟩; refine Zc Za ?_; refine TO.extract Zb ?_; refine TO.extract Zb ?_; refine Zz Za ?_; refine aN Za ?_; refine sR Y2 rfl ?_; refine Zc Za ?_; refine Zo Zm ?_; refine dN ?_; refine Zn (aT [4, 25, 141] rfl) ?_; refine Wh (fun (f6 : Unit) => Z0s = some r0) (fun (f6 : Unit) => []) (fun (f6 : Unit) => []) ?_ ?_
         ·
          rcases Zp H with ⟨f7, H⟩ | ⟨f7, H⟩
          ·
           refine Yz rfl f7 ?_; refine Zi ?_; obtain ⟨⟨h7, u0⟩, m1, H⟩ := Zq H; refine rG Y8 rfl ?_; refine Ym Za Yk Xk rfl ?_; refine Zc Za ?_; refine Zw Z3u Za (fun wc hwc => Z39 (n0 := r3) (s1 := d9) wc (hwc.rs (f := Yd) (s := 3) (xs := r3.Arcs) (j := j8) (fun _ => rfl) Xw d1 a2 a3) (rsB hwc Zl d0 d4 d5) (hG.mono hwc) m1) ?_; rintro _ _ ⟨o8, u1, u2, m2, rfl, rfl, h8, h9, o9, i3⟩; refine Zc Za ?_; refine TO.extract Zb ?_; refine TO.extract Zb ?_; refine Zz Za ?_; refine aN Za ?_; refine Zi ?_; obtain ⟨⟨i4, u3⟩, m3, H⟩ := Zq H; refine rG Y8 rfl ?_; refine Ym Za Yk Xw rfl ?_; refine Zc Za ?_; refine Zw Z01 Za (fun wc hwc => Z0j (n0 := r3) (b1 := h7) wc (hwc.rs (f := Yd) (s := 3) (xs := r3.Arcs) (j := j8) (fun _ => rfl) Ui d1 a2 a3) (hwc.rs (f := (intC .u8)) (s := 1) (xs := h7) (j := m2) (fun _ => rfl) Zl h8 h9 i3) (hG.mono hwc) m3) ?_; rintro _ _ ⟨p0, u5, u6, u7, rfl, rfl, e5, e6, p1, e7⟩; refine Zc Za ?_; refine TO.extract Zb ?_; refine TO.extract Zb ?_; refine Zz Za ?_; refine aN Za ?_; refine Zn (aT [4, 25, 28, 29, 30] rfl) ?_; refine Zi ?_; rcases Zp H with ⟨d6, H⟩ | ⟨d6, H⟩
           · refine rG Y19 rfl ?_; refine Zc Za ?_; refine Zo Zm ?_; refine Zc Za ?_; refine Zr (t := 156) (b' := true) rfl (decide_eq_true d6) ?_; refine Ze Za ?_; refine Ze Za ?_; refine Yf Zb ?_; refine Zc Za ?_; refine Ze Za ?_; refine Ze Za ?_; refine Ze Za ?_; refine Ze Za ?_; refine Yf Zb ?_; refine Zc Za ?_; refine Ze Za ?_; refine Ze Za ?_; refine Ze Za ?_; refine Ze Za ?_; refine Ze Za ?_; refine Yf Zb ?_; refine dN ?_; refine Zn (aT [172] rfl) ?_; refine Ys rfl rfl ?_; refine sR Y1 rfl ?_; refine aN Za ?_; refine T.ret ?_; refine Zu ?_; obtain rfl := ret1 H; exact Zy Za (Res.tmp rfl) Zg ⟨rfl, rfl⟩
           ·
            rcases Zp H with ⟨e0, H⟩ | ⟨e0, H⟩
            · refine rG Y19 rfl ?_; refine Zc Za ?_; refine Zo Zm ?_; refine Zc Za ?_; refine Zr (t := 156) (b' := false) rfl (decide_eq_false d6) ?_; refine Zc Za ?_; refine Zo Zm ?_; refine Yc Zb ?_; refine Zc Za ?_; refine Zr (t := 160) (b' := true) rfl (decide_eq_true e0) ?_; refine Ze Za ?_; refine Ze Za ?_; refine Ze Za ?_; refine Ze Za ?_; refine Yf Zb ?_; refine Zc Za ?_; refine Ze Za ?_; refine Ze Za ?_; refine Ze Za ?_; refine Ze Za ?_; refine Ze Za ?_; refine Yf Zb ?_; refine dN ?_; refine Zn (aT [172] rfl) ?_; refine Ys rfl rfl ?_; refine sR Y1 rfl ?_; refine aN Za ?_; refine T.ret ?_; refine Zu ?_; obtain rfl := ret1 H; exact Zy Za (Res.tmp rfl) Zg ⟨rfl, rfl⟩
            ·
             obtain ⟨u9, i5, H⟩ := Zq H; rcases Zp H with ⟨f8, H⟩ | ⟨f8, H⟩
             · refine rG Y19 rfl ?_; refine Zc Za ?_; refine Zo Zm ?_; refine Zc Za ?_; refine Zr (t := 156) (b' := false) rfl (decide_eq_false d6) ?_; refine Zc Za ?_; refine Zo Zm ?_; refine Yc Zb ?_; refine Zc Za ?_; refine Zr (t := 160) (b' := false) rfl (decide_eq_false e0) ?_; refine Zc Za ?_; refine Zc Za ?_; refine Zw Z1f Za (fun wc hwc => Z1j (a0 := d9) (b1 := i4) wc (rsB hwc Xw d0 d4 d5) (rsB hwc Zl e5 e6 e7) i5) ?_; rintro _ _ ⟨rfl, rfl⟩; refine TO.not Za ?_; refine Yc Zb ?_; refine Zc Za ?_; refine Zr (t := 166) (b' := true) rfl f8 ?_; refine Ze Za ?_; refine Ze Za ?_; refine Ze Za ?_; refine Ze Za ?_; refine Ze Za ?_; refine Yf Zb ?_; refine dN ?_; refine Zn (aT [172] rfl) ?_; refine Ys rfl rfl ?_; refine sR Y1 rfl ?_; refine aN Za ?_; refine T.ret ?_; refine Zu ?_; obtain rfl := ret1 H; exact Zy Za (Res.tmp rfl) Zg ⟨rfl, rfl⟩
             ·
              refine rG Y19 rfl ?_; refine Zc Za ?_; refine Zo Zm ?_; refine Zc Za ?_; refine Zr (t := 156) (b' := false) rfl (decide_eq_false d6) ?_; refine Zc Za ?_; refine Zo Zm ?_; refine Yc Zb ?_; refine Zc Za ?_; refine Zr (t := 160) (b' := false) rfl (decide_eq_false e0) ?_; refine Zc Za ?_; refine Zc Za ?_; refine Zw Z1f Za (fun wc hwc => Z1j (a0 := d9) (b1 := i4) wc (rsB hwc Xw d0 d4 d5) (rsB hwc Zl e5 e6 e7) i5) ?_; rintro _ _ ⟨rfl, rfl⟩; refine TO.not Za ?_; refine Yc Zb ?_; refine Zc Za ?_; refine Zr (t := 166) (b' := false) rfl (Bool.eq_false_iff.2 f8) ?_; refine Zc Za ?_; refine Yq (xs := d9) d0 Zb Vt ?_; refine Zx Za Vn ?_; refine Zt Za Yr Ui rfl ?_; refine Zo Zm ?_; refine Yc Zb ?_; refine dN ?_; refine Zn (aT [172] rfl) ?_; rcases Zp H with ⟨f9, H⟩ | ⟨f9, H⟩
              · refine Yz rfl f9 ?_; refine sR Y1 rfl ?_; refine aN Za ?_; refine T.ret ?_; refine Zu ?_; obtain rfl := ret1 H; exact Zy Za (Res.tmp rfl) Zg ⟨rfl, rfl⟩
              · refine Yv rfl f9 ?_; refine T.skip ?_; exact Xg () H Kt Zg
          · refine Yv rfl f7 ?_; refine T.skip ?_; exact Xg () H Kt Zg
         · rintro f6 H; unfold Z0s at H; refine Zi ?_; obtain ⟨v0, m4, H⟩ := Zq H; refine rG Y2 rfl ?_; refine Zw Z64 Za (fun wc hwc => Z5r  wc (hG.mono hwc) m4) ?_; rintro _ _ ⟨rfl, rfl⟩; refine aN Za ?_; refine T.ret ?_; obtain rfl := ret1 H; exact Zy Za (Res.tmp rfl) Zg ⟨rfl, rfl⟩
end Go.Proofs.YtnppjbofdkokkaaDoor.Ax
namespace Go.Acq
open Go
def Ka (a : Arc) (v : Nat) : Nat := if a.fr = a.to then 0 else if a.fr = v ∨ a.to = v then 1 else 0
def Wi (al : List Arc) (v : Nat) : Nat → Nat
  | 0 => 0
  | k + 1 => Wi al v k + Ka (al.getD k default) v
def Yn (al : List Arc) : Nat → Nat
  | 0 => 0
  | v + 1 => Yn al v + Wi al v al.length
def Xb (a : Arc) (s : Bool) : Int := if s then a.to else a.fr
def Zd (al : List Arc) (i : Nat) (s : Bool) : Nat := Yn al (Xb (al.getD i default) s).toNat + Wi al (Xb (al.getD i default) s).toNat i
def Kp (n : Nat) (al : List Arc) : Prop := ∀ i, i < al.length → ∀ s, 0 ≤ Xb (al.getD i default) s ∧ Xb (al.getD i default) s < n
theorem Nf {α : Type} (xs : List α) (i j : Nat) (v d : α) : (xs.set i v).getD j d = if i = j ∧ i < xs.length then v else xs.getD j d := by
 rw [List.getD_eq_getElem?_getD, List.getD_eq_getElem?_getD, List.getElem?_set]
 split
 ·
  rename_i h; subst h
  split
  · rename_i h2; simp [h2]
  · rename_i h2; simp [h2]
 · rename_i h; simp [h]
theorem Gb {α : Type} {xs : List α} {i j : Nat} {v d : α} (h : i ≠ j) : (xs.set i v).getD j d = xs.getD j d := by
 rw [Nf, if_neg (fun e => h e.1)]
theorem Z59 {α : Type} {xs : List α} {i : Nat} {v d : α} (h : i < xs.length) : (xs.set i v).getD i d = v := by
 rw [Nf, if_pos ⟨rfl, h⟩]
theorem Z2w {α : Type} (n j : Nat) (v : α) : (List.replicate n v).getD j v = v := by
 rw [List.getD_eq_getElem?_getD, List.getElem?_replicate]; split <;> simp
theorem hit_le (a : Arc) (v : Nat) : Ka a v ≤ 1 := by unfold Ka; split; omega; split <;> omega
theorem cnt_mono {al : List Arc} {v i j : Nat} (h : i ≤ j) : Wi al v i ≤ Wi al v j := by
 induction h with
 | refl => exact Nat.le_refl _
 | step _ ih => exact Nat.le_trans ih (Nat.le_add_right _ _)
theorem Z50 {al : List Arc} {u v : Nat} (h : u ≤ v) : Yn al u ≤ Yn al v := by
 induction h with
 | refl => exact Nat.le_refl _
 | step _ ih => exact Nat.le_trans ih (Nat.le_add_right _ _)
theorem hit_vtx {a : Arc} {s : Bool} (h : a.fr ≠ a.to) (h0 : 0 ≤ Xb a s) : Ka a (Xb a s).toNat = 1 := by
 unfold Ka; rw [if_neg h, if_pos]
 cases s
 · left; simp only [Xb] at h0 ⊢; simp only [Bool.false_eq_true, if_false] at h0 ⊢; omega
 · right; simp only [Xb] at h0 ⊢; simp only [if_true] at h0 ⊢; omega
theorem Z0k {al : List Arc} {i j : Nat} {s : Bool} (hij : i < j) (h : (al.getD i default).fr ≠ (al.getD i default).to) (h0 : 0 ≤ Xb (al.getD i default) s) :
    Wi al (Xb (al.getD i default) s).toNat i < Wi al (Xb (al.getD i default) s).toNat j := by
  have h1 := cnt_mono (al := al) (v := (Xb (al.getD i default) s).toNat) (i := i + 1) (j := j) hij
  have h2 := hit_vtx h h0
  simp only [Wi] at h1
  omega
theorem pos_lt {al : List Arc} {n i : Nat} {s : Bool} (hi : i < al.length) (h : (al.getD i default).fr ≠ (al.getD i default).to) (he : Kp n al) : Zd al i s < Yn al n := by
 have h1 := Z0k (s := s) hi h (he i hi s).1
 have h2 := Z50 (al := al) (u := (Xb (al.getD i default) s).toNat + 1) (v := n) (by have := he i hi s; omega)
 simp only [Yn] at h2
 unfold Zd; omega
theorem Z3y {al : List Arc} {n i j : Nat} {s t : Bool} (he : Kp n al) (hi : i < al.length) (hj : j < al.length) (h : (al.getD i default).fr ≠ (al.getD i default).to) (g : (al.getD j default).fr ≠ (al.getD j default).to)
    (e : Zd al i s = Zd al j t) : i = j ∧ s = t := by
  have hi1 := Z0k (s := s) hi h (he i hi s).1
  have hj1 := Z0k (s := t) hj g (he j hj t).1
  have hv : (Xb (al.getD i default) s).toNat = (Xb (al.getD j default) t).toNat := by
    rcases Nat.lt_trichotomy (Xb (al.getD i default) s).toNat (Xb (al.getD j default) t).toNat with h1 | h1 | h1
    · have := Z50 (al := al) (u := (Xb (al.getD i default) s).toNat + 1) h1
      simp only [Yn] at this
      unfold Zd at e; omega
    · exact h1
    · have := Z50 (al := al) (u := (Xb (al.getD j default) t).toNat + 1) h1
      simp only [Yn] at this
      unfold Zd at e; omega
  have hij : i = j := by
    rcases Nat.lt_trichotomy i j with h1 | h1 | h1
    · have h2 := Z0k (s := s) h1 h (he i hi s).1
      unfold Zd at e; rw [hv] at e h2; omega
    · exact h1
    · have h2 := Z0k (s := t) h1 g (he j hj t).1
      unfold Zd at e; rw [hv] at e; omega
  refine ⟨hij, ?_⟩
  subst hij
  have h1 := (he i hi s).1
  have h2 := (he i hi t).1
  cases s <;> cases t <;> first | rfl | (simp only [Xb, Bool.false_eq_true, if_false, if_true] at hv h1 h2; omega)
theorem Z7x {al : List Arc} {v r : Nat} : ∀ {k : Nat}, r < Wi al v k → ∃ i, i < k ∧ Wi al v i = r ∧ Ka (al.getD i default) v = 1
 | 0, h => by simp [Wi] at h
 | k + 1, h => by
  by_cases h1 : r < Wi al v k
  · obtain ⟨i, h2, h3⟩ := Z7x h1; exact ⟨i, by omega, h3⟩
  ·
   have := hit_le (al.getD k default) v
   simp only [Wi] at h
   exact ⟨k, by omega, by omega, by omega⟩
theorem Z6y {al : List Arc} {p : Nat} : ∀ {n : Nat}, p < Yn al n → ∃ v, v < n ∧ Yn al v ≤ p ∧ p < Yn al (v + 1)
 | 0, h => by simp [Yn] at h
 | n + 1, h => by
  by_cases h1 : p < Yn al n
  · obtain ⟨v, h2, h3⟩ := Z6y h1; exact ⟨v, by omega, h3⟩
  · exact ⟨n, by omega, by omega, h⟩
theorem pos_surj {al : List Arc} {n p : Nat} (h : p < Yn al n) : ∃ i s, i < al.length ∧ (al.getD i default).fr ≠ (al.getD i default).to ∧ Zd al i s = p ∧ 0 ≤ Xb (al.getD i default) s ∧ Xb (al.getD i default) s < n ∧
    Yn al (Xb (al.getD i default) s).toNat ≤ p ∧ p < Yn al ((Xb (al.getD i default) s).toNat + 1) := by
  obtain ⟨v, hv, h1, h2⟩ := Z6y h
  simp only [Yn] at h2
  obtain ⟨i, hi, h3, h4⟩ := Z7x (al := al) (v := v) (r := p - Yn al v) (k := al.length) (by omega)
  unfold Ka at h4
  split at h4
  · omega
  · rename_i hne
    split at h4
    · rename_i ho
      rcases ho with ho | ho
      · refine ⟨i, false, hi, hne, ?_, ?_, ?_, ?_, ?_⟩ <;> simp only [Zd, Xb, Bool.false_eq_true, if_false, ho, Int.toNat_natCast, Yn] <;> omega
      · refine ⟨i, true, hi, hne, ?_, ?_, ?_, ?_, ?_⟩ <;> simp only [Zd, Xb, if_true, ho, Int.toNat_natCast, Yn] <;> omega
    · omega
def CsrAt (al : List Arc) (hs rs cs aa : List Int) (bs : List Bool) (k : Nat) : Prop :=
  ∀ i, i < k → (al.getD i default).fr ≠ (al.getD i default).to → ∀ s,
    hs.getD (Zd al i s) 0 = Xb (al.getD i default) (!s) ∧ rs.getD (Zd al i s) 0 = Zd al i (!s) ∧ cs.getD (Zd al i s) 0 = (if s then 0 else (al.getD i default).cap) ∧
    aa.getD (Zd al i s) 0 = i ∧ bs.getD (Zd al i s) false = s
structure CsrOK (al : List Arc) (n : Nat) (fs hs rs cs aa : List Int) (bs : List Bool) : Prop where
  lf : fs.length = n + 1
  lh : hs.length = Yn al n
  lr : rs.length = Yn al n
  lc : cs.length = Yn al n
  la : aa.length = Yn al n
  lb : bs.length = Yn al n
  hf : ∀ v, v ≤ n → fs.getD v 0 = Yn al v
  hat : CsrAt al hs rs cs aa bs al.length
theorem CsrAt.skip {al : List Arc} {hs rs cs aa : List Int} {bs : List Bool} {k : Nat} (h : CsrAt al hs rs cs aa bs k) (e : (al.getD k default).fr = (al.getD k default).to) : CsrAt al hs rs cs aa bs (k + 1) := by
 intro i hi hne s
 rcases Nat.lt_succ_iff_lt_or_eq.1 hi with h1 | h1
 · exact h i h1 hne s
 · subst h1; exact absurd e hne
theorem Gt {α : Type} {xs : List α} {p q j : Nat} {u v d : α} (hp : p < xs.length) (hq : q < xs.length) (hpq : p ≠ q) :
    ((xs.set p u).set q v).getD j d = if j = p then u else if j = q then v else xs.getD j d := by
  rw [Nf, Nf]
  by_cases h1 : j = p
  · subst h1; rw [if_pos rfl, if_neg (fun e => hpq e.1.symm), if_pos ⟨rfl, hp⟩]
  · rw [if_neg h1]
    by_cases h2 : j = q
    · subst h2; rw [if_pos rfl, if_pos ⟨rfl, by simpa using hq⟩]
    · rw [if_neg h2, if_neg (fun e => h2 e.1.symm), if_neg (fun e => h1 e.1.symm)]
theorem CsrAt.put {al : List Arc} {n : Nat} {hs rs cs aa : List Int} {bs : List Bool} {k : Nat} (h : CsrAt al hs rs cs aa bs k) (he : Kp n al) (hk : k < al.length) (hne : (al.getD k default).fr ≠ (al.getD k default).to)
    (lh : hs.length = Yn al n) (lr : rs.length = Yn al n) (lc : cs.length = Yn al n) (la : aa.length = Yn al n) (lb : bs.length = Yn al n) :
    CsrAt al ((hs.set (Zd al k false) (al.getD k default).to).set (Zd al k true) (al.getD k default).fr) ((rs.set (Zd al k false) (Zd al k true)).set (Zd al k true) (Zd al k false))
      ((cs.set (Zd al k false) (al.getD k default).cap).set (Zd al k true) 0) ((aa.set (Zd al k false) k).set (Zd al k true) k) ((bs.set (Zd al k false) false).set (Zd al k true) true) (k + 1) := by
  have hp : Zd al k false < Yn al n := pos_lt hk hne he
  have hq : Zd al k true < Yn al n := pos_lt hk hne he
  have hpq : Zd al k false ≠ Zd al k true := fun e => by have := (Z3y he hk hk hne hne e).2; cases this
  intro i hi hni s
  have hil : i < al.length := by omega
  rw [Gt (by omega) (by omega) hpq, Gt (by omega) (by omega) hpq, Gt (by omega) (by omega) hpq, Gt (by omega) (by omega) hpq, Gt (by omega) (by omega) hpq]
  by_cases hik : i = k
  · subst hik
    cases s
    · simp [Xb]
    · simp [Xb, hpq.symm]
  · have h1 : Zd al i s ≠ Zd al k false := fun e => hik (Z3y he hil hk hni hne e).1
    have h2 : Zd al i s ≠ Zd al k true := fun e => hik (Z3y he hil hk hni hne e).1
    simp only [if_neg h1, if_neg h2]
    exact h i (by omega) hni s
def Counted (al : List Arc) (m k : Nat) (fs : List Int) : Prop := fs.length = m + 1 ∧ fs.getD 0 0 = 0 ∧ ∀ v : Int, 0 ≤ v → v < m → fs.getD (v + 1).toNat 0 = Wi al v.toNat k
def Summed (al : List Arc) (m k : Nat) (fs : List Int) : Prop := fs.length = m + 1 ∧ (∀ u, u ≤ k → fs.getD u 0 = Yn al u) ∧ ∀ u, k ≤ u → u < m → fs.getD (u + 1) 0 = Wi al u al.length
theorem Counted.start (al : List Arc) (m : Nat) {p : Nat} (h : p = m + 1) : Counted al m 0 (List.replicate p 0) :=
 ⟨by simp [h], Z2w _ _ _, fun v _ _ => by rw [Z2w]; rfl⟩
theorem Counted.skip {al : List Arc} {m k : Nat} {fs : List Int} (h : Counted al m k fs) (e : (al.getD k default).fr = (al.getD k default).to) : Counted al m (k + 1) fs :=
 ⟨h.1, h.2.1, fun v h0 h1 => by rw [h.2.2 v h0 h1]; simp only [Wi, Ka, if_pos e, Nat.add_zero]⟩
theorem Counted.put {al : List Arc} {m k : Nat} {fs : List Int} (h : Counted al m k fs) (he : Kp m al) (hk : k < al.length) (hne : (al.getD k default).fr ≠ (al.getD k default).to) :
    Counted al m (k + 1) ((fs.set ((al.getD k default).fr + 1).toNat (fs.getD ((al.getD k default).fr + 1).toNat 0 + 1)).set ((al.getD k default).to + 1).toNat
      ((fs.set ((al.getD k default).fr + 1).toNat (fs.getD ((al.getD k default).fr + 1).toNat 0 + 1)).getD ((al.getD k default).to + 1).toNat 0 + 1)) := by
  have e0 := he k hk false
  have e1 := he k hk true
  simp only [Xb, Bool.false_eq_true, if_false, if_true] at e0 e1
  obtain ⟨hl, hz, hv⟩ := h
  refine ⟨by simpa using hl, ?_, ?_⟩
  · rw [Gb (by omega), Gb (by omega)]; exact hz
  · intro v h0 h1
    have hvv := hv v h0 h1
    rw [Gb (i := ((al.getD k default).fr + 1).toNat) (j := ((al.getD k default).to + 1).toNat) (by omega), Gt (by omega) (by omega) (by omega)]
    simp only [Wi, Ka, if_neg hne]
    by_cases a1 : v = (al.getD k default).fr
    · rw [if_pos (by omega), if_pos (by omega), ← a1, hvv]; omega
    · rw [if_neg (by omega)]
      by_cases a2 : v = (al.getD k default).to
      · rw [if_pos (by omega), if_pos (by omega), ← a2, hvv]; omega
      · rw [if_neg (by omega), if_neg (by omega), hvv]; omega
theorem Summed.put {al : List Arc} {m k : Nat} {fs : List Int} (h : Summed al m k fs) (hk : k < m) {i : Nat} (hi : i = k + 1) : Summed al m (k + 1) (fs.set i (fs.getD i 0 + fs.getD k 0)) := by
 subst hi
 obtain ⟨hl, h1, h2⟩ := h
 refine ⟨by simpa using hl, fun u hu => ?_, fun u h3 h4 => ?_⟩
 ·
  by_cases e : u = k + 1
  · subst e; rw [Z59 (by omega), h1 k (Nat.le_refl _), h2 k (Nat.le_refl _) hk]; simp [Yn]; omega
  · rw [Gb (by omega)]; exact h1 u (by omega)
 · rw [Gb (by omega)]; exact h2 u (by omega) h4
theorem Uk {N S T : Int} {al : List Arc} (h : Vo N S T al = 0) : (2 ≤ N ∧ N ≤ 4096) ∧ (al.length : Int) ≤ 16384 ∧ (Vb N S = true ∧ Vb N T = true ∧ S ≠ T) ∧ al.all (Uc N) = true ∧ al.all Kx = true ∧ (Va 4611686018427387904 al).isSome = true := by
 unfold Vo at h
 split at h
 · omega
 ·
  rename_i h1
  split at h
  · omega
  ·
   rename_i h2
   split at h
   · omega
   ·
    rename_i h3
    split at h
    · omega
    ·
     rename_i h4
     split at h
     · omega
     ·
      rename_i h5
      split at h
      · omega
      ·
       rename_i h6
       refine ⟨Classical.not_not.1 h1, Classical.not_not.1 h2, Classical.not_not.1 h3, by simpa using h4, by simpa using h5, ?_⟩
       cases e : Va 4611686018427387904 al <;> simp_all
theorem Z4i {m : Nat} {al : List Arc} (h : al.all (Uc (m : Int)) = true) : Kp m al := by
 intro i hi s
 have h1 := List.all_eq_true.1 h _ (Kv hi default)
 simp only [Uc, Vb, Bool.and_eq_true, decide_eq_true_eq] at h1
 cases s
 · simp only [Xb, Bool.false_eq_true, if_false]; exact h1.1
 · simp only [Xb, if_true]; exact h1.2
def MakeAt (al : List Arc) (m k : Nat) (nx hs rs cs aa : List Int) (bs : List Bool) : Prop :=
  (nx.length = m + 1 ∧ hs.length = Yn al m ∧ rs.length = Yn al m ∧ cs.length = Yn al m ∧ aa.length = Yn al m ∧ bs.length = Yn al m) ∧
  CsrAt al hs rs cs aa bs k ∧ ∀ v : Int, 0 ≤ v → v < m → nx.getD v.toNat 0 = Yn al v.toNat + Wi al v.toNat k
theorem MakeAt.start {al : List Arc} {m : Nat} {fs : List Int} (hl : fs.length = m + 1) (hf : ∀ u, u ≤ m → fs.getD u 0 = Yn al u) :
    MakeAt al m 0 fs (List.replicate (Yn al m) 0) (List.replicate (Yn al m) 0) (List.replicate (Yn al m) 0) (List.replicate (Yn al m) 0) (List.replicate (Yn al m) false) := by
  refine ⟨⟨hl, by simp, by simp, by simp, by simp, by simp⟩, fun i hi => by omega, fun v h0 h1 => ?_⟩
  rw [hf _ (by omega)]; simp [Wi]
theorem MakeAt.skip {al : List Arc} {m k : Nat} {nx hs rs cs aa : List Int} {bs : List Bool} (h : MakeAt al m k nx hs rs cs aa bs) (e : (al.getD k default).fr = (al.getD k default).to) : MakeAt al m (k + 1) nx hs rs cs aa bs :=
 ⟨h.1, h.2.1.skip e, fun v h0 h1 => by rw [h.2.2 v h0 h1]; simp only [Wi, Ka, if_pos e, Nat.add_zero]⟩
theorem MakeAt.at {al : List Arc} {m k : Nat} {nx hs rs cs aa : List Int} {bs : List Bool} (h : MakeAt al m k nx hs rs cs aa bs) (he : Kp m al) (hk : k < al.length) (s : Bool) : nx.getD (Xb (al.getD k default) s).toNat 0 = (Zd al k s : Nat) := by
 rw [h.2.2 _ (he k hk s).1 (he k hk s).2]; simp only [Zd]; omega
theorem MakeAt.put {al : List Arc} {m k : Nat} {nx hs rs cs aa : List Int} {bs : List Bool} (h : MakeAt al m k nx hs rs cs aa bs) (he : Kp m al) (hk : k < al.length) (hne : (al.getD k default).fr ≠ (al.getD k default).to) :
    MakeAt al m (k + 1) ((nx.set (al.getD k default).fr.toNat ((Zd al k false : Nat) + 1)).set (al.getD k default).to.toNat ((Zd al k true : Nat) + 1))
      ((hs.set (Zd al k false) (al.getD k default).to).set (Zd al k true) (al.getD k default).fr) ((rs.set (Zd al k false) (Zd al k true)).set (Zd al k true) (Zd al k false))
      ((cs.set (Zd al k false) (al.getD k default).cap).set (Zd al k true) 0) ((aa.set (Zd al k false) k).set (Zd al k true) k) ((bs.set (Zd al k false) false).set (Zd al k true) true) := by
  have g0 := h.at he hk false
  have g1 := h.at he hk true
  obtain ⟨⟨l0, l1, l2, l3, l4, l5⟩, hA, hv⟩ := h
  have e0 := he k hk false
  have e1 := he k hk true
  simp only [Xb, Bool.false_eq_true, if_false, if_true] at e0 e1 g0 g1
  refine ⟨⟨by simpa using l0, by simpa using l1, by simpa using l2, by simpa using l3, by simpa using l4, by simpa using l5⟩, hA.put he hk hne l1 l2 l3 l4 l5, fun v h0 h1 => ?_⟩
  have hvv := hv v h0 h1
  rw [Gt (by omega) (by omega) (by omega)]
  simp only [Wi, Ka, if_neg hne]
  by_cases a1 : v = (al.getD k default).fr
  · rw [if_pos (by omega), if_pos (by omega), ← g0, ← a1, hvv]; omega
  · rw [if_neg (by omega)]
    by_cases a2 : v = (al.getD k default).to
    · rw [if_pos (by omega), if_pos (by omega), ← g1, ← a2, hvv]; omega
    · rw [if_neg (by omega), if_neg (by omega), hvv]; omega
theorem MakeAt.done {al : List Arc} {m : Nat} {fs nx hs rs cs aa : List Int} {bs : List Bool} (h : MakeAt al m al.length nx hs rs cs aa bs) (hl : fs.length = m + 1) (hf : ∀ u, u ≤ m → fs.getD u 0 = Yn al u) : CsrOK al m fs hs rs cs aa bs :=
 ⟨hl, h.1.2.1, h.1.2.2.1, h.1.2.2.2.1, h.1.2.2.2.2.1, h.1.2.2.2.2.2, hf, h.2.1⟩
end Go.Acq
namespace Go.Acq
open Go
theorem next_ne {S m : Int} (h0 : 0 ≤ S) (h1 : S < m) (h2 : 2 ≤ m) : 0 ≤ (S + 1).tmod m ∧ (S + 1).tmod m < m ∧ (S + 1).tmod m ≠ S := by
 rw [Int.tmod_eq_emod_of_nonneg (by omega)]
 refine ⟨Int.emod_nonneg _ (by omega), Int.emod_lt_of_pos _ (by omega), ?_⟩
 by_cases h : S + 1 < m
 · rw [Int.emod_eq_of_lt (by omega) h]; omega
 · rw [show S + 1 = m by omega, Int.emod_self]; omega
theorem Z8c {x n : Int} (h : 0 ≤ x) (hn : 0 < n) : 0 ≤ x.tmod n ∧ x.tmod n < n := by
 rw [Int.tmod_eq_emod_of_nonneg h]
 exact ⟨Int.emod_nonneg _ (by omega), Int.emod_lt_of_pos _ hn⟩
def SomeAt (m : Nat) (ol : List Arc) : Prop := ∀ a, a ∈ ol → Uc m a = true ∧ 0 ≤ a.cap ∧ a.cap < 1125899906842624
theorem SomeAt.put {m : Nat} {ol : List Arc} {a : Arc} (h : SomeAt m ol) (h1 : 0 ≤ a.fr ∧ a.fr < m) (h2 : 0 ≤ a.to ∧ a.to < m) (h3 : 0 ≤ a.cap ∧ a.cap < 1125899906842624) : SomeAt m (ol ++ [a]) := by
 intro b hb
 rcases List.mem_append.1 hb with hb | hb
 · exact h b hb
 ·
  simp only [List.mem_singleton] at hb
  subst hb
  exact ⟨by simp [Uc, Vb, h1, h2], h3⟩
theorem Zc5 {m : Nat} {ol : List Arc} {left : Int} (h : SomeAt m ol) (hl : (ol.length : Int) * 1125899906842624 ≤ left) : (Va left ol).isSome = true := by
 induction ol generalizing left with
 | nil => simp [Va]
 | cons a ol ih =>
  have ha := (h a (.head _)).2
  simp only [List.length_cons] at hl
  have h2 : (0 : Int) ≤ (ol.length : Int) * 1125899906842624 := by omega
  simp only [Va]
  rw [if_neg (by omega)]
  exact ih (fun b hb => h b (.tail _ hb)) (by omega)
theorem Za4 {m : Nat} {S T : Int} {ol : List Arc} (hm : 2 ≤ m) (hm2 : m ≤ 4096) (hS : 0 ≤ S ∧ S < m) (hT : 0 ≤ T ∧ T < m) (hST : T ≠ S) (h : SomeAt m ol) (hl : ol.length ≤ 4096) : Vo m S T ol = 0 := by
 have h1 : ol.all (Uc m) = true := List.all_eq_true.2 fun a ha => (h a ha).1
 have h2 : ol.all Kx = true := List.all_eq_true.2 fun a ha => by simp [Kx, (h a ha).2.1]
 have h3 : (Va 4611686018427387904 ol).isSome = true := Zc5 h (by omega)
 unfold Vo
 rw [if_neg (by omega), if_neg (by omega), if_neg (by simp [Vb, hS, hT, Ne.symm hST]), if_neg (by simp [h1]), if_neg (by simp [h2]), if_neg (by
  cases e : Va 4611686018427387904 ol with
  | none => rw [e] at h3; cases h3
  | some x => simp)]
def WithinAt (al : List Arc) (n k : Nat) (fl : List Int) : Prop := fl.length = n ∧
  (∀ i, i < k → 0 ≤ fl.getD i 0 ∧ fl.getD i 0 ≤ (al.getD i default).cap ∧ ((al.getD i default).fr = (al.getD i default).to → fl.getD i 0 = 0)) ∧ ∀ i, k ≤ i → fl.getD i 0 = 0
theorem Zch (al : List Arc) (n : Nat) : WithinAt al n 0 (List.replicate n 0) := ⟨by simp, fun i h => by omega, fun i _ => Z2w _ _ _⟩
theorem WithinAt.skip {al : List Arc} {n k : Nat} {fl : List Int} (h : WithinAt al n k fl) (hc : 0 ≤ (al.getD k default).cap) : WithinAt al n (k + 1) fl := by
 refine ⟨h.1, fun i hi => ?_, fun i hi => h.2.2 i (by omega)⟩
 rcases Nat.lt_succ_iff_lt_or_eq.1 hi with h1 | h1
 · exact h.2.1 i h1
 · subst h1; have := h.2.2 i (Nat.le_refl _); rw [this]; exact ⟨Int.le_refl _, hc, fun _ => rfl⟩
theorem WithinAt.put {al : List Arc} {n k : Nat} {fl : List Int} {v : Int} (h : WithinAt al n k fl) (hk : k < n) (h0 : 0 ≤ v) (h1 : v ≤ (al.getD k default).cap) (hne : (al.getD k default).fr ≠ (al.getD k default).to) : WithinAt al n (k + 1) (fl.set k v) := by
 refine ⟨by simpa using h.1, fun i hi => ?_, fun i hi => by rw [Gb (by omega)]; exact h.2.2 i (by omega)⟩
 by_cases e : i = k
 · subst e; rw [Z59 (by rw [h.1]; exact hk)]; exact ⟨h0, h1, fun e => absurd e hne⟩
 · rw [Gb (by omega)]; exact h.2.1 i (by omega)
def resOK (aa cs : List Int) (bs : List Bool) (fl : List Int) (j : Nat) : Prop := aa.getD j 0 < fl.length ∧ (bs.getD j false = true ∨ (0 ≤ fl.getD (aa.getD j 0).toNat 0 ∧ fl.getD (aa.getD j 0).toNat 0 ≤ cs.getD j 0))
def resV (aa cs : List Int) (bs : List Bool) (fl : List Int) (j : Nat) : Int := if bs.getD j false = true then fl.getD (aa.getD j 0).toNat 0 else cs.getD j 0 - fl.getD (aa.getD j 0).toNat 0
def ResAt (aa cs : List Int) (bs : List Bool) (fl : List Int) (L k : Nat) (rl : List Int) : Prop := rl.length = L ∧ ∀ j, j < k → resOK aa cs bs fl j ∧ rl.getD j 0 = resV aa cs bs fl j
theorem ResAt.put {aa cs : List Int} {bs : List Bool} {fl : List Int} {L k : Nat} {rl : List Int} {v : Int} (h : ResAt aa cs bs fl L k rl) (hk : k < L) (h1 : resOK aa cs bs fl k) (h2 : v = resV aa cs bs fl k) : ResAt aa cs bs fl L (k + 1) (rl.set k v) := by
 refine ⟨by simpa using h.1, fun j hj => ?_⟩
 by_cases e : j = k
 · subst e; rw [Z59 (by rw [h.1]; exact hk)]; exact ⟨h1, h2⟩
 · rw [Gb (by omega)]; exact h.2 j (by omega)
end Go.Acq
namespace Go.Acq
open Go
def turn (a : Arc) : Arc := ⟨a.to, a.fr, a.cap⟩
theorem Zc0 (al : List Arc) (i : Nat) : (al.map turn).getD i default = turn (al.getD i default) := by
 rw [List.getD_eq_getElem?_getD, List.getD_eq_getElem?_getD, List.getElem?_map]
 cases al[i]? <;> rfl
theorem SomeAt.turn {m : Nat} {ol : List Arc} (h : SomeAt m ol) : SomeAt m (ol.map turn) := by
 intro a ha
 obtain ⟨b, hb, rfl⟩ := List.mem_map.1 ha
 obtain ⟨h1, h2⟩ := h b hb
 simp only [Uc, Bool.and_eq_true] at h1
 exact ⟨by simp only [Uc, Acq.turn, Bool.and_eq_true]; exact ⟨h1.2, h1.1⟩, h2⟩
theorem WithinAt.turn {al : List Arc} {n k : Nat} {fl : List Int} (h : WithinAt al n k fl) : WithinAt (al.map turn) n k fl :=
 ⟨h.1, fun i hi => by rw [Zc0]; exact ⟨(h.2.1 i hi).1, (h.2.1 i hi).2.1, fun e => (h.2.1 i hi).2.2 e.symm⟩, h.2.2⟩
theorem CsrOK.place {al : List Arc} {m : Nat} {fs hs rs cs aa : List Int} {bs : List Bool} (h : CsrOK al m fs hs rs cs aa bs) {j : Nat} (hj : j < Yn al m) :
    ∃ i s, i < al.length ∧ (al.getD i default).fr ≠ (al.getD i default).to ∧ Zd al i s = j ∧ hs.getD j 0 = Xb (al.getD i default) (!s) ∧ rs.getD j 0 = Zd al i (!s) ∧ cs.getD j 0 = (if s then 0 else (al.getD i default).cap) ∧ aa.getD j 0 = i ∧ bs.getD j false = s := by
  obtain ⟨i, s, hi, hne, hp, _⟩ := pos_surj hj
  have := h.hat i hi hne s
  rw [hp] at this
  exact ⟨i, s, hi, hne, hp, this⟩
end Go.Acq
namespace Go.Acq
open Go
theorem Gj {α : Type} {m : Option α} {v : α} (h : Ok m (fun a => a = v)) : m = some v := by obtain ⟨a, h1, h2⟩ := h; rw [h1, h2]
theorem Wn {α : Type} {m : Option α} {v : α} {Q : α → Prop} (h : m = some v) (q : Q v) : Ok m Q := ⟨v, h, q⟩
abbrev lenok (n : Nat) : Prop := n ≤ 9223372036854775807
theorem Rs {x n : Int} (h1 : n ≤ 4611686018427387904) : Kw x n = some (Kd x n) := by
 unfold Kw Kd
 by_cases h : n < 1
 · rw [if_pos h, if_pos h]
 ·
  have a1 := Int.tmod_lt_of_pos x (show 0 < n by omega)
  have a2 := Z5w x (show 0 < n by omega)
  rw [if_neg h, if_neg h, Xe (by omega), Xe (by constructor <;> omega), Xe (by omega)]
theorem Z88 {a b : List Int} (h : lenok a.length) : Gh a b = some (decide (a = b)) := by
 refine Gj ?_
 unfold Gh
 refine Ok.ite.2 ⟨fun hl => Ok.some.2 (decide_eq_false ?_).symm, fun hl => ?_⟩
 · rintro rfl; exact hl rfl
 ·
  refine Ok.bind.2 (Nd (fun x => 0 ≤ x ∧ x ≤ a.length ∧ ∀ i, i < x.toNat → a.getD i 0 = b.getD i 0) (fun x => (a.length - x).toNat) ⟨by omega, by omega, fun i hi => by omega⟩ (by unfold Yy; omega) ?_)
  rintro x ⟨h0, h1, h2⟩
  unfold Z0p
  refine Ok.ite.2 ⟨fun hx => ?_, fun hx => ?_⟩
  ·
   refine Ok.gd.2 ⟨(by omega), Ok.gd.2 ⟨(by omega), Ok.ite.2 ⟨fun hne => ?_, fun hne => ?_⟩⟩⟩
   ·
    refine Ok.some.2 (Ok.some.2 (decide_eq_false ?_).symm)
    rintro rfl; exact hne rfl
   ·
    refine Ok.gd.2 ⟨(by omega), Ok.some.2 ⟨⟨by omega, by omega, fun i hi => ?_⟩, by omega⟩⟩
    rcases Nat.lt_or_ge i x.toNat with h3 | h3
    · exact h2 i h3
    · rw [show i = x.toNat by omega]; exact Classical.not_not.1 hne
  ·
   refine Ok.some.2 (Ok.some.2 (decide_eq_true ?_).symm)
   exact Z68 0 (by omega) (fun i hi => h2 i (by omega))
theorem Z1x (n : Net) (v : Int) : Gc n v = some (Vb n.N v) := by
 unfold Gc Vb
 by_cases h : 0 ≤ v <;> simp [h]
theorem s_rules4 (n : Net) (a : Arc) : Z0w n a = some (Uc n.N a) := by
 unfold Z0w Uc
 rw [Z1x, Z1x]
 simp only [Option.bind_some]
 cases Vb n.N a.fr <;> simp
theorem s_of4 (n : Net) (h : lenok n.Arcs.length) : Rg n = some (n.Arcs.all (Uc n.N)) := by
 refine Gj ?_
 unfold Rg Z28 Z1w
 refine Ok.bind.2 (Ok.bind.2 (Ok.bind.2 (Nd (fun x => 0 ≤ x ∧ x ≤ n.Arcs.length ∧ ∀ i, i < x.toNat → Uc n.N (n.Arcs.getD i default) = true) (fun x => (n.Arcs.length - x).toNat) ⟨by omega, by omega, fun i hi => by omega⟩ (by unfold Yy; omega) ?_)))
 rintro x ⟨h0, h1, h2⟩
 unfold Rt Z1u
 refine Ok.ite.2 ⟨fun hx => ?_, fun hx => ?_⟩
 ·
  refine Ok.gd.2 ⟨(by omega), Ok.bind.2 (Ok.bind.2 (Wn (s_rules4 _ _) (Ok.some.2 (Ok.ite.2 ⟨fun hb => ?_, fun hb => ?_⟩))))⟩
  ·
   refine Ok.some.2 (Ok.some.2 (Ok.some.2 (Ok.some.2 ?_)))
   simp only [h0, decide_true, Bool.not_true]
   refine Eq.symm (Bool.eq_false_iff.2 fun hall => ?_)
   have := List.all_eq_true.1 hall _ (Kv (show x.toNat < n.Arcs.length by omega) default)
   rw [this] at hb; cases hb
  ·
   refine Ok.gd.2 ⟨(by omega), Ok.some.2 ⟨⟨by omega, by omega, fun i hi => ?_⟩, by omega⟩⟩
   rcases Nat.lt_or_ge i x.toNat with h3 | h3
   · exact h2 i h3
   · rw [show i = x.toNat by omega]; simpa using hb
 ·
  refine Ok.some.2 (Ok.some.2 (Ok.some.2 (Ok.some.2 ?_)))
  refine Eq.symm (List.all_eq_true.2 fun a ha => ?_)
  obtain ⟨i, hi, rfl⟩ := List.getElem_of_mem ha
  have := h2 i (by omega)
  rwa [List.getD_eq_getElem?_getD, List.getElem?_eq_getElem hi] at this
theorem s_of5 (n : Net) (h : lenok n.Arcs.length) : Z0h n = some (n.Arcs.all Kx) := by
 refine Gj ?_
 unfold Z0h Z2m Z2g
 refine Ok.bind.2 (Ok.bind.2 (Ok.bind.2 (Nd (fun x => 0 ≤ x ∧ x ≤ n.Arcs.length ∧ ∀ i, i < x.toNat → Kx (n.Arcs.getD i default) = true) (fun x => (n.Arcs.length - x).toNat) ⟨by omega, by omega, fun i hi => by omega⟩ (by unfold Yy; omega) ?_)))
 rintro x ⟨h0, h1, h2⟩
 unfold Z0d Z38 Z1y
 refine Ok.ite.2 ⟨fun hx => ?_, fun hx => ?_⟩
 ·
  refine Ok.gd.2 ⟨(by omega), Ok.bind.2 (Ok.bind.2 (Ok.some.2 (Ok.some.2 (Ok.ite.2 ⟨fun hb => ?_, fun hb => ?_⟩))))⟩
  ·
   refine Ok.some.2 (Ok.some.2 (Ok.some.2 (Ok.some.2 ?_)))
   simp only [h0, decide_true, Bool.not_true]
   refine Eq.symm (Bool.eq_false_iff.2 fun hall => ?_)
   have := List.all_eq_true.1 hall _ (Kv (show x.toNat < n.Arcs.length by omega) default)
   simp only [Kx] at this
   rw [this] at hb; cases hb
  ·
   refine Ok.gd.2 ⟨(by omega), Ok.some.2 ⟨⟨by omega, by omega, fun i hi => ?_⟩, by omega⟩⟩
   rcases Nat.lt_or_ge i x.toNat with h3 | h3
   · exact h2 i h3
   · rw [show i = x.toNat by omega]; simpa [Kx] using hb
 ·
  refine Ok.some.2 (Ok.some.2 (Ok.some.2 (Ok.some.2 ?_)))
  refine Eq.symm (List.all_eq_true.2 fun a ha => ?_)
  obtain ⟨i, hi, rfl⟩ := List.getElem_of_mem ha
  have := h2 i (by omega)
  rwa [List.getD_eq_getElem?_getD, List.getElem?_eq_getElem hi] at this
theorem s_Sum (n : Net) (h : lenok n.Arcs.length) : Z0r n = some (match Va 4611686018427387904 n.Arcs with | some l => (4611686018427387904 - l, true) | none => (0, false)) := by
 refine Gj ?_
 unfold Z0r
 refine Ok.bind.2 (Nd (fun s => 0 ≤ s.2 ∧ s.2 ≤ n.Arcs.length ∧ 0 ≤ s.1 ∧ s.1 ≤ 4611686018427387904 ∧ Va 4611686018427387904 n.Arcs = Va s.1 (n.Arcs.drop s.2.toNat)) (fun s => (n.Arcs.length - s.2).toNat) ⟨by simp, by simp, by simp, by simp, by simp⟩ (by unfold Yy; simp; omega) ?_)
 rintro ⟨left, x⟩ ⟨h0, h1, h2, h3, h4⟩
 simp only at h0 h1 h2 h3 h4 ⊢
 unfold Ru Rw
 refine Ok.ite.2 ⟨fun hx => ?_, fun hx => ?_⟩
 ·
  rw [Z6r (by omega)] at h4
  refine Ok.gd.2 ⟨(by omega), Ok.ite.2 ⟨fun hb => ?_, fun hb => ?_⟩⟩
  ·
   rw [if_pos rfl]
   refine Ok.some.2 (Ok.some.2 ?_)
   rw [h4, if_pos (.inl hb)]
  ·
   by_cases hc : left < (n.Arcs.getD x.toNat default).cap
   ·
    rw [if_pos (decide_eq_true hc)]
    refine Ok.some.2 (Ok.some.2 ?_)
    rw [h4, if_pos (.inr hc)]
   ·
    rw [if_neg (by simpa using hc)]
    refine Ok.gd.2 ⟨(by omega), Ok.gd.2 ⟨(by omega), Ok.some.2 ⟨⟨by simp only; omega, by simp only; omega, by simp only; omega, by simp only; omega, ?_⟩, by simp only; omega⟩⟩⟩
    rw [h4, if_neg (by omega)]
    simp only
    rw [show (x + 1).toNat = x.toNat + 1 by omega]
 ·
  unfold Z2b
  refine Ok.some.2 (Ok.gd.2 ⟨(by omega), Ok.some.2 ?_⟩)
  rw [h4, List.drop_eq_nil_of_le (by omega)]
  rfl
theorem Z0y (n : Net) (h : lenok n.Arcs.length) : Ji n = some (Vo n.N n.S n.T n.Arcs) := by
 unfold Ji Z2y Z1b Z25 Z1r Z2r Z1g Z1a Z2j
 rw [Z1x, Z1x, s_of4 n h, s_of5 n h, s_Sum n h]
 unfold Vo
 simp only [Option.bind_some]
 by_cases h1 : 2 ≤ n.N ∧ n.N ≤ 4096
 ·
  rw [if_pos h1.1, if_neg (not_not_intro h1)]
  simp only [Option.bind_some, decide_eq_true h1.2, Bool.not_true, Bool.false_eq_true, if_false]
  by_cases h2 : (n.Arcs.length : Int) ≤ 16384
  ·
   rw [if_neg (by simp [h2]), if_neg (not_not_intro h2)]
   by_cases h3 : Vb n.N n.S = true ∧ Vb n.N n.T = true ∧ n.S ≠ n.T
   ·
    rw [if_pos h3.1, if_pos h3.2.1, if_neg (not_not_intro h3)]
    simp only [Option.bind_some, decide_eq_true h3.2.2, Bool.not_true, Bool.false_eq_true, if_false]
    cases h4 : n.Arcs.all (Uc n.N)
    · simp
    ·
     cases h5 : n.Arcs.all Kx
     · simp
     · cases h6 : Va 4611686018427387904 n.Arcs <;> simp
   ·
    rw [if_pos h3]
    by_cases a1 : Vb n.N n.S = true
    ·
     by_cases a2 : Vb n.N n.T = true
     ·
      have a3 : ¬ n.S ≠ n.T := fun e => h3 ⟨a1, a2, e⟩
      simp [a1, a2, a3]
     · simp [a1, a2]
    · simp [a1]
  · rw [if_pos (by simp [h2]), if_pos h2]
 ·
  rw [if_pos h1]
  by_cases a1 : 2 ≤ n.N
  ·
   have a2 : ¬ n.N ≤ 4096 := fun e => h1 ⟨a1, e⟩
   simp [a1, a2]
  · simp [a1]
end Go.Acq
namespace Go.Acq
open Go
structure NetIn (n : Net) : Prop where
  nN : i64ok n.N
  nS : i64ok n.S
  nT : i64ok n.T
  arcs : ∀ a, a ∈ n.Arcs → i64ok a.fr ∧ i64ok a.to ∧ i64ok a.cap
  len : n.Arcs.length ≤ 9223372036854775807
structure RowIn (l : List Int) : Prop where
  row : ∀ x, x ∈ l → i64ok x
  len : l.length ≤ 9223372036854775807
structure Made (n : Net) (v a : Int) : Prop where
  check : Vo n.N n.S n.T n.Arcs = 0
  rows : SomeAt n.N.toNat n.Arcs
  verts : n.N ≤ v
  arcs : (n.Arcs.length : Int) ≤ a
  ends : 2 ≤ n.N ∧ 0 ≤ n.S ∧ n.S < n.N ∧ 0 ≤ n.T ∧ n.T < n.N ∧ n.S ≠ n.T
theorem Made.nat {n : Net} {v a : Int} (h : Made n v a) : ∃ m : Nat, n.N = m ∧ SomeAt m n.Arcs := ⟨n.N.toNat, by have := h.ends.1; omega, h.rows⟩
theorem Zb2 {n : Net} {m : Nat} (h : SomeAt m n.Arcs) : ∀ i, i < n.Arcs.length → 0 ≤ (n.Arcs.getD i default).cap ∧ (n.Arcs.getD i default).cap < 1125899906842624 := fun _ hi => (h _ (Kv hi default)).2
theorem s_Some {n : Net} {v a : Int} (h : NetIn n) (hv0 : 2 ≤ v) (hv1 : v ≤ 4096) (ha0 : 0 ≤ a) (ha1 : a ≤ 4096) : Ok (Z06 n v a) (fun r => Made r v a) := by
 have hN := Ro (x := n.N) (n := v - 1) (by omega)
 unfold Z06
 refine Ok.gd.2 ⟨(by omega), Ok.bind.2 (Wn (Rs (by omega)) (Ok.gd.2 ⟨(by omega), ?_⟩))⟩
 obtain ⟨m, hm⟩ : ∃ m : Nat, 2 + Kd n.N (v - 1) = m := ⟨(2 + Kd n.N (v - 1)).toNat, by omega⟩
 rw [hm]
 have hS := Ro (x := n.S) (n := (m : Int)) (by omega)
 have hT := Ro (x := n.T) (n := (m : Int)) (by omega)
 refine Ok.bind.2 (Wn (Rs (by omega)) (Ok.bind.2 (Wn (Rs (by omega)) ?_)))
 have key : ∀ t : Int, 0 ≤ t → t < m → t ≠ Kd n.S m → Ok (Ln n a (Kd n.N (v - 1)) (Kd n.S m) t) (fun r => Made r v a) := by
  intro t t0 t1 t2
  unfold Ln
  refine Ok.gd.2 ⟨(by omega), Ok.bind.2 ?_⟩
  obtain ⟨q, hq⟩ : ∃ q : Nat, min (n.Arcs.length : Int) a = q := ⟨(min (n.Arcs.length : Int) a).toNat, by omega⟩
  obtain ⟨al, hal⟩ : ∃ l, l = n.Arcs.take (q : Int).toNat := ⟨_, rfl⟩
  have hlen : al.length = q := by rw [hal, List.length_take]; omega
  have hcap : ∀ b, b ∈ al → i64ok b.cap := fun b hb => (h.arcs b (List.mem_of_mem_take (by rw [← hal]; exact hb))).2.2
  refine Np (fun s => ∃ k : Nat, s.2 = k ∧ k ≤ q ∧ s.1.length = k ∧ SomeAt m s.1) (fun s => (q - s.2).toNat) ⟨0, rfl, by omega, rfl, fun b hb => by cases hb⟩ (by unfold Yy; simp only; omega) ?_
  rintro ⟨ol, x⟩ ⟨k, h1, h2, h3, h4⟩ P next exit
  simp only at h1 h2 h3 h4 next ⊢
  subst h1
  unfold Re
  rw [hq, ← hal]
  simp only [Int.toNat_natCast]
  refine Ok.ite.2 ⟨fun hx => ?_, fun hx => ?_⟩
  ·
   have hkl : k < al.length := by omega
   have hc := hcap _ (Kv hkl default)
   have hj : ∀ c : Int, 0 ≤ c → Ok (Nw n a (Kd n.N (v - 1)) ol k c) P := by
    intro c hc0
    unfold Nw
    rw [hq, ← hal, hm]
    refine Ok.bind.2 (Wn (Rs (by omega)) (Ok.bind.2 (Wn (Rs (by omega)) (Ok.gd.2 ⟨?_, Ok.gd.2 ⟨(by omega), Ok.some.2 (next _ ⟨k + 1, by simp, by omega, by simp [h3], ?_⟩ (by simp only; omega))⟩⟩))))
    · rw [List.length_append, h3]; simp only [List.length_cons, List.length_nil]; constructor <;> omega
    · exact h4.put (Ro (by omega)) (Ro (by omega)) (Z8c hc0 (by omega))
   refine Ok.gd.2 ⟨(by omega), Ok.ite.2 ⟨fun hn => ?_, fun hn => ?_⟩⟩
   · exact Ok.gd.2 ⟨by constructor <;> omega, Ok.gd.2 ⟨by constructor <;> omega, hj (-((al.getD k default).cap + 1)) (by omega)⟩⟩
   · exact hj (al.getD k default).cap (by omega)
  ·
   refine Ok.some.2 (exit _ ?_)
   unfold Z1d
   refine Ok.some.2 ?_
   rw [hm]
   exact ⟨Za4 (by omega) (by omega) hS ⟨t0, t1⟩ t2 h4 (show ol.length ≤ 4096 by omega), by simpa using h4, by simp only; omega, by show (ol.length : Int) ≤ a; omega, ⟨by simp only; omega, hS.1, hS.2, t0, t1, fun e => t2 e.symm⟩⟩
 refine Ok.ite.2 ⟨fun he => ?_, fun he => ?_⟩
 ·
  refine Ok.gd.2 ⟨(by omega), Ok.gd.2 ⟨by omega, ?_⟩⟩
  obtain ⟨n1, n2, n3⟩ := next_ne hS.1 hS.2 (by omega)
  exact key _ n1 n2 n3
 · exact key _ hT.1 hT.2 (fun e => he e.symm)
theorem s_Within {n : Net} {l : List Int} (hn : n.Arcs.length ≤ 4096) (hc : ∀ i, i < n.Arcs.length → 0 ≤ (n.Arcs.getD i default).cap) (hl : RowIn l) : Ok (Z0b n l) (fun r => WithinAt n.Arcs n.Arcs.length n.Arcs.length r) := by
 unfold Z0b
 have hll := hl.len
 refine Ok.gd.2 ⟨(by omega), Ok.bind.2 (Np (fun s => ∃ k : Nat, s.2 = k ∧ k ≤ n.Arcs.length ∧ WithinAt n.Arcs n.Arcs.length k s.1) (fun s => (n.Arcs.length - s.2).toNat) ⟨0, rfl, by omega, by simpa using Zch n.Arcs n.Arcs.length⟩ (by unfold Yy; simp only; omega) ?_)⟩
 rintro ⟨fl, x⟩ ⟨k, h1, h2, h3⟩ P next exit
 simp only at h1 h2 h3 next ⊢
 subst h1
 unfold Z0m
 refine Ok.ite.2 ⟨fun hx => ?_, fun hx => ?_⟩
 ·
  have hkl : k < n.Arcs.length := by omega
  have hck := hc k hkl
  have hfl := h3.1
  have hj3 : ∀ y : Int, (n.Arcs.getD k default).fr ≠ (n.Arcs.getD k default).to → 0 ≤ y → Ok (La n fl k y) P := by
   intro y hne hy
   unfold La
   refine Ok.gd.2 ⟨by constructor <;> omega, Ok.gd.2 ⟨(by omega), Ok.some.2 (next _ ⟨k + 1, by simp, by omega, ?_⟩ (by simp only; omega))⟩⟩
   simp only [Int.toNat_natCast]
   exact h3.put hkl (by omega) (by omega) hne
  have hj2 : ∀ y : Int, (n.Arcs.getD k default).fr ≠ (n.Arcs.getD k default).to → 0 ≤ y → Ok (Lx n fl k y) P := by
   intro y hne hy
   unfold Lx
   simp only [Int.toNat_natCast]
   refine Ok.ite.2 ⟨fun hb => ?_, fun hb => hj3 y hne hy⟩
   refine Ok.gd.2 ⟨by constructor <;> omega, Ok.gd.2 ⟨by omega, hj3 (y.tmod ((n.Arcs.getD k default).cap + 1)) hne (Z8c hy (by omega)).1⟩⟩
  have hskip : WithinAt n.Arcs n.Arcs.length (k + 1) fl := h3.skip hck
  refine Ok.gd.2 ⟨(by omega), Ok.ite.2 ⟨fun hb => ?_, fun hb => ?_⟩⟩
  · exact Ok.gd.2 ⟨(by omega), Ok.some.2 (next _ ⟨k + 1, by simp, by omega, hskip⟩ (by simp only; omega))⟩
  ·
   simp only [Int.toNat_natCast]
   refine Ok.ite.2 ⟨fun he => ?_, fun he => ?_⟩
   · exact Ok.gd.2 ⟨(by omega), Ok.some.2 (next _ ⟨k + 1, by simp, by omega, hskip⟩ (by simp only; omega))⟩
   ·
    have hxk := hl.row _ (Kv (show k < l.length by omega) 0)
    refine Ok.gd.2 ⟨(by omega), Ok.ite.2 ⟨fun hb => ?_, fun hb => hj2 (l.getD k 0) he (by omega)⟩⟩
    exact Ok.gd.2 ⟨by constructor <;> omega, Ok.gd.2 ⟨by constructor <;> omega, hj2 (-(l.getD k 0 + 1)) he (by omega)⟩⟩
 ·
  refine Ok.some.2 (exit _ ?_)
  unfold Z1i
  refine Ok.some.2 ?_
  rw [show n.Arcs.length = k by omega] at h3 ⊢
  exact h3
end Go.Acq
namespace Go.Acq
open Go
def ex (al : List Arc) (f : List Int) (v : Int) : Nat → Int
  | 0 => 0
  | k + 1 => ex al f v k - (if (al.getD k default).fr = v then f.getD k 0 else 0) + (if (al.getD k default).to = v then f.getD k 0 else 0)
def tot (f : List Int) : Nat → Int
  | 0 => 0
  | k + 1 => tot f k + f.getD k 0
def part (al : List Arc) (f : List Int) (j : Int) : Nat → Int
  | 0 => 0
  | k + 1 => part al f j k - (if (al.getD k default).fr < j then f.getD k 0 else 0) + (if (al.getD k default).to < j then f.getD k 0 else 0)
theorem ex_le {al : List Arc} {f : List Int} (v : Int) {n : Nat} (h : ∀ i, i < n → 0 ≤ f.getD i 0) : ∀ k, k ≤ n → -tot f k ≤ ex al f v k ∧ ex al f v k ≤ tot f k
 | 0, _ => by simp [ex, tot]
 | k + 1, hk => by
  have ih := ex_le (al := al) v h k (by omega)
  have := h k hk
  simp only [ex, tot]
  split <;> split <;> omega
theorem Z3m {f : List Int} {n : Nat} (h : ∀ i, i < n → 0 ≤ f.getD i 0) : ∀ j k, j ≤ k → k ≤ n → tot f j ≤ tot f k
  | j, 0, hj, _ => by have : j = 0 := by omega
                      subst this; exact Int.le_refl _
  | j, k + 1, hj, hk => by
    rcases Nat.lt_or_ge j (k + 1) with h1 | h1
    · have := Z3m h j k (by omega) (by omega)
      have := h k hk
      simp only [tot]; omega
    · rw [show j = k + 1 by omega]; exact Int.le_refl _
theorem sumL_tot {f : List Int} : ∀ (al : List Arc) (left : Int) (k : Nat), (Va left (al.drop k)).isSome = true → 0 ≤ left → k ≤ al.length → (∀ i, i < al.length → 0 ≤ f.getD i 0 ∧ f.getD i 0 ≤ (al.getD i default).cap) → tot f al.length - tot f k ≤ left := by
 intro al left k
 induction hn : al.length - k generalizing left k with
 | zero =>
  intro _ h0 hk _
  rw [show k = al.length by omega]; omega
 | succ n ih =>
  intro hs h0 hk hf
  have hkl : k < al.length := by omega
  rw [Z6r hkl] at hs
  by_cases hc : (al.getD k default).cap < 0 ∨ left < (al.getD k default).cap
  · rw [if_pos hc] at hs; cases hs
  ·
   rw [if_neg hc] at hs
   have := ih (left - (al.getD k default).cap) (k + 1) (by omega) hs (by omega) (by omega) hf
   have hfk := hf k hkl
   simp only [tot] at this
   omega
def FwithinP (n : Net) (f : List Int) : Prop := Vo n.N n.S n.T n.Arcs = 0 ∧ f.length = n.Arcs.length ∧ ∀ i, i < n.Arcs.length → 0 ≤ f.getD i 0 ∧ f.getD i 0 ≤ (n.Arcs.getD i default).cap
theorem FwithinP.tot {n : Net} {f : List Int} (h : FwithinP n f) : ∀ k, k ≤ n.Arcs.length → 0 ≤ tot f k ∧ tot f k ≤ 4611686018427387904 := by
 intro k hk
 have hz := Uk h.1
 have h1 := sumL_tot (f := f) n.Arcs 4611686018427387904 0 (by simpa using hz.2.2.2.2.2) (by omega) (by omega) h.2.2
 have h2 := Z3m (fun i hi => (h.2.2 i hi).1) k n.Arcs.length hk (Nat.le_refl _)
 have h3 := Z3m (fun i hi => (h.2.2 i hi).1) 0 k (by omega) hk
 simp only [Acq.tot] at h1 h3
 omega
theorem Z69 {n : Net} {f : List Int} (hl : lenok n.Arcs.length) : Ok (Ni n f) (fun b => b = true ↔ FwithinP n f) := by
 unfold Ni
 refine Ok.bind.2 (Wn (Z0y n hl) (Ok.ite.2 ⟨fun h => Ok.some.2 ⟨fun h2 => (by cases h2), fun h2 => absurd h2.1 h⟩, fun h1 => Ok.ite.2 ⟨fun h => Ok.some.2 ⟨fun h2 => (by cases h2), fun h2 => absurd h2.2.1 (by omega)⟩, fun h2 => Ok.bind.2 ?_⟩⟩))
 have hz := Uk (Classical.not_not.1 h1)
 refine Np (fun x => ∃ k : Nat, x = k ∧ k ≤ n.Arcs.length ∧ ∀ i, i < k → 0 ≤ f.getD i 0 ∧ f.getD i 0 ≤ (n.Arcs.getD i default).cap) (fun x => (n.Arcs.length - x).toNat) ⟨0, rfl, by omega, fun i hi => by omega⟩ (by unfold Yy; omega) ?_
 rintro x ⟨k, rfl, hk, h3⟩ P next exit
 unfold Z0v
 simp only [Int.toNat_natCast]
 refine Ok.ite.2 ⟨fun hx => ?_, fun hx => ?_⟩
 ·
  refine Ok.gd.2 ⟨(by omega), Ok.gd.2 ⟨(by omega), Ok.ite.2 ⟨fun h => Ok.some.2 (exit _ (Ok.some.2 ⟨fun h2 => (by cases h2), fun h2 => by have := h2.2.2 k (by omega); omega⟩)), fun h4 => Ok.gd.2 ⟨(by omega), Ok.ite.2 ⟨fun h => Ok.some.2 (exit _ (Ok.some.2 ⟨fun h2 => (by cases h2), fun h2 => by have := h2.2.2 k (by omega); omega⟩)), fun h5 => Ok.gd.2 ⟨(by omega), Ok.some.2 (next _ ⟨k + 1, by simp, by omega, fun i hi => ?_⟩ (by omega))⟩⟩⟩⟩⟩⟩
  rcases Nat.lt_or_ge i k with h | h
  · exact h3 i h
  · rw [show i = k by omega]; omega
 ·
  refine Ok.some.2 (exit _ ?_)
  unfold Z1s
  exact Ok.some.2 ⟨fun _ => ⟨Classical.not_not.1 h1, by omega, fun i hi => h3 i (by omega)⟩, fun _ => rfl⟩
theorem s_Excess {n : Net} {f : List Int} (hl : lenok n.Arcs.length) : Ok (Z0e n f) (fun r => (FwithinP n f ∧ r.2 = 0 ∧ r.1.length = n.N.toNat ∧ ∀ v : Nat, v < n.N.toNat → r.1.getD v 0 = ex n.Arcs f v n.Arcs.length) ∨ (¬ FwithinP n f ∧ r = ([], 20))) := by
 unfold Z0e
 refine Ok.bind.2 (Ok.mono (Z69 hl) fun b hb => Ok.ite.2 ⟨fun h => Ok.some.2 (.inr ⟨fun h2 => (by rw [hb.2 h2] at h; cases h), rfl⟩), fun h => ?_⟩)
 have hw : FwithinP n f := hb.1 (by cases b; exact absurd rfl h; rfl)
 have hz := Uk hw.1
 obtain ⟨m, hm⟩ : ∃ m : Nat, n.N = m := ⟨n.N.toNat, by omega⟩
 have he : Kp m n.Arcs := Z4i (by rw [← hm]; exact hz.2.2.2.1)
 have hfl := hw.2.1
 refine Ok.gd.2 ⟨(by omega), Ok.bind.2 ?_⟩
 rw [hm]
 simp only [Int.toNat_natCast]
 refine Np (fun s => ∃ k : Nat, s.2 = k ∧ k ≤ n.Arcs.length ∧ s.1.length = m ∧ ∀ v : Nat, v < m → s.1.getD v 0 = ex n.Arcs f v k) (fun s => (n.Arcs.length - s.2).toNat) ⟨0, rfl, by omega, List.length_replicate, fun v _ => by rw [Z2w]; rfl⟩ (by unfold Yy; simp only; omega) ?_
 rintro ⟨xs, x⟩ ⟨k, h1, hk, h3, h4⟩ P next exit
 simp only at h1 h3 h4 next ⊢
 subst h1
 unfold Rm
 simp only [Int.toNat_natCast]
 refine Ok.ite.2 ⟨fun hx => ?_, fun hx => ?_⟩
 ·
  have hkl : k < n.Arcs.length := by omega
  have e0 := he k hkl false
  have e1 := he k hkl true
  simp only [Xb, Bool.false_eq_true, if_false, if_true] at e0 e1
  obtain ⟨p, hp⟩ : ∃ p : Nat, (n.Arcs.getD k default).fr = p := ⟨(n.Arcs.getD k default).fr.toNat, by omega⟩
  obtain ⟨q, hq⟩ : ∃ q : Nat, (n.Arcs.getD k default).to = q := ⟨(n.Arcs.getD k default).to.toNat, by omega⟩
  have hfk := hw.2.2 k hkl
  have b0 := ex_le (al := n.Arcs) (f := f) (p : Int) (fun i hi => (hw.2.2 i hi).1) k hk
  have b1 := ex_le (al := n.Arcs) (f := f) (q : Int) (fun i hi => (hw.2.2 i hi).1) k hk
  have t0 := hw.tot k hk
  have t1 := hw.tot (k + 1) hkl
  simp only [tot] at t1
  rw [hp] at e0
  rw [hq] at e1
  have v0 := h4 p (by omega)
  have v1 := h4 q (by omega)
  simp only [hp, hq, Int.toNat_natCast, v0, Nf, List.length_set, h3]
  refine Ok.gd.2 ⟨(by omega), Ok.gd.2 ⟨(by omega), Ok.gd.2 ⟨(by omega), Ok.gd.2 ⟨(by omega), Ok.gd.2 ⟨(by omega), Ok.gd.2 ⟨(by omega), Ok.gd.2 ⟨(by omega), Ok.gd.2 ⟨by split <;> constructor <;> omega, Ok.gd.2 ⟨(by omega), Ok.gd.2 ⟨(by omega), Ok.some.2 (next _ ⟨k + 1, by simp, by omega, by simp [h3], fun v hv => ?_⟩ (by simp only; omega))⟩⟩⟩⟩⟩⟩⟩⟩⟩⟩
  simp only [Nf, List.length_set, h3, ex, hp, hq]
  rw [h4 v hv]
  by_cases c1 : p = v
  ·
   subst c1
   by_cases c2 : q = p
   ·
    subst c2
    simp only [true_and, if_true]
    rw [if_pos (by omega)]; simp [show q < m by omega]
   · rw [if_neg (fun h => c2 h.1), if_pos ⟨rfl, by omega⟩, if_pos rfl, if_neg (by omega)]; omega
  ·
   by_cases c2 : q = v
   ·
    subst c2
    rw [if_pos ⟨rfl, by omega⟩, if_neg (fun h => c1 h.1), if_neg (by omega), if_pos rfl, v1]; omega
   · rw [if_neg (fun h => c2 h.1), if_neg (fun h => c1 h.1), if_neg (by omega), if_neg (by omega)]; omega
 ·
  refine Ok.some.2 (exit _ ?_)
  unfold Z35
  rw [show k = n.Arcs.length by omega] at h4
  exact Ok.some.2 (.inl ⟨hw, rfl, h3, h4⟩)
end Go.Acq
namespace Go.Acq
open Go Go.Lib
theorem bs_getD (x : Str) (i : Nat) : (bs x).get! i = x.getD i 0 := by
 by_cases h : i < x.length
 · rw [Z6v x i h, List.getD_eq_getElem?_getD, List.getElem?_eq_getElem h]; rfl
 ·
  rw [List.getD_eq_getElem?_getD, List.getElem?_eq_none (by omega)]
  simp [ByteArray.get!, bs, h]; rfl
theorem Z8d (x : Str) (i : Nat) (h : i < x.length) (ha : 128 ≤ (x.getD i 0).toNat) : ∃ r k, Utf8.decode (bs x) i = (r, k) ∧ 128 ≤ r ∧ 1 ≤ k ∧ ∀ j, j < k → i + j < x.length ∧ 128 ≤ (x.getD (i + j) 0).toNat := by
 have h0 : ∀ j, j < 1 → i + j < x.length ∧ 128 ≤ (x.getD (i + j) 0).toNat := fun j hj => by
  obtain rfl : j = 0 := by omega
  exact ⟨h, ha⟩
 have hc : ∀ j, (decide (i + j < (bs x).size) && ((x.getD (i + j) 0).toNat / 64 == 2)) = true → i + j < x.length ∧ 128 ≤ (x.getD (i + j) 0).toNat := fun j hj => by
  simp only [Bool.and_eq_true, decide_eq_true_eq, beq_iff_eq, Xv] at hj
  omega
 unfold Utf8.decode
 simp only [bs_getD, Nat.add_zero]
 rw [if_neg (by omega)]
 split
 ·
  rename_i h1
  rw [Bool.and_eq_true] at h1
  split
  ·
   refine ⟨_, _, rfl, by assumption, by omega, fun j hj => ?_⟩
   rcases (by omega : j = 0 ∨ j = 1) with rfl | rfl
   · exact h0 0 (by omega)
   · exact hc 1 h1.2
  · exact ⟨_, _, rfl, by decide, by omega, h0⟩
 ·
  split
  ·
   rename_i h1
   rw [Bool.and_eq_true, Bool.and_eq_true] at h1
   split
   ·
    rename_i h2
    rw [Bool.and_eq_true, decide_eq_true_eq] at h2
    refine ⟨_, _, rfl, by omega, by omega, fun j hj => ?_⟩
    rcases (by omega : j = 0 ∨ j = 1 ∨ j = 2) with rfl | rfl | rfl
    · exact h0 0 (by omega)
    · exact hc 1 h1.1.2
    · exact hc 2 h1.2
   · exact ⟨_, _, rfl, by decide, by omega, h0⟩
  ·
   split
   ·
    rename_i h1
    rw [Bool.and_eq_true, Bool.and_eq_true, Bool.and_eq_true] at h1
    split
    ·
     rename_i h2
     rw [Bool.and_eq_true, decide_eq_true_eq] at h2
     refine ⟨_, _, rfl, by omega, by omega, fun j hj => ?_⟩
     rcases (by omega : j = 0 ∨ j = 1 ∨ j = 2 ∨ j = 3) with rfl | rfl | rfl | rfl
     · exact h0 0 (by omega)
     · exact hc 1 h1.1.1.2
     · exact hc 2 h1.1.2
     · exact hc 3 h1.2
    · exact ⟨_, _, rfl, by decide, by omega, h0⟩
   · exact ⟨_, _, rfl, by decide, by omega, h0⟩
theorem Z6u {l : Str} {i : Nat} {c : UInt8} (h : l[i]? = some c) : l.getD i 0 = c := by rw [List.getD_eq_getElem?_getD, h]; rfl
theorem Za6 {p : Nat → Bool} (hp : ∀ r, 128 ≤ r → p r = false) (l : Str) (Zd : Nat) (h : Zd < l.length) :
    (∃ c, l[Zd]? = some c ∧ p c.toNat = true ∧ Utf8.decode (bs l) Zd = (c.toNat, 1)) ∨ (∃ r k, Utf8.decode (bs l) Zd = (r, k) ∧ p r = false ∧ 1 ≤ k ∧ Zd + k ≤ l.length ∧ ∀ b ∈ (l.drop Zd).take k, p b.toNat = false) := by
  obtain ⟨c, hc⟩ := Z29 h
  by_cases ha : c.toNat < 128
  · have hd := Z2k l Zd c hc ha
    cases hq : p c.toNat with
    | true => exact .inl ⟨c, hc, hq, hd⟩
    | false =>
      refine .inr ⟨_, _, hd, hq, by omega, by omega, fun b hb => ?_⟩
      rw [Ry hc] at hb
      simp only [List.take_succ_cons, List.take_zero, List.mem_singleton] at hb
      rw [hb]; exact hq
  · obtain ⟨r, k, hd, hr, hk, hj⟩ := Z8d l Zd h (by rw [Z6u hc]; omega)
    have hle : Zd + k ≤ l.length := by have := (hj (k - 1) (by omega)).1; omega
    refine .inr ⟨r, k, hd, hp r hr, hk, hle, fun b hb => ?_⟩
    obtain ⟨j, hjl, rfl⟩ := List.mem_iff_getElem.1 hb
    rw [List.length_take, List.length_drop] at hjl
    have := (hj j (by omega)).2
    rw [List.getElem_take, List.getElem_drop]
    rw [List.getD_eq_getElem?_getD, List.getElem?_eq_getElem (by omega)] at this
    exact hp _ this
theorem Z0f {p : Nat → Bool} {l : Str} : ∀ (seg cur : Str), (∀ b ∈ seg, p b.toNat = false) → Xc p (seg ++ l) cur = Xc p l (cur ++ seg)
 | [], cur, _ => by rw [List.nil_append, List.append_nil]
 | b :: seg, cur, h => by
  rw [List.cons_append, Z3t (by rw [h b (.head _)]; decide), Z0f seg _ (fun x hx => h x (.tail _ hx)), List.append_assoc]; rfl
theorem Zam {p : Nat → Bool} (hp : ∀ r, 128 ≤ r → p r = false) (l : Str) : ∀ (f Zd : Nat) (st : Option Nat) (acc : List (Nat × Nat)), l.length ≤ Zd + f → Zd ≤ l.length → opn st Zd →
    (closeSpans (bs l) (spansFromP p (bs l) f Zd st acc)).map (fun x => (l.take x.2).drop x.1) = acc.map (fun x => (l.take x.2).drop x.1) ++ Xc p (l.drop Zd) (Xy l st Zd) := by
  have hne : ∀ a Zd, a < Zd → Zd ≤ l.length → Xy l (some a) Zd ≠ [] := fun a Zd h1 h2 e => by
    have := congrArg List.length e
    unfold Xy at this
    simp only at this
    rw [List.length_drop, List.length_take] at this
    simp only [List.length_nil] at this
    omega
  have fin : ∀ (f Zd : Nat) (st : Option Nat) (acc : List (Nat × Nat)), Zd = l.length → opn st Zd →
      (closeSpans (bs l) (spansFromP p (bs l) f Zd st acc)).map (fun x => (l.take x.2).drop x.1) = acc.map (fun x => (l.take x.2).drop x.1) ++ Xc p (l.drop Zd) (Xy l st Zd) := by
    intro f Zd st acc hp ho
    subst hp
    rw [spansFromP_end _ _ _ _ _ _ (by rw [Xv]; omega), List.drop_eq_nil_of_le (Nat.le_refl _)]
    cases st with
    | none => simp [closeSpans, Xy, Xc]
    | some a =>
      rw [Z4d (hne a _ (ho a rfl) (Nat.le_refl _))]
      simp only [closeSpans, Xy, Xv, List.map_append, List.map_cons, List.map_nil]
  intro f
  induction f with
  | zero => intro Zd st acc hf hp ho; exact fin 0 Zd st acc (by omega) ho
  | succ f ih =>
    intro Zd st acc hf hpl ho
    by_cases hlt : Zd < l.length
    · have hsz : Zd < (bs l).size := by rw [Xv]; exact hlt
      rcases Za6 hp l Zd hlt with ⟨c, hc, hq, hd⟩ | ⟨r, k, hd, hq, hk, hle, hseg⟩
      · rw [Ry hc]
        cases st with
        | none =>
          have e : spansFromP p (bs l) (f + 1) Zd none acc = spansFromP p (bs l) f (Zd + 1) none acc := by simp only [spansFromP, if_pos hsz, hd, if_pos hq]
          rw [e, ih (Zd + 1) none acc (by omega) (by omega) (fun a e => by cases e)]
          rw [show Xy l none Zd = [] from rfl, Z7k hq]; rfl
        | some a =>
          have e : spansFromP p (bs l) (f + 1) Zd (some a) acc = spansFromP p (bs l) f (Zd + 1) none (acc ++ [(a, Zd)]) := by simp only [spansFromP, if_pos hsz, hd, if_pos hq]
          rw [e, ih (Zd + 1) none (acc ++ [(a, Zd)]) (by omega) (by omega) (fun a e => by cases e), Z3b hq (hne a Zd (ho a rfl) (by omega))]
          simp only [Xy, List.map_append, List.map_cons, List.map_nil, List.append_assoc, List.cons_append, List.nil_append]
      · have hq' : ¬ p r = true := by rw [hq]; decide
        have hs : l.drop Zd = (l.drop Zd).take k ++ l.drop (Zd + k) := by rw [← List.drop_drop, List.take_append_drop]
        cases st with
        | none =>
          have e : spansFromP p (bs l) (f + 1) Zd none acc = spansFromP p (bs l) f (Zd + k) (some Zd) acc := by simp only [spansFromP, if_pos hsz, hd, if_neg hq']
          rw [e, ih (Zd + k) (some Zd) acc (by omega) hle (fun a e => by cases e; omega), hs, Z0f _ _ hseg]
          simp only [Xy, List.nil_append]
          rw [show (l.take (Zd + k)).drop Zd = (l.drop Zd).take k by rw [List.drop_take]; congr 1; omega]
        | some a =>
          have e : spansFromP p (bs l) (f + 1) Zd (some a) acc = spansFromP p (bs l) f (Zd + k) (some a) acc := by simp only [spansFromP, if_pos hsz, hd, if_neg hq']
          rw [e, ih (Zd + k) (some a) acc (by omega) hle (fun b e => by cases e; have := ho a rfl; omega), hs, Z0f _ _ hseg]
          have h1 := ho a rfl
          have : Xy l (some a) (Zd + k) = Xy l (some a) Zd ++ (l.drop Zd).take k := by
            unfold Xy
            simp only
            rw [show l.take (Zd + k) = l.take Zd ++ (l.drop Zd).take k from List.take_add, List.drop_append_of_le_length (by rw [List.length_take]; omega)]
          rw [this]
    · exact fin (f + 1) Zd st acc (by omega) ho
theorem Z8h {p : Nat → Bool} (hp : ∀ r, 128 ≤ r → p r = false) (l : Str) : Z08 p l = Xc p l [] := by
 have h0 := Z5c p l
 have h1 := Zam hp l l.length 0 none [] (by omega) (by omega) (fun a e => by cases e)
 simp only [List.map_nil, List.nil_append, List.drop_zero] at h1
 have h2 : Xy l none 0 = [] := rfl
 rw [h2] at h1
 have h3 : goFieldsP p (bs l) = (Xc p l []).map bs := by
  rw [← h1]
  unfold goFieldsP spansOfP
  rw [Xv, List.map_map]
  apply List.map_congr_left
  intro x _
  exact Z89 l x.1 x.2
 rw [h3] at h0
 have hinj : Function.Injective bs := fun a b h => by have := congrArg (fun z => z.data.toList) h; simpa [bs] using this
 exact ((List.map_inj_right (fun a b h => hinj h)).1 h0).symm
theorem Rn {p : Nat → Bool} : ∀ (l cur : Str), ∀ w ∈ Xc p l cur, w ≠ []
 | [], cur, w, h => by
  unfold Xc at h
  split at h
  · cases h
  · rcases List.mem_singleton.1 h with rfl; assumption
 | b :: l, cur, w, h => by
  unfold Xc at h
  split at h
  ·
   split at h
   · exact Rn l [] w h
   ·
    rcases List.mem_cons.1 h with rfl | h
    · assumption
    · exact Rn l [] w h
  · exact Rn l _ w h
theorem anyT_any {p : Nat → Bool} (hp : ∀ r, 128 ≤ r → p r = true) (l : Str) : anyT p l = l.any (fun b => p b.toNat) := by
 rw [← Z6i]
 have key : ∀ (f Zd : Nat), l.length ≤ Zd + f → decide (0 ≤ idxFuncFrom p true (bs l) f Zd) = (l.drop Zd).any (fun b => p b.toNat) := by
  intro f
  induction f with
  | zero => intro Zd hf; rw [List.drop_eq_nil_of_le (by omega)]; rfl
  | succ f ih =>
   intro Zd hf
   by_cases hlt : Zd < l.length
   ·
    obtain ⟨c, hc⟩ := Z29 hlt
    rw [idxFuncFrom, if_pos (by rw [Xv]; exact hlt), Ry hc, List.any_cons]
    by_cases ha : c.toNat < 128
    ·
     rw [Z2k l Zd c hc ha]
     by_cases hq : p c.toNat = true
     · rw [if_pos hq, hq, Bool.true_or]; exact decide_eq_true (by omega)
     ·
      rw [if_neg hq, Bool.eq_false_iff.2 hq, Bool.false_or]
      exact ih (Zd + 1) (by omega)
    ·
     obtain ⟨r, k, hd, hr, hk, hj⟩ := Z8d l Zd hlt (by rw [Z6u hc]; omega)
     rw [hd, if_pos (hp r hr), hp _ (by omega), Bool.true_or]
     exact decide_eq_true (by omega)
   · rw [idxFuncFrom_end _ _ _ _ _ (by rw [Xv]; exact hlt), List.drop_eq_nil_of_le (by omega)]; rfl
 unfold idxFunc
 rw [Xv, key l.length 0 (by omega), List.drop_zero]
def Jf (b : UInt8) : Bool := decide (48 ≤ b.toNat ∧ b.toNat ≤ 57)
def Vf (acc : Nat) (l : Str) : Nat := l.foldl (fun a b => a * 10 + (b.toNat - 48)) acc
theorem valD_nil (acc : Nat) : Vf acc [] = acc := rfl
theorem Zbn (acc : Nat) (b : UInt8) (l : Str) : Vf acc (b :: l) = Vf (acc * 10 + (b.toNat - 48)) l := by
 unfold Vf; rw [List.foldl_cons]
theorem Z9y (l : Str) : ∀ (acc : Nat), l.all Jf = true → (acc + 1) * 10 ^ l.length ≤ 18446744073709551616 → parseUintM 18446744073709551615 acc l = .ok (Vf acc l) := by
 induction l with
 | nil => intro acc _ _; rfl
 | cons b l ih =>
  intro acc h hb
  rw [List.all_cons, Bool.and_eq_true] at h
  have h1 : 48 ≤ b.toNat ∧ b.toNat ≤ 57 := of_decide_eq_true h.1
  rw [List.length_cons, Nat.pow_succ] at hb
  have hp : 1 ≤ 10 ^ l.length := Nat.one_le_pow _ _ (by omega)
  have h2 : (acc * 10 + (b.toNat - 48) + 1) * 10 ^ l.length ≤ 18446744073709551616 := by
   refine Nat.le_trans ?_ hb
   rw [Nat.mul_comm (10 ^ l.length) 10, ← Nat.mul_assoc]
   exact Nat.mul_le_mul_right _ (by omega)
  have h3 : acc * 10 + (b.toNat - 48) + 1 ≤ 18446744073709551616 := Nat.le_trans (by have := Nat.mul_le_mul_left (acc * 10 + (b.toNat - 48) + 1) hp; omega) h2
  rw [parseUintM, if_pos h1, if_neg (by omega), if_neg (by omega)]
  exact ih _ h.2 h2
def Wk (s : Str) : Int × Bool := if s.all Jf = true ∧ s ≠ [] ∧ s.length ≤ 19 ∧ Vf 0 s < 9223372036854775808 then ((Vf 0 s : Int), true) else (0, false)
theorem Z9u {s : Str} (h : s.all Jf = true) (h0 : s ≠ []) (h1 : s.length ≤ 19) : Z09 s = if Vf 0 s < 9223372036854775808 then ((Vf 0 s : Int), true) else (9223372036854775807, false) := by
 obtain ⟨c, r, rfl⟩ := List.exists_cons_of_ne_nil h0
 have hc : 48 ≤ c.toNat ∧ c.toNat ≤ 57 := by rw [List.all_cons, Bool.and_eq_true] at h; exact of_decide_eq_true h.1
 have hp : parseUintB 64 (c :: r) = .ok (Vf 0 (c :: r)) := by
  unfold parseUintB
  rw [if_neg h0]
  refine Z9y _ 0 h ?_
  have : (10 : Nat) ^ (c :: r).length ≤ 10 ^ 19 := Nat.pow_le_pow_right (by omega) h1
  omega
 unfold Z09
 rw [parseIntB_plain 64 c r (by omega) (by omega), hp]
 simp only [signlessC]
 by_cases hv : Vf 0 (c :: r) < 9223372036854775808
 · rw [if_pos hv, if_neg (by omega)]
 ·
  rw [if_neg hv, if_pos (by omega)]
  simp only
  rw [intSat_other 64 c r (by omega)]; rfl
theorem Z3o : ∀ (f u : Nat), (Wb f u).all Jf = true
 | 0, u => rfl
 | f + 1, u => by
  have key : ∀ v, v < 10 → Jf (UInt8.ofNat (48 + v)) = true := fun v hv => by
   refine decide_eq_true ?_
   rw [UInt8.toNat_ofNat']
   omega
  rw [Wb]
  split
  · rw [List.all_cons, key u (by omega)]; rfl
  · rw [List.all_append, Z3o f, List.all_cons, key _ (by omega)]; rfl
theorem valD_app (l : Str) (acc : Nat) (b : UInt8) : Vf acc (l ++ [b]) = Vf acc l * 10 + (b.toNat - 48) := by
 unfold Vf; rw [List.foldl_append]; rfl
theorem Z5q : ∀ (f u : Nat), u < 10 ^ f → Vf 0 (Wb f u) = u
 | 0, u, h => by simp at h; subst h; rfl
 | f + 1, u, h => by
  have key : ∀ v, v < 10 → (UInt8.ofNat (48 + v)).toNat - 48 = v := fun v hv => by rw [UInt8.toNat_ofNat']; omega
  rw [Wb]
  split
  · rw [Zbn, valD_nil, key u (by omega)]; omega
  · rw [valD_app, Z5q f (u / 10) (by rw [Nat.pow_succ] at h; omega), key _ (by omega)]; omega
theorem Z3q : ∀ (f u : Nat), u < 10 ^ f → 1 ≤ f → 1 ≤ (Wb f u).length ∧ (Wb f u).length ≤ f
 | 0, u, _, h => by omega
 | f + 1, u, h, _ => by
  rw [Wb]
  split
  · simp
  ·
   rename_i hu
   rw [List.length_append, List.length_singleton]
   have h2 : u / 10 < 10 ^ f := by rw [Nat.pow_succ] at h; omega
   cases f with
   | zero => simp at h; omega
   | succ f => have := Z3q (f + 1) (u / 10) h2 (by omega); omega
theorem Z81 : ∀ (f u : Nat), u < 10 ^ (f + 1) → Wb (f + 2) u = Wb (f + 1) u
 | 0, u, h => by
  have h2 : u < 10 := by simpa using h
  rw [Wb, if_pos h2, Wb, if_pos h2]
 | f + 1, u, h => by
  by_cases hu : u < 10
  · rw [Wb, if_pos hu, Wb, if_pos hu]
  ·
   rw [Wb, if_neg hu, Z81 f (u / 10) (by rw [Nat.pow_succ] at h; omega)]
   conv => rhs; rw [Wb, if_neg hu]
theorem Zan {n : Int} (h0 : 0 ≤ n) (h1 : n ≤ 9223372036854775807) : Yj n = Wb 19 n.toNat ∧ (Yj n).all Jf = true ∧ Yj n ≠ [] ∧ (Yj n).length ≤ 19 ∧ Vf 0 (Yj n) = n.toNat := by
 have e19 : (10 : Nat) ^ 19 = 10000000000000000000 := by decide
 have e : Yj n = Wb 19 n.toNat := by
  unfold Yj
  rw [if_neg (by omega)]
  exact Z81 18 n.toNat (by rw [show 18 + 1 = 19 from rfl, e19]; omega)
 have hl := Z3q 19 n.toNat (by rw [e19]; omega) (by omega)
 refine ⟨e, by rw [e]; exact Z3o _ _, fun h => ?_, by rw [e]; exact hl.2, by rw [e]; exact Z5q 19 _ (by rw [e19]; omega)⟩
 rw [e] at h
 rw [h] at hl
 simp at hl
theorem Z3n {n : Int} (h0 : 0 ≤ n) (h1 : n ≤ 9223372036854775807) : Wk (Yj n) = (n, true) := by
 obtain ⟨-, h2, h3, h4, h5⟩ := Zan h0 h1
 unfold Wk
 rw [if_pos ⟨h2, h3, h4, by omega⟩, h5, Int.toNat_of_nonneg h0]
end Go.Acq
namespace Go.Acq
open Go
def Uq {S V X : Type} (yy : S → V → Option (S ⊕ X)) : S → List V → Option (S ⊕ X)
  | s, [] => some (.inl s)
  | s, v :: vs => Option.bind (yy s v) fun t => match t with | .inl s' => Uq yy s' vs | .inr x => some (.inr x)
def Wu : Str → Str → List Str
  | [], cur => [cur]
  | b :: l, cur => if b = 10 then cur :: Wu l [] else Wu l (cur ++ [b])
theorem Z20 : ∀ (l cur : Str), ∀ x ∈ Wu l cur, x.length ≤ cur.length + l.length
 | [], cur, x, h => by rw [Wu] at h; rw [List.mem_singleton.1 h]; exact Nat.le_add_right _ _
 | b :: l, cur, x, h => by
  rw [Wu] at h
  split at h
  ·
   rcases List.mem_cons.1 h with rfl | h
   · exact Nat.le_add_right _ _
   · have := Z20 l [] x h; simp only [List.length_nil, List.length_cons] at this ⊢; omega
  · have := Z20 l _ x h; rw [List.length_append, List.length_singleton] at this; rw [List.length_cons]; omega
theorem Z8a : ∀ (seg rest cur : Str), (∀ b ∈ seg, b ≠ 10) → Wu (seg ++ 10 :: rest) cur = (cur ++ seg) :: Wu rest []
 | [], rest, cur, _ => by rw [List.nil_append, Wu, if_pos rfl, List.append_nil]
 | b :: seg, rest, cur, h => by
  rw [List.cons_append, Wu, if_neg (h b (.head _)), Z8a seg rest _ (fun x hx => h x (.tail _ hx)), List.append_assoc]; rfl
theorem Z7l : ∀ (t cur : Str), (Lib.indexByte t 10 < 0 ∧ Wu t cur = [cur ++ t]) ∨ (∃ r : Nat, Lib.indexByte t 10 = r ∧ r < t.length ∧ Wu t cur = (cur ++ t.take r) :: Wu (t.drop (r + 1)) [])
 | [], cur => .inl ⟨by decide, by rw [Wu, List.append_nil]⟩
 | b :: l, cur => by
  by_cases hb : b = 10
  ·
   subst hb
   refine .inr ⟨0, rfl, by simp, ?_⟩
   rw [Wu, if_pos rfl]; simp
  ·
   have h1 : (b == (10 : UInt8)) = false := by simpa using hb
   rcases Z7l l (cur ++ [b]) with ⟨h2, h3⟩ | ⟨r, h2, h3, h4⟩
   ·
    refine .inl ⟨?_, by rw [Wu, if_neg hb, h3, List.append_assoc]; rfl⟩
    have h5 : Lib.indexByte l 10 = -1 := by have := Lib.indexByte_ge l 10; omega
    rw [Lib.indexByte, h1, h5]; decide
   ·
    refine .inr ⟨r + 1, ?_, by rw [List.length_cons]; omega, ?_⟩
    ·
     rw [Lib.indexByte, h1, h2]
     have : ((r : Int) == -1) = false := beq_eq_false_iff_ne.2 (by omega)
     rw [this]; simp
    · rw [Wu, if_neg hb, h4, List.append_assoc]; simp
theorem ub_take (t : Str) (k : Nat) : (ub t).take k = ub (t.take k) := by unfold ub; rw [List.map_take]
theorem ub_drop (t : Str) (k : Nat) : (ub t).drop k = ub (t.drop k) := by unfold ub; rw [List.map_drop]
theorem Z3i (a b : Str) : ub (a ++ b) = ub a ++ ub b := by unfold ub; rw [List.map_append]
theorem ub_bu {l : List Int} (h : ∀ x ∈ l, u8ok x) : ub (bu l) = l := by
 unfold ub bu
 rw [List.map_map]
 conv => rhs; rw [← List.map_id l]
 apply List.map_congr_left
 intro x hx
 have := h x hx
 simp only [Function.comp, id_eq, UInt8.toNat_ofNat']
 omega
theorem Z6g (t : Str) : Z03 (ub t) [10] = some (Lib.indexByte t 10) := by
 unfold Z03 Z2i
 rw [if_neg (by simp), if_pos (by simp), Xe (by constructor <;> decide)]
 simp only [Option.bind_some]
 congr 1
 unfold idxT
 rw [bu_ub]; rfl
theorem Z8u {S X : Type} (yy : S → List Int → Option (S ⊕ X)) {t : Str} {s : S} (h1 : Lib.indexByte t 10 < 0) : Jj yy [10] 0 (ub t) (.inl s) = some (.inr (.inl (ub t, .inl s))) := by
 unfold Jj
 rw [Z6g, Option.bind_some, if_pos h1]
theorem Zca {S X : Type} (yy : S → List Int → Option (S ⊕ X)) {t : Str} {s : S} {r : Nat} (hl : t.length ≤ 1152921504606846976) (h1 : Lib.indexByte t 10 = r) (h2 : r < t.length) :
    Jj yy [10] 0 (ub t) (.inl s) = Option.bind (yy s (ub (t.take r))) fun x => match x with | .inl s' => some (.inl (ub (t.drop (r + 1)), .inl s')) | .inr x => some (.inr (.inr (.inr x))) := by
  unfold Jj
  rw [Z6g, Option.bind_some, if_neg (by omega), h1]
  have ht : ((r : Int) + 0).toNat = r := by omega
  have hd : ((r : Int) + (([10] : List Int).length : Int)).toNat = r + 1 := by simp only [List.length_singleton]; omega
  have hlen := Jb t
  rw [Xe (by omega), Xe (by rw [hlen]; omega), Xe (by omega), ht, hd, List.take_of_length_le (by omega), ub_take, ub_drop]
  simp only [Ju]
  cases hy : yy s (ub (t.take r)) with
  | none => rfl
  | some x =>
    cases x with
    | inr x => rfl
    | inl s' =>
      rw [Option.bind_some, if_neg (by simp), Xe (by simp only [List.length_singleton]; omega), Xe (by rw [hlen]; simp only [List.length_singleton]; omega)]
      rfl
theorem s_splitN {S X : Type} (yy : S → List Int → Option (S ⊕ X)) : ∀ (fuel : Nat) (t : Str) (s : S), t.length ≤ 1152921504606846976 → t.length < fuel →
    (Option.bind (Xf (fun s : List Int × (S ⊕ X) => Jj yy [10] 0 s.1 s.2) fuel (ub t, .inl s)) fun o => match o with | .inl (p2_0_0, p2_0_1) => (Z0c yy p2_0_0 p2_0_1) | .inr p2_1_0 => (some p2_1_0)) = Uq (fun s v => yy s (ub v)) s (Wu t []) := by
  intro fuel
  induction fuel with
  | zero => intro t s _ h; omega
  | succ fuel ih =>
    intro t s hl hf
    rw [Xf]
    rcases Z7l t [] with ⟨h1, h2⟩ | ⟨r, h1, h2, h3⟩
    · rw [Z8u yy h1, h2]
      simp only [Option.bind_some, List.nil_append, Uq]
      unfold Z0c
      rw [Xe (by omega), List.take_of_length_le (by omega)]
      simp only [Ju]
      cases yy s (ub t) with
      | none => rfl
      | some x => cases x <;> rfl
    · rw [Zca yy hl h1 h2, h3]
      rw [Uq, List.nil_append]
      cases hy : yy s (ub (t.take r)) with
      | none => rfl
      | some x =>
        cases x with
        | inr x => rfl
        | inl s' => exact ih (t.drop (r + 1)) s' (by rw [List.length_drop]; omega) (by rw [List.length_drop]; omega)
theorem s_split {S X : Type} (yy : S → List Int → Option (S ⊕ X)) (t : Str) (s : S) (hl : t.length ≤ 1152921504606846976) : Z05 yy [10] (ub t) 0 (.inl s) = Uq (fun s v => yy s (ub v)) s (Wu t []) := by
 unfold Z05 Z2x
 rw [if_neg (by simp)]
 have hF : t.length < Yy := Nat.lt_of_le_of_lt hl (by unfold Yy; decide)
 exact s_splitN yy Yy t s hl hF
theorem Lq (x : Nat) : Wf x = decide (x = 9 ∨ x = 13 ∨ x = 32) := by
 unfold Wf Lt
 by_cases h1 : x = 9
 · subst h1; rfl
 ·
  by_cases h2 : x = 13
  · subst h2; rfl
  ·
   rw [if_neg (by omega), if_neg (by omega)]
   by_cases h3 : x = 32
   · subst h3; rfl
   · rw [decide_eq_false (by omega : ¬((x : Int) = 32)), decide_eq_false (by omega : ¬(x = 9 ∨ x = 13 ∨ x = 32))]; rfl
theorem blank_hi : ∀ r, 128 ≤ r → Wf r = false := fun r h => by rw [Lq]; exact decide_eq_false (by omega)
def Wr (l : Str) : List Str := Xc Wf l []
theorem s_Words (l : Str) (h : l.length ≤ 4294967296) : Rh (ub l) = some (Wr l) := by
 unfold Rh Z17
 rw [bu_ub, Xe h, Z8h blank_hi]; rfl
def Ut (l : Str) : Option (List Str) := if Wr l = [] then none else if ((Wr l).getD 0 []).getD 0 0 = 99 then none else some (Wr l)
def Wx (t : Str) : List (List Str) := (Wu t []).filterMap Ut
theorem Z8x {S X : Type} (yy : S → List Str → Option (S ⊕ X)) (s : S) (l : Str) (h : l.length ≤ 4294967296) :
    Jn yy (.inl s) (ub l) = match Ut l with | none => some (.inl (.inl s)) | some w => Option.bind (yy s w) fun t => match t with | .inl s' => some (.inl (.inl s')) | .inr x => some (.inr (.inr x)) := by
  unfold Jn Ut
  rw [s_Words l h]
  simp only [Option.bind_some]
  by_cases h1 : Wr l = []
  · rw [if_pos h1, if_neg (by rw [h1]; simp)]
  · have h2 : 0 < (Wr l).length := List.length_pos_iff.2 h1
    have h3 : (Wr l).getD (0 : Int).toNat [] ∈ Wr l := by
      rw [Int.toNat_zero, List.getD_eq_getElem?_getD, List.getElem?_eq_getElem h2]
      exact List.getElem_mem h2
    have h4 : 0 < ((Wr l).getD (0 : Int).toNat []).length := List.length_pos_iff.2 (Rn _ _ _ h3)
    rw [if_neg h1, if_pos (by omega), Xe (by constructor <;> omega), Xe (by constructor <;> omega)]
    rw [Int.toNat_zero]
    by_cases h5 : ((Wr l).getD 0 []).getD 0 0 = 99
    · rw [if_pos h5, if_neg (by rw [h5]; decide)]
    · have h6 : ¬ ((((Wr l).getD 0 []).getD 0 0).toNat : Int) = 99 := fun e => h5 (UInt8.toNat_inj.1 (by have : (99 : UInt8).toNat = 99 := rfl; omega))
      rw [if_neg h5, if_pos h6]
      simp only [Ju]
      cases yy s (Wr l) with
      | none => rfl
      | some x => cases x <;> rfl
theorem Z8b {S X : Type} (yy : S → List Str → Option (S ⊕ X)) (t : Str) (s : S) (hl : t.length ≤ 4294967296) : Lh yy (ub t) (.inl s) = Uq yy s (Wx t) := by
  unfold Lh Z2t Z1e
  simp only [Option.bind_some]
  rw [s_split _ t _ (by omega)]
  have key : ∀ (ls : List Str) (s : S), (∀ x ∈ ls, x.length ≤ 4294967296) →
      (Option.bind (Uq (fun s v => Jn yy s (ub v)) (.inl s) ls) fun t => match t with | .inl tt13 => (some tt13) | .inr tt13 => (some tt13)) = Uq yy s (ls.filterMap Ut) := by
    intro ls
    induction ls with
    | nil => intro s _; rfl
    | cons l ls ih =>
      intro s h
      rw [Uq, Z8x yy s l (h l (.head _)), List.filterMap_cons]
      have ih2 := fun s' => ih s' (fun x hx => h x (.tail _ hx))
      cases hs : Ut l with
      | none => simp only [Option.bind_some]; exact ih2 s
      | some w =>
        simp only
        rw [Uq]
        cases yy s w with
        | none => rfl
        | some x =>
          cases x with
          | inl s' => simp only [Option.bind_some]; exact ih2 s'
          | inr x => rfl
  exact key _ s fun x hx => by have := Z20 t [] x hx; simp only [List.length_nil] at this; omega
theorem saidT_ne {t : Str} {w : List Str} (h : w ∈ Wx t) : w ≠ [] ∧ ∀ x ∈ w, x ≠ [] := by
 obtain ⟨l, -, hl⟩ := List.mem_filterMap.1 h
 unfold Ut at hl
 split at hl
 · cases hl
 ·
  split at hl
  · cases hl
  ·
   injection hl with hl
   subst hl
   exact ⟨by assumption, fun x hx => Rn _ _ x hx⟩
theorem Z4g (seg rest : Str) (h : ∀ b ∈ seg, b ≠ 10) : Wx (seg ++ 10 :: rest) = (Ut seg).toList ++ Wx rest := by
 unfold Wx
 rw [Z8a seg rest [] h, List.nil_append, List.filterMap_cons]
 cases Ut seg <;> rfl
def okW (w : Str) : Prop := w ≠ [] ∧ ∀ b ∈ w, Wf b.toNat = false
theorem Z7o {w : Str} (h : okW w) : Xc Wf w [] = [w] := by
 have := Z0f (p := Wf) (l := []) w [] h.2
 rw [List.append_nil, List.nil_append] at this
 rw [this, Z4d h.1]
theorem Z23 {w rest : Str} (h : okW w) {b : UInt8} (hb : Wf b.toNat = true) : Xc Wf (w ++ b :: rest) [] = w :: Xc Wf rest [] := by
 rw [Z0f w [] h.2, List.nil_append, Z3b hb h.1]
theorem Z7r {a b : List Bool} (h : lenok a.length) : Nb a b = some (decide (a = b)) := by
 refine Gj ?_
 unfold Nb
 refine Ok.ite.2 ⟨fun hl => Ok.some.2 (decide_eq_false ?_).symm, fun hl => ?_⟩
 · rintro rfl; exact hl rfl
 ·
  refine Ok.bind.2 (Nd (fun x => 0 ≤ x ∧ x ≤ a.length ∧ ∀ i, i < x.toNat → a.getD i false = b.getD i false) (fun x => (a.length - x).toNat) ⟨by omega, by omega, fun i hi => by omega⟩ (by unfold Yy; omega) ?_)
  rintro x ⟨h0, h1, h2⟩
  unfold Z0x
  refine Ok.ite.2 ⟨fun hx => ?_, fun hx => ?_⟩
  ·
   refine Ok.gd.2 ⟨(by omega), Ok.gd.2 ⟨(by omega), Ok.ite.2 ⟨fun hne => ?_, fun hne => ?_⟩⟩⟩
   ·
    refine Ok.some.2 (Ok.some.2 (decide_eq_false ?_).symm)
    rintro rfl; simp at hne
   ·
    refine Ok.gd.2 ⟨(by omega), Ok.some.2 ⟨⟨by omega, by omega, fun i hi => ?_⟩, by omega⟩⟩
    rcases Nat.lt_or_ge i x.toNat with h3 | h3
    · exact h2 i h3
    · rw [show i = x.toNat by omega]; simpa using hne
  ·
   refine Ok.some.2 (Ok.some.2 (decide_eq_true ?_).symm)
   exact Z68 false (by omega) (fun i hi => h2 i (by omega))
end Go.Acq
namespace Go.Acq
open Go
theorem Z5p (x : Nat) : Gu x = decide (x < 48 ∨ 57 < x) := by
 unfold Gu Nq
 by_cases h1 : x < 48
 · rw [if_pos (by omega), decide_eq_true (by omega : x < 48 ∨ 57 < x)]; rfl
 ·
  rw [if_neg (by omega)]
  by_cases h2 : 57 < x
  · rw [decide_eq_true (by omega : (57 : Int) < x), decide_eq_true (by omega : x < 48 ∨ 57 < x)]; rfl
  · rw [decide_eq_false (by omega : ¬ (57 : Int) < x), decide_eq_false (by omega : ¬(x < 48 ∨ 57 < x))]; rfl
theorem any_dig (l : Str) : l.any (fun b => Gu b.toNat) = !(l.all Jf) := by
 induction l with
 | nil => rfl
 | cons b l ih =>
  rw [List.any_cons, List.all_cons, ih, Z5p, Bool.not_and]
  congr 1
  unfold Jf
  by_cases h : 48 ≤ b.toNat ∧ b.toNat ≤ 57
  · rw [decide_eq_true h, decide_eq_false (by omega : ¬(b.toNat < 48 ∨ 57 < b.toNat))]; rfl
  · rw [decide_eq_false h, decide_eq_true (by omega : b.toNat < 48 ∨ 57 < b.toNat)]; rfl
theorem s_Number (s : Str) : Rq s = some (Wk s) := by
 unfold Rq
 by_cases h1 : 19 < s.length
 ·
  rw [if_pos (by omega)]
  unfold Lm Wk
  rw [if_pos rfl, if_neg (by omega)]
 ·
  rw [if_neg (by omega)]
  unfold Z2l Lm
  rw [anyT_any (fun r h => by rw [Z5p]; exact decide_eq_true (by omega)), any_dig, Option.bind_some]
  by_cases h2 : s.all Jf = true
  ·
   rw [h2, if_neg (by simp)]
   unfold Z24
   rw [Xe ⟨by omega, rfl, rfl⟩, Option.bind_some]
   by_cases h3 : s = []
   · subst h3; rfl
   ·
    rw [Z9u h2 h3 (by omega)]
    unfold Wk
    by_cases h4 : Vf 0 s < 9223372036854775808
    · rw [if_pos h4, if_pos ⟨h2, h3, by omega, h4⟩]; rfl
    · rw [if_neg h4, if_neg (fun h => h4 h.2.2.2)]; rfl
  ·
   rw [Bool.eq_false_iff.2 h2, if_pos (by simp)]
   unfold Wk
   rw [if_neg (fun h => h2 h.1)]
def Kq (s : Str) (lo hi : Int) : Bool := (Wk s).2 && decide (lo ≤ (Wk s).1 ∧ (Wk s).1 ≤ hi)
theorem Z1k (s : Str) (lo hi : Int) : Jy s lo hi = some ((Wk s).1, Kq s lo hi) := by
 unfold Jy Kq
 rw [s_Number, Option.bind_some]
 cases h : (Wk s).2 with
 | false => simp only; rw [if_neg (by rw [h]; decide)]; rfl
 | true =>
  simp only
  rw [if_pos h]
  by_cases h1 : lo ≤ (Wk s).1
  · rw [if_pos h1, Bool.true_and]; congr 2; exact decide_eq_decide.2 ⟨fun h => ⟨h1, h⟩, fun h => h.2⟩
  · rw [if_neg h1, Bool.true_and, decide_eq_false (fun h => h1 h.1)]
theorem numB_iff {s : Str} {lo hi : Int} : Kq s lo hi = true ↔ (Wk s).2 = true ∧ lo ≤ (Wk s).1 ∧ (Wk s).1 ≤ hi := by
 unfold Kq; rw [Bool.and_eq_true, decide_eq_true_eq]
theorem Z2z {n lo hi : Int} (h0 : 0 ≤ n) (h1 : n ≤ 9223372036854775807) (h2 : lo ≤ n) (h3 : n ≤ hi) : Kq (Yj n) lo hi = true := by
 rw [numB_iff, Z3n h0 h1]; exact ⟨rfl, h2, h3⟩
def Jg (a : Arc) (w : List Str) : Bool := decide (w.length = 4 ∧ w.getD 0 [] = [102]) && (Kq (w.getD 3 []) 0 a.cap && (Kq (w.getD 1 []) (a.fr + 1) (a.fr + 1) && Kq (w.getD 2 []) (a.to + 1) (a.to + 1)))
def flowV (w : List Str) : Int := (Wk (w.getD 3 [])).1
theorem s_flowed {a : Arc} (w : List Str) (hf : 0 ≤ a.fr ∧ a.fr ≤ 1000000) (ht : 0 ≤ a.to ∧ a.to ≤ 1000000) (hw : w.length ≤ 9223372036854775807) : Ok (Z0o a w) (fun r => r.2 = Jg a w ∧ (r.2 = true → r.1 = flowV w)) := by
 unfold Z0o
 have t1 : No a w true = some (0, false) := rfl
 refine Ok.ite.2 ⟨fun h => ?_, fun h => ?_⟩
 ·
  rw [t1]
  refine Ok.some.2 ⟨?_, fun h => (by cases h)⟩
  unfold Jg
  rw [decide_eq_false (by omega)]; rfl
 ·
  refine Ok.gd.2 ⟨(by (first | omega | (constructor <;> omega) | (simp only [List.length_set, List.length_replicate]; omega) | (simp only [List.length_set, List.length_replicate]; constructor <;> omega))), ?_⟩
  rw [Int.toNat_zero]
  by_cases h0 : w.getD 0 [] = [102]
  ·
   rw [decide_eq_false (by simpa using h0)]
   unfold No Jg
   rw [if_neg (by simp), decide_eq_true (by exact ⟨by omega, h0⟩)]
   refine Ok.gd.2 ⟨(by (first | omega | (constructor <;> omega) | (simp only [List.length_set, List.length_replicate]; omega) | (simp only [List.length_set, List.length_replicate]; constructor <;> omega))), Ok.gd.2 ⟨(by (first | omega | (constructor <;> omega) | (simp only [List.length_set, List.length_replicate]; omega) | (simp only [List.length_set, List.length_replicate]; constructor <;> omega))), Ok.gd.2 ⟨(by (first | omega | (constructor <;> omega) | (simp only [List.length_set, List.length_replicate]; omega) | (simp only [List.length_set, List.length_replicate]; constructor <;> omega))), Ok.bind.2 (Wn (Z1k ..) (Ok.gd.2 ⟨(by (first | omega | (constructor <;> omega) | (simp only [List.length_set, List.length_replicate]; omega) | (simp only [List.length_set, List.length_replicate]; constructor <;> omega))), Ok.gd.2 ⟨(by (first | omega | (constructor <;> omega) | (simp only [List.length_set, List.length_replicate]; omega) | (simp only [List.length_set, List.length_replicate]; constructor <;> omega))), Ok.gd.2 ⟨(by (first | omega | (constructor <;> omega) | (simp only [List.length_set, List.length_replicate]; omega) | (simp only [List.length_set, List.length_replicate]; constructor <;> omega))), Ok.bind.2 (Wn (Z1k ..) (Ok.gd.2 ⟨(by (first | omega | (constructor <;> omega) | (simp only [List.length_set, List.length_replicate]; omega) | (simp only [List.length_set, List.length_replicate]; constructor <;> omega))), Ok.bind.2 (Wn (Z1k ..) ?_)⟩))⟩⟩⟩))⟩⟩⟩
   simp only
   have e1 : (1 : Int).toNat = 1 := rfl
   have e2 : (2 : Int).toNat = 2 := rfl
   have e3 : (3 : Int).toNat = 3 := rfl
   rw [e1, e2, e3, Bool.true_and]
   refine Ok.ite.2 ⟨fun h1 => Ok.ite.2 ⟨fun h2 => Ok.some.2 ?_, fun h2 => Ok.some.2 ?_⟩, fun h1 => Ok.some.2 ?_⟩
   · rw [h1, h2]; exact ⟨rfl, fun _ => rfl⟩
   · rw [h1, Bool.eq_false_iff.2 h2]; exact ⟨rfl, fun h => (by cases h)⟩
   · rw [Bool.eq_false_iff.2 h1]; exact ⟨rfl, fun h => (by cases h)⟩
  ·
   rw [decide_eq_true (by simpa using h0), t1]
   refine Ok.some.2 ⟨?_, fun h => (by cases h)⟩
   unfold Jg
   rw [decide_eq_false (fun h => h0 h.2)]; rfl
def Vi : List Arc → List (List Str) → Option (List Int)
  | [], [] => some []
  | a :: al, w :: ws => if Jg a w = true then (Vi al ws).map (flowV w :: ·) else none
  | [], _ :: _ => none
  | _ :: _, [] => none
theorem Z66 : ∀ (al : List Arc) (ws : List (List Str)) (f : List Int), Vi al ws = some f → f.length = al.length ∧ ws.length = al.length ∧ ∀ i, i < al.length → 0 ≤ f.getD i 0 ∧ f.getD i 0 ≤ (al.getD i default).cap
 | [], [], f, h => by injection h with h; subst h; exact ⟨rfl, rfl, fun i hi => by simp at hi⟩
 | a :: al, w :: ws, f, h => by
  rw [Vi] at h
  split at h
  ·
   rename_i hb
   obtain ⟨g, hg, rfl⟩ := Option.map_eq_some_iff.1 h
   obtain ⟨h1, h2, h3⟩ := Z66 al ws g hg
   refine ⟨by simp [h1], by simp [h2], fun i hi => ?_⟩
   cases i with
   | zero =>
    unfold Jg at hb
    rw [Bool.and_eq_true, Bool.and_eq_true, numB_iff] at hb
    exact hb.2.1.2
   | succ i => exact h3 i (by simpa using hi)
  · cases h
 | [], _ :: _, _, h => by cases h
 | _ :: _, [], _, h => by cases h
theorem s_readN {n : Net} (hk : Vo n.N n.S n.T n.Arcs = 0) : ∀ (ws : List (List Str)) (first : Str) (f : List Int), (∀ w ∈ ws, w.length ≤ 9223372036854775807) → first ≠ [] → f.length ≤ n.Arcs.length →
    Ok (Uq (fun (s : Str × List Int) v => Jl n s.1 s.2 v) (first, f) ws) (fun t => match t with
      | .inl s => s.1 = first ∧ s.2.length ≤ n.Arcs.length ∧ (s.2.length = n.Arcs.length → ∃ g, s.2 = f ++ g ∧ Vi (n.Arcs.drop f.length) ws = some g) ∧ (s.2.length < n.Arcs.length → Vi (n.Arcs.drop f.length) ws = none)
      | .inr _ => Vi (n.Arcs.drop f.length) ws = none) := by
  have hz := Uk hk
  obtain ⟨m, hm⟩ : ∃ m : Nat, n.N = m := ⟨n.N.toNat, by omega⟩
  have he : Kp m n.Arcs := Z4i (by rw [← hm]; exact hz.2.2.2.1)
  intro ws
  induction ws with
  | nil =>
    intro first f _ hf hl
    refine Ok.some.2 ⟨rfl, hl, fun h => ⟨[], by simp, ?_⟩, fun h => ?_⟩
    · simp only at h
      rw [List.drop_eq_nil_of_le (by omega)]; rfl
    · rw [List.drop_eq_getElem_cons h]; rfl
  | cons w ws ih =>
    intro first f hw hf hl
    refine Ok.bind.2 ?_
    simp only
    unfold Jl
    rw [if_neg hf]
    refine Ok.ite.2 ⟨fun h => Ok.some.2 (Ok.some.2 ?_), fun h => ?_⟩
    · simp only
      rw [List.drop_eq_nil_of_le (by omega)]; rfl
    · have hlt : f.length < n.Arcs.length := by omega
      have h2 : 0 ≤ (n.Arcs.getD f.length default).fr ∧ (n.Arcs.getD f.length default).fr < m := by first | exact he f.length hlt true | exact he f.length hlt false
      have h3 : 0 ≤ (n.Arcs.getD f.length default).to ∧ (n.Arcs.getD f.length default).to < m := by first | exact he f.length hlt false | exact he f.length hlt true
      have hd : n.Arcs.drop f.length = n.Arcs.getD f.length default :: n.Arcs.drop (f.length + 1) := by
        rw [List.drop_eq_getElem_cons hlt, List.getD_eq_getElem?_getD, List.getElem?_eq_getElem hlt]; rfl
      refine Ok.gd.2 ⟨(by (first | omega | (constructor <;> omega) | (simp only [List.length_set, List.length_replicate]; omega) | (simp only [List.length_set, List.length_replicate]; constructor <;> omega))), Ok.bind.2 (Ok.mono (s_flowed w (by rw [Int.toNat_natCast]; omega) (by rw [Int.toNat_natCast]; omega) (hw _ (.head _))) ?_)⟩
      rw [Int.toNat_natCast]
      rintro ⟨x, b⟩ ⟨hb, hx⟩
      simp only at hb hx ⊢
      subst hb
      rw [hd]
      refine Ok.ite.2 ⟨fun h => Ok.some.2 (Ok.some.2 ?_), fun h => Ok.gd.2 ⟨?_, Ok.some.2 ?_⟩⟩
      · simp only
        rw [Vi, if_neg (by simpa using h)]
      · rw [List.length_append, List.length_singleton]; constructor <;> omega
      · have hb : Jg (n.Arcs.getD f.length default) w = true := by simpa using h
        simp only
        refine Ok.mono (ih first (f ++ [x]) (fun w' h => hw w' (.tail _ h)) hf (by rw [List.length_append, List.length_singleton]; omega)) fun t ht => ?_
        rw [List.length_append, List.length_singleton] at ht
        cases t with
        | inl s =>
          obtain ⟨g1, g2, g3, g4⟩ := ht
          refine ⟨g1, g2, fun h => ?_, fun h => ?_⟩
          · obtain ⟨g, h5, h6⟩ := g3 h
            refine ⟨x :: g, by rw [h5, List.append_assoc]; rfl, ?_⟩
            rw [Vi, if_pos hb, h6, hx hb]; rfl
          · rw [Vi, if_pos hb, g4 h]; rfl
        | inr s =>
          simp only at ht ⊢
          rw [Vi, if_pos hb, ht]; rfl
theorem s_read {n : Net} {t : Str} (hk : Vo n.N n.S n.T n.Arcs = 0) (hl : t.length ≤ 4294967296) (hw : ∀ w ∈ Wx t, w.length ≤ 9223372036854775807) :
    Ok (Z07 n (ub t)) (fun r => (r.2.2 = true ∧ ∃ ws, Wx t = [[115], r.1] :: ws ∧ Vi n.Arcs ws = some r.2.1) ∨ (r.2.2 = false ∧ ¬∃ first f ws, Wx t = [[115], first] :: ws ∧ Vi n.Arcs ws = some f)) := by
  unfold Z07 Lk
  rw [Option.bind_some, Z8b _ t _ hl]
  cases hs : Wx t with
  | nil => exact Ok.some.2 (.inr ⟨rfl, fun ⟨_, _, _, h, _⟩ => by cases h⟩)
  | cons w0 ws =>
    rw [hs] at hw
    have h1 := hw w0 (.head _)
    have hne := saidT_ne (t := t) (w := w0) (by rw [hs]; exact .head _)
    refine Ok.bind.2 (Ok.bind.2 ?_)
    simp only
    unfold Jl
    rw [if_pos rfl]
    have bad : ¬(w0.length = 2 ∧ w0.getD 0 [] = [115]) → ¬∃ (first : Str) (f : List Int) (ws' : List (List Str)), w0 :: ws = [[115], first] :: ws' ∧ Vi n.Arcs ws' = some f := by
      rintro h ⟨first, f, ws', e, -⟩
      injection e with e _
      exact h (by rw [e]; exact ⟨rfl, rfl⟩)
    have t2 : Ny [] [] w0 true = some (.inr ([], [])) := rfl
    refine Ok.ite.2 ⟨fun h => ?_, fun h => ?_⟩
    · rw [t2]
      exact Ok.some.2 (Ok.some.2 (Ok.some.2 (.inr ⟨rfl, bad (fun h2 => by omega)⟩)))
    · refine Ok.gd.2 ⟨(by (first | omega | (constructor <;> omega) | (simp only [List.length_set, List.length_replicate]; omega) | (simp only [List.length_set, List.length_replicate]; constructor <;> omega))), ?_⟩
      rw [Int.toNat_zero]
      by_cases h0 : w0.getD 0 [] = [115]
      · rw [decide_eq_false (by simpa using h0)]
        unfold Ny
        rw [if_neg (by simp)]
        obtain ⟨u, v, rfl⟩ : ∃ u v, w0 = [u, v] := by
          match w0, h with
          | [u, v], _ => exact ⟨u, v, rfl⟩
          | [], h => simp at h
          | [_], h => simp at h
          | _ :: _ :: _ :: _, h => simp at h; omega
        simp only [List.getD_cons_zero] at h0
        subst h0
        have hv : v ≠ [] := hne.2 v (by simp)
        refine Ok.gd.2 ⟨by constructor <;> simp, Ok.some.2 ?_⟩
        have e1 : List.getD [[115], v] (1 : Int).toNat ([] : Str) = v := rfl
        rw [e1]
        simp only
        refine Ok.mono (s_readN hk ws v [] (fun w h => hw w (.tail _ h)) hv (Nat.zero_le _)) fun t ht => ?_
        rw [List.length_nil, List.drop_zero] at ht
        cases t with
        | inl s =>
          obtain ⟨first, f⟩ := s
          obtain ⟨g1, g2, g3, g4⟩ := ht
          simp only at g1 g2 g3 g4 ⊢
          subst g1
          rw [if_pos hv]
          refine Ok.some.2 ?_
          by_cases h5 : f.length = n.Arcs.length
          · obtain ⟨g, h6, h7⟩ := g3 h5
            rw [List.nil_append] at h6
            exact .inl ⟨decide_eq_true (by omega), ws, rfl, by rw [h7, h6]⟩
          · refine .inr ⟨decide_eq_false (by omega), ?_⟩
            rintro ⟨_, f', ws', e, h7⟩
            injection e with _ e
            subst e
            rw [g4 (by omega)] at h7; cases h7
        | inr s =>
          refine Ok.some.2 (.inr ⟨rfl, ?_⟩)
          rintro ⟨_, f', ws', e, h7⟩
          injection e with _ e
          subst e
          simp only at ht
          rw [ht] at h7; cases h7
      · rw [decide_eq_true (by simpa using h0), t2]
        exact Ok.some.2 (Ok.some.2 (Ok.some.2 (.inr ⟨rfl, bad (fun h2 => h0 h2.2)⟩)))
theorem Z94 (l : Str) : (Wr l).length ≤ l.length + 1 := by
 have key : ∀ (l cur : Str), (Xc Wf l cur).length ≤ l.length + 1 := by
  intro l
  induction l with
  | nil => intro cur; rw [Xc]; split <;> simp
  | cons b l ih =>
   intro cur
   rw [Xc]
   split
   ·
    split
    · have := ih []; rw [List.length_cons]; omega
    · have := ih []; rw [List.length_cons, List.length_cons]; omega
   · have := ih (cur ++ [b]); rw [List.length_cons]; omega
 exact key l []
theorem Z5g {t : Str} (hl : t.length ≤ 4294967296) : ∀ w ∈ Wx t, w.length ≤ 9223372036854775807 := by
 intro w h
 obtain ⟨l, hm, hl'⟩ := List.mem_filterMap.1 h
 have h1 := Z20 t [] l hm
 have h2 := Z94 l
 rw [List.length_nil] at h1
 unfold Ut at hl'
 split at hl'
 · cases hl'
 ·
  split at hl'
  · cases hl'
  ·
   injection hl' with hl'
   rw [← hl']; omega
def Vw (n : Net) (f : List Int) : Int := ex n.Arcs f n.T n.Arcs.length
theorem Z1t {n : Net} {f : List Int} (hw : FwithinP n f) : -4611686018427387904 ≤ Vw n f ∧ Vw n f ≤ 4611686018427387904 := by
 have h1 := hw.tot n.Arcs.length (Nat.le_refl _)
 have h2 := ex_le (al := n.Arcs) (f := f) n.T (fun i hi => (hw.2.2 i hi).1) n.Arcs.length (Nat.le_refl _)
 unfold Vw
 omega
theorem Z5i {n : Net} {f : List Int} (hl : lenok n.Arcs.length) : Ok (Nt n f) (fun r => (FwithinP n f ∧ r = (Yj (Vw n f), 0)) ∨ (¬FwithinP n f ∧ r = ([], 20))) := by
 unfold Nt
 refine Ok.bind.2 (Ok.mono (s_Excess hl) ?_)
 rintro ⟨xs, e⟩ (⟨hw, h0, hxl, hx⟩ | ⟨h, h0⟩)
 ·
  simp only at h0 hxl hx ⊢
  subst h0
  rw [if_neg (by simp)]
  have hz := Uk hw.1
  simp only [Vb, decide_eq_true_eq] at hz
  have h5 := hx n.T.toNat (by omega)
  rw [Int.toNat_of_nonneg (by omega)] at h5
  have h6 := Z1t hw
  unfold Vw at h6
  refine Ok.gd.2 ⟨(by (first | omega | (constructor <;> omega) | (simp only [List.length_set, List.length_replicate]; omega) | (simp only [List.length_set, List.length_replicate]; constructor <;> omega))), ?_⟩
  unfold Gl Rd
  rw [h5]
  refine Ok.bind.2 (Ok.bind.2 (Ok.gd.2 ⟨⟨(by (first | omega | (constructor <;> omega) | (simp only [List.length_set, List.length_replicate]; omega) | (simp only [List.length_set, List.length_replicate]; constructor <;> omega))), rfl⟩, Ok.some.2 (Ok.some.2 (Ok.some.2 (.inl ⟨hw, rfl⟩)))⟩))
 ·
  injection h0 with h0 h1
  subst h0 h1
  simp only
  rw [if_pos (by simp)]
  exact Ok.some.2 (.inr ⟨h, rfl⟩)
theorem Z7a {n : Net} {t : Str} (hk : Vo n.N n.S n.T n.Arcs = 0) (hl : t.length ≤ 4294967296) :
    Ok (Kn n (ub t)) (fun r => (r.2 = 0 ∧ FwithinP n r.1 ∧ ∃ ws, Wx t = [[115], Yj (Vw n r.1)] :: ws ∧ Vi n.Arcs ws = some r.1) ∨ (r = ([], 70) ∧ ¬∃ f ws, Wx t = [[115], Yj (Vw n f)] :: ws ∧ Vi n.Arcs ws = some f)) := by
  have hz := Uk hk
  have hll : lenok n.Arcs.length := by omega
  unfold Kn
  refine Ok.bind.2 (Wn (Z0y n hll) ?_)
  rw [if_neg (by rw [hk]; simp)]
  refine Ok.bind.2 (Ok.mono (s_read hk hl (Z5g hl)) ?_)
  rintro ⟨first, f, b⟩ (⟨h1, ws, h2, h3⟩ | ⟨h1, h2⟩)
  · simp only at h1 h2 h3 ⊢
    subst h1
    rw [if_neg (by simp)]
    obtain ⟨g1, g2, g3⟩ := Z66 _ _ _ h3
    have hw : FwithinP n f := ⟨hk, g1, g3⟩
    refine Ok.bind.2 (Ok.mono (Z5i hll) ?_)
    rintro ⟨w, e⟩ (⟨-, h5⟩ | ⟨h5, -⟩)
    · injection h5 with h5 h6
      subst h5 h6
      simp only
      rw [if_neg (by simp)]
      by_cases h7 : Yj (Vw n f) = first
      · rw [decide_eq_false (by simpa using h7)]
        exact Ok.some.2 (.inl ⟨rfl, hw, ws, by rw [h2, h7], h3⟩)
      · rw [decide_eq_true (by simpa using h7)]
        refine Ok.some.2 (.inr ⟨rfl, ?_⟩)
        rintro ⟨f', ws', e1, e2⟩
        rw [h2] at e1
        injection e1 with e1 e3
        subst e3
        rw [h3] at e2
        injection e2 with e2
        subst e2
        injection e1 with _ e1
        injection e1 with e1 _
        exact h7 e1.symm
    · exact absurd hw h5
  · simp only at h1 h2 ⊢
    subst h1
    rw [if_pos (by simp)]
    exact Ok.some.2 (.inr ⟨rfl, fun ⟨f', ws', e1, e2⟩ => h2 ⟨_, f', ws', e1, e2⟩⟩)
end Go.Acq
namespace Go.Acq
open Go
def cleanT (w : Str) : Prop := w ≠ [] ∧ ∀ b ∈ w, 45 ≤ b.toNat ∧ b.toNat ≤ 57
theorem Vy {n : Int} (h : i64ok n) : cleanT (Yj n) ∧ (Yj n).length ≤ 21 := by
 have e20 : (10 : Nat) ^ 20 = 100000000000000000000 := by decide
 have key : ∀ u : Nat, u ≤ 9223372036854775808 → cleanT (Wb 20 u) ∧ (Wb 20 u).length ≤ 20 := fun u hu => by
  have h1 := Z3q 20 u (by rw [e20]; omega) (by omega)
  refine ⟨⟨fun e => by rw [e] at h1; simp at h1, fun b hb => ?_⟩, h1.2⟩
  have := List.all_eq_true.1 (Z3o 20 u) b hb
  have := of_decide_eq_true this
  omega
 unfold Yj
 split
 ·
  obtain ⟨⟨h1, h2⟩, h3⟩ := key n.natAbs (by omega)
  refine ⟨⟨by simp, fun b hb => ?_⟩, by rw [List.length_cons]; omega⟩
  rcases List.mem_cons.1 hb with rfl | hb
  · decide
  · exact h2 b hb
 ·
  obtain ⟨h1, h3⟩ := key n.toNat (by omega)
  exact ⟨h1, by omega⟩
theorem cleanT.ok {w : Str} (h : cleanT w) : okW w := ⟨h.1, fun b hb => by rw [Lq]; have := h.2 b hb; exact decide_eq_false (by omega)⟩
theorem cleanT.ten {w : Str} (h : cleanT w) : ∀ b ∈ w, b ≠ 10 := fun b hb e => by
 have := h.2 b hb
 subst e
 have : (10 : UInt8).toNat = 10 := rfl
 omega
theorem Z1n : Wf (32 : UInt8).toNat = true := by rw [Lq]; rfl
theorem Z67 {b : UInt8} (h : Wf b.toNat = false) : okW [b] := ⟨by simp, fun x hx => by rw [List.mem_singleton.1 hx]; exact h⟩
theorem words2 {b : UInt8} {w : Str} (h : Wf b.toNat = false) (hw : okW w) : Wr ([b, 32] ++ w) = [[b], w] := by
 unfold Wr
 rw [show [b, 32] ++ w = [b] ++ 32 :: w from rfl, Z23 (Z67 h) Z1n, Z7o hw]
theorem words4 {b : UInt8} {u v w : Str} (h : Wf b.toNat = false) (hu : okW u) (hv : okW v) (hw : okW w) : Wr ((((([b, 32] ++ u) ++ [32]) ++ v) ++ [32]) ++ w) = [[b], u, v, w] := by
 unfold Wr
 rw [show (((([b, 32] ++ u) ++ [32]) ++ v) ++ [32]) ++ w = [b] ++ 32 :: (u ++ 32 :: (v ++ 32 :: w)) by simp only [List.append_assoc, List.cons_append, List.nil_append], Z23 (Z67 h) Z1n, Z23 hu Z1n, Z23 hv Z1n, Z7o hw]
theorem Z41 {l : Str} {w : List Str} (h : Wr l = w) (h0 : w ≠ []) (h1 : (w.getD 0 []).getD 0 0 ≠ 99) : Ut l = some w := by
 unfold Ut
 rw [h, if_neg h0, if_neg h1]
def Ko (a : Arc) : Str := ((([102, 32] ++ Yj (a.fr + 1)) ++ [32]) ++ Yj (a.to + 1)) ++ [32]
def Vh : List Arc → List Int → Str
  | a :: al, x :: xs => (Ko a ++ Yj x ++ [10]) ++ Vh al xs
  | _, _ => []
def Kz (n : Net) (f : List Int) : Str := ([115, 32] ++ Yj (Vw n f) ++ [10]) ++ Vh n.Arcs f
def Lo : List Arc → List Int → List (List Str)
  | a :: al, x :: xs => [[102], Yj (a.fr + 1), Yj (a.to + 1), Yj x] :: Lo al xs
  | _, _ => []
def Z1v (al : List Arc) : Prop := ∀ a ∈ al, (0 ≤ a.fr ∧ a.fr ≤ 1000000) ∧ (0 ≤ a.to ∧ a.to ≤ 1000000) ∧ a.cap ≤ 9223372036854775807
theorem Z70 {a : Arc} (h : i64ok (a.fr + 1)) (g : i64ok (a.to + 1)) : (Ko a).length ≤ 46 := by
 have h1 := (Vy h).2
 have h2 := (Vy g).2
 unfold Ko
 simp only [List.length_append, List.length_cons, List.length_nil]
 omega
theorem s_arc {a : Arc} (h : i64ok (a.fr + 1)) (g : i64ok (a.to + 1)) : Z02 a = some (Ko a) := by
 have h1 := (Vy h).2
 have h2 := (Vy g).2
 unfold Z02 Gq
 rw [Xe h, Xe h, Option.bind_some]
 rw [Xe (by simp only [slok, List.length_append, List.length_cons, List.length_nil]; omega), Xe (by simp only [slok, List.length_append, List.length_cons, List.length_nil]; omega), Xe g, Xe g, Option.bind_some]
 rw [Xe (by simp only [slok, List.length_append, List.length_cons, List.length_nil]; omega), Xe (by simp only [slok, List.length_append, List.length_cons, List.length_nil]; omega)]
 rfl
theorem s_digits {n : Int} (h : i64ok n) : Gl n = some (Yj n) := by
 unfold Gl Rd
 rw [Xe ⟨h, rfl⟩]; rfl
theorem Z58 : ∀ (al : List Arc) (f : List Int), Z1v al → (∀ x ∈ f, i64ok x) → (Vh al f).length ≤ 70 * al.length
 | [], _, _, _ => by simp [Vh]
 | _ :: _, [], _, _ => by simp [Vh]
 | a :: al, x :: xs, h, hx => by
  obtain ⟨h1, h2, -⟩ := h a (.head _)
  have h3 := Z70 (a := a) (by omega) (by omega)
  have h4 := (Vy (hx x (.head _))).2
  have h5 := Z58 al xs (fun b hb => h b (.tail _ hb)) (fun y hy => hx y (.tail _ hy))
  rw [Vh]
  simp only [List.length_append, List.length_cons, List.length_nil]
  omega
theorem Z8z {al : List Arc} {f : List Int} {k : Nat} (h : k < al.length) (g : f.length = al.length) : Vh (al.drop k) (f.drop k) = (Ko (al.getD k default) ++ Yj (f.getD k 0) ++ [10]) ++ Vh (al.drop (k + 1)) (f.drop (k + 1)) := by
 have e1 : al.drop k = al.getD k default :: al.drop (k + 1) := by rw [List.drop_eq_getElem_cons h, List.getD_eq_getElem?_getD, List.getElem?_eq_getElem h]; rfl
 have e2 : f.drop k = f.getD k 0 :: f.drop (k + 1) := by rw [List.drop_eq_getElem_cons (by omega), List.getD_eq_getElem?_getD, List.getElem?_eq_getElem (by omega)]; rfl
 rw [e1, e2, Vh]
theorem FwithinP.arcs {n : Net} (hk : Vo n.N n.S n.T n.Arcs = 0) (hc : ∀ a ∈ n.Arcs, a.cap ≤ 9223372036854775807) : Z1v n.Arcs := by
 have hz := Uk hk
 obtain ⟨m, hm⟩ : ∃ m : Nat, n.N = m := ⟨n.N.toNat, by omega⟩
 have he : Kp m n.Arcs := Z4i (by rw [← hm]; exact hz.2.2.2.1)
 intro a ha
 obtain ⟨i, hi, rfl⟩ := List.mem_iff_getElem.1 ha
 have e : n.Arcs.getD i default = n.Arcs[i] := by rw [List.getD_eq_getElem?_getD, List.getElem?_eq_getElem hi]; rfl
 have h2 : 0 ≤ (n.Arcs.getD i default).fr ∧ (n.Arcs.getD i default).fr < m := by first | exact he i hi true | exact he i hi false
 have h3 : 0 ≤ (n.Arcs.getD i default).to ∧ (n.Arcs.getD i default).to < m := by first | exact he i hi false | exact he i hi true
 rw [e] at h2 h3
 exact ⟨by omega, by omega, hc _ ha⟩
theorem FwithinP.i64 {n : Net} {f : List Int} (h : FwithinP n f) (hc : ∀ a ∈ n.Arcs, a.cap ≤ 9223372036854775807) : ∀ x ∈ f, i64ok x := by
 intro x hx
 obtain ⟨i, hi, rfl⟩ := List.mem_iff_getElem.1 hx
 have h1 := h.2.1
 have h2 := h.2.2 i (by omega)
 have h3 := hc (n.Arcs.getD i default) (Kv (by omega) default)
 rw [List.getD_eq_getElem?_getD, List.getElem?_eq_getElem hi] at h2
 simp only [Option.getD_some] at h2
 constructor <;> omega
theorem Z60 {n : Net} {f : List Int} (hk : Vo n.N n.S n.T n.Arcs = 0) (hc : ∀ a ∈ n.Arcs, a.cap ≤ 9223372036854775807) : Ok (Jt n f) (fun r => (FwithinP n f ∧ r = (ub (Kz n f), 0)) ∨ (¬FwithinP n f ∧ r = ([], 20))) := by
 have hz := Uk hk
 have hll : lenok n.Arcs.length := by omega
 unfold Jt
 refine Ok.bind.2 (Wn (Z0y n hll) ?_)
 rw [if_neg (by rw [hk]; simp)]
 refine Ok.bind.2 (Ok.mono (Z5i hll) ?_)
 rintro ⟨w, e⟩ (⟨hw, h5⟩ | ⟨h5, h6⟩)
 ·
  injection h5 with h5 h6
  subst h5 h6
  simp only
  have ha := FwithinP.arcs hk hc
  have hx := hw.i64 hc
  have he := Z1t hw
  have hel := (Vy (n := Vw n f) (by omega)).2
  have hsl := Z58 n.Arcs f ha hx
  rw [if_neg (by simp), Xe (by simp only [slok, List.length_append, List.length_cons, List.length_nil]; omega), Xe (by simp only [slok, List.length_append, List.length_cons, List.length_nil]; omega), Xe (by rw [List.nil_append, Jb]; simp only [List.length_append, List.length_cons, List.length_nil]; omega)]
  refine Ok.bind.2 (Np (fun s => ∃ k : Nat, s.2 = k ∧ k ≤ n.Arcs.length ∧ s.1 ++ ub (Vh (n.Arcs.drop k) (f.drop k)) = ub (Kz n f)) (fun s => (n.Arcs.length - s.2).toNat) ⟨0, rfl, Nat.zero_le _, ?_⟩ (by unfold Yy; simp only; omega) ?_)
  ·
   simp only [List.drop_zero, List.nil_append]
   rw [← Z3i]; rfl
  ·
   rintro ⟨buf, x⟩ ⟨k, h1, h2, h3⟩ P next exit
   simp only at h1 h3 next ⊢
   subst h1
   unfold Z0u
   have hfl := hw.2.1
   have hlen := congrArg List.length h3
   rw [List.length_append, Jb, Jb] at hlen
   have hst : (Kz n f).length ≤ 100 + 70 * n.Arcs.length := by
    unfold Kz
    simp only [List.length_append, List.length_cons, List.length_nil]; omega
   refine Ok.ite.2 ⟨fun h => ?_, fun h => ?_⟩
   ·
    have hk2 : k < n.Arcs.length := by omega
    obtain ⟨g1, g2, -⟩ := ha _ (Kv hk2 default)
    have g3 := hx _ (Kv (xs := f) (k := k) (by omega) 0)
    have g4 := (Vy g3).2
    have g5 := Z70 (a := n.Arcs.getD k default) (by omega) (by omega)
    rw [Int.toNat_natCast]
    refine Ok.gd.2 ⟨(by (first | omega | (constructor <;> omega) | (simp only [List.length_set, List.length_replicate]; omega) | (simp only [List.length_set, List.length_replicate]; constructor <;> omega))), Ok.bind.2 (Wn (s_arc (by omega) (by omega)) (Ok.gd.2 ⟨(by (first | omega | (constructor <;> omega) | (simp only [List.length_set, List.length_replicate]; omega) | (simp only [List.length_set, List.length_replicate]; constructor <;> omega))), Ok.bind.2 (Wn (s_digits g3) ?_)⟩))⟩
    rw [Xe (by simp only [slok, List.length_append, List.length_cons, List.length_nil]; omega), Xe (by simp only [slok, List.length_append, List.length_cons, List.length_nil]; omega), Xe (by rw [List.length_append, Jb]; simp only [List.length_append, List.length_cons, List.length_nil]; omega), Xe (by constructor <;> omega)]
    refine Ok.some.2 (next _ ⟨k + 1, rfl, by omega, ?_⟩ (by simp only; omega))
    simp only
    rw [← h3, Z8z hk2 hfl, Z3i (Ko _ ++ _ ++ _), List.append_assoc]
   ·
    refine Ok.some.2 (exit _ ?_)
    unfold Z2q
    refine Ok.some.2 (.inl ⟨hw, ?_⟩)
    obtain rfl : k = n.Arcs.length := by omega
    rw [List.drop_eq_nil_of_le (Nat.le_refl _)] at h3
    have e : Vh [] (f.drop n.Arcs.length) = [] := by cases f.drop n.Arcs.length <;> rfl
    rw [e] at h3
    rw [← h3]; simp [ub]
 ·
  injection h6 with h6 h7
  subst h6 h7
  simp only
  rw [if_pos (by simp)]
  exact Ok.some.2 (.inr ⟨h5, rfl⟩)
theorem Z5y : ∀ (al : List Arc) (f : List Int), Z1v al → (∀ x ∈ f, i64ok x) → Wx (Vh al f) = Lo al f
 | [], f, _, _ => by cases f <;> rfl
 | _ :: _, [], _, _ => rfl
 | a :: al, x :: xs, h, hx => by
  obtain ⟨h1, h2, -⟩ := h a (.head _)
  have c1 := (Vy (n := a.fr + 1) (by omega)).1
  have c2 := (Vy (n := a.to + 1) (by omega)).1
  have c3 := (Vy (hx x (.head _))).1
  have b1 : Wf (102 : UInt8).toNat = false := by rw [Lq]; rfl
  rw [Vh, Lo, show (Ko a ++ Yj x ++ [10]) ++ Vh al xs = (Ko a ++ Yj x) ++ 10 :: Vh al xs by simp only [List.append_assoc, List.cons_append, List.nil_append]]
  rw [Z4g _ _ ?_, Z5y al xs (fun b hb => h b (.tail _ hb)) (fun y hy => hx y (.tail _ hy))]
  · rw [Z41 (show Wr (Ko a ++ Yj x) = _ from words4 b1 c1.ok c2.ok c3.ok) (by simp) (show (102 : UInt8) ≠ 99 by decide)]; rfl
  ·
   intro b hb
   unfold Ko at hb
   simp only [List.mem_append, List.mem_cons, List.not_mem_nil, or_false] at hb
   rcases hb with ((((hb | hb) | hb) | hb) | hb) | hb
   · rcases hb with rfl | rfl <;> decide
   · exact c1.ten b hb
   · subst hb; decide
   · exact c2.ten b hb
   · subst hb; decide
   · exact c3.ten b hb
theorem Z9l {n : Net} {f : List Int} (hw : FwithinP n f) (hc : ∀ a ∈ n.Arcs, a.cap ≤ 9223372036854775807) : Wx (Kz n f) = [[115], Yj (Vw n f)] :: Lo n.Arcs f := by
 have he := Z1t hw
 have c1 := (Vy (n := Vw n f) (by omega)).1
 have b1 : Wf (115 : UInt8).toNat = false := by rw [Lq]; rfl
 unfold Kz
 rw [show ([115, 32] ++ Yj (Vw n f) ++ [10]) ++ Vh n.Arcs f = ([115, 32] ++ Yj (Vw n f)) ++ 10 :: Vh n.Arcs f by simp only [List.append_assoc, List.cons_append, List.nil_append]]
 rw [Z4g _ _ ?_, Z5y _ _ (FwithinP.arcs hw.1 hc) (hw.i64 hc), Z41 (words2 b1 c1.ok) (by simp) (show (115 : UInt8) ≠ 99 by decide)]
 · rfl
 ·
  intro b hb
  simp only [List.mem_append, List.mem_cons, List.not_mem_nil, or_false] at hb
  rcases hb with hb | hb
  · rcases hb with rfl | rfl <;> decide
  · exact c1.ten b hb
theorem Z6a : ∀ (al : List Arc) (f : List Int), Z1v al → f.length = al.length → (∀ i, i < al.length → 0 ≤ f.getD i 0 ∧ f.getD i 0 ≤ (al.getD i default).cap) → Vi al (Lo al f) = some f
 | [], [], _, _, _ => rfl
 | a :: al, x :: xs, h, hl, hi => by
  obtain ⟨h1, h2, h3⟩ := h a (.head _)
  have h0 := hi 0 (by simp)
  simp only [List.getD_cons_zero] at h0
  rw [Lo, Vi]
  have hb : Jg a [[102], Yj (a.fr + 1), Yj (a.to + 1), Yj x] = true := by
   unfold Jg
   simp only [List.getD_cons_zero, List.getD_cons_succ, List.length_cons, List.length_nil]
   rw [Z2z h0.1 (by omega) h0.1 h0.2, Z2z (by omega) (by omega) (Int.le_refl _) (Int.le_refl _), Z2z (by omega) (by omega) (Int.le_refl _) (Int.le_refl _)]
   rfl
  rw [if_pos hb, Z6a al xs (fun b hb => h b (.tail _ hb)) (by simpa using hl) (fun i hlt => hi (i + 1) (by simp; omega))]
  have : flowV [[102], Yj (a.fr + 1), Yj (a.to + 1), Yj x] = x := by
   unfold flowV
   simp only [List.getD_cons_zero, List.getD_cons_succ]
   rw [Z3n h0.1 (by omega)]
  rw [this]; rfl
 | [], _ :: _, _, h, _ => by simp at h
 | _ :: _, [], _, h, _ => by simp at h
theorem solT_len {n : Net} {f : List Int} (hw : FwithinP n f) (hc : ∀ a ∈ n.Arcs, a.cap ≤ 9223372036854775807) : (Kz n f).length ≤ 4294967296 := by
 have hz := Uk hw.1
 have he := Z1t hw
 have hel := (Vy (n := Vw n f) (by omega)).2
 have hsl := Z58 n.Arcs f (FwithinP.arcs hw.1 hc) (hw.i64 hc)
 unfold Kz
 simp only [List.length_append, List.length_cons, List.length_nil]; omega
theorem Z5v {n : Net} {f : List Int} (hw : FwithinP n f) (hc : ∀ a ∈ n.Arcs, a.cap ≤ 9223372036854775807) : Ok (Kn n (ub (Kz n f))) (fun r => r = (f, 0)) := by
 refine Ok.mono (Z7a hw.1 (solT_len hw hc)) ?_
 have h1 := Z9l hw hc
 have h2 := Z6a n.Arcs f (FwithinP.arcs hw.1 hc) hw.2.1 hw.2.2
 rintro ⟨g, e⟩ (⟨h, -, ws, h3, h4⟩ | ⟨-, h⟩)
 ·
  simp only at h h3 h4
  subst h
  rw [h1] at h3
  injection h3 with _ h3
  subst h3
  rw [h2] at h4
  injection h4 with h4
  rw [h4]
 · exact absurd ⟨f, _, h1, h2⟩ h
def Vk : Nat → List Bool → Str
  | _, [] => []
  | i, b :: s => (if b = true then [107, 32] ++ Yj (i + 1) ++ [10] else []) ++ Vk (i + 1) s
def Lp : Nat → List Bool → List (List Str)
  | _, [] => []
  | i, b :: s => if b = true then [[107], Yj (i + 1)] :: Lp (i + 1) s else Lp (i + 1) s
def Kc (N : Int) : Int → List Bool → List (List Str) → Option (List Bool)
  | _, xs, [] => some xs
  | last, xs, w :: ws => if (w.length = 2 ∧ w.getD 0 [] = [107]) ∧ Kq (w.getD 1 []) (last + 1) N = true then Kc N (Wk (w.getD 1 [])).1 (xs.set ((Wk (w.getD 1 [])).1 - 1).toNat true) ws else none
theorem Z55 : ∀ (s : List Bool) (i : Nat), i + s.length ≤ 1000000 → (Vk i s).length ≤ 30 * s.length
 | [], i, _ => by simp [Vk]
 | b :: s, i, h => by
  rw [List.length_cons] at h
  have h1 := Z55 s (i + 1) (by omega)
  have h2 := (Vy (n := (i : Int) + 1) (by omega)).2
  rw [Vk, List.length_append]
  split <;> simp only [List.length_append, List.length_cons, List.length_nil] <;> omega
theorem Z86 : ∀ (s : List Bool) (i : Nat), i + s.length ≤ 1000000 → Wx (Vk i s) = Lp i s
 | [], i, _ => rfl
 | b :: s, i, h => by
  rw [List.length_cons] at h
  have h1 := Z86 s (i + 1) (by omega)
  have c1 := (Vy (n := (i : Int) + 1) (by omega)).1
  have b1 : Wf (107 : UInt8).toNat = false := by rw [Lq]; rfl
  rw [Vk, Lp]
  split
  ·
   rw [show ([107, 32] ++ Yj ((i : Int) + 1) ++ [10]) ++ Vk (i + 1) s = ([107, 32] ++ Yj ((i : Int) + 1)) ++ 10 :: Vk (i + 1) s by simp only [List.append_assoc, List.cons_append, List.nil_append]]
   rw [Z4g _ _ ?_, h1, Z41 (words2 b1 c1.ok) (by simp) (show (107 : UInt8) ≠ 99 by decide)]
   · rfl
   ·
    intro b hb
    simp only [List.mem_append, List.mem_cons, List.not_mem_nil, or_false] at hb
    rcases hb with hb | hb
    · rcases hb with rfl | rfl <;> decide
    · exact c1.ten b hb
  · rw [List.nil_append, h1]
theorem Z4z (N : Int) : ∀ (s : List Bool) (i : Nat) (last : Int) (pre : List Bool), pre.length = i → 0 ≤ last → last ≤ i → (i : Int) + s.length = N → N ≤ 1000000 → Kc N last (pre ++ List.replicate s.length false) (Lp i s) = some (pre ++ s)
 | [], i, last, pre, _, _, _, _, _ => rfl
 | b :: s, i, last, pre, h1, h2, h3, h4, h5 => by
  rw [List.length_cons] at h4
  rw [Lp]
  have hstep : ∀ b, pre ++ b :: List.replicate s.length false = (pre ++ [b]) ++ List.replicate s.length false := fun b => by rw [List.append_assoc]; rfl
  split
  ·
   rename_i hb
   have e1 : List.getD [[107], Yj ((i : Int) + 1)] 1 [] = Yj ((i : Int) + 1) := rfl
   rw [Kc, e1, if_pos ⟨⟨rfl, rfl⟩, Z2z (by omega) (by omega) (by omega) (by omega)⟩, Z3n (by omega) (by omega)]
   simp only
   have e2 : (((i : Int) + 1) - 1).toNat = i := by omega
   rw [e2, List.length_cons, List.replicate_succ, List.set_append_right _ _ (by omega), h1, Nat.sub_self, List.set_cons_zero, hstep, hb]
   rw [Z4z N s (i + 1) ((i : Int) + 1) (pre ++ [true]) (by rw [List.length_append, h1]; rfl) (by omega) (by omega) (by omega) h5, List.append_assoc]
   rfl
  ·
   rename_i hb
   rw [List.length_cons, List.replicate_succ, hstep, Z4z N s (i + 1) last (pre ++ [false]) (by rw [List.length_append, h1]; rfl) h2 (by omega) (by omega) h5, List.append_assoc]
   have : b = false := by cases b; rfl; exact absurd rfl hb
   rw [this]; rfl
theorem Z9x {s : List Bool} {k : Nat} (h : k < s.length) : Vk k (s.drop k) = (if s.getD k false = true then [107, 32] ++ Yj ((k : Int) + 1) ++ [10] else []) ++ Vk (k + 1) (s.drop (k + 1)) := by
 have e1 : s.drop k = s.getD k false :: s.drop (k + 1) := by rw [List.drop_eq_getElem_cons h, List.getD_eq_getElem?_getD, List.getElem?_eq_getElem h]; rfl
 rw [e1, Vk]
theorem s_Cut {n : Net} {s : List Bool} (hk : Vo n.N n.S n.T n.Arcs = 0) (hl : lenok n.Arcs.length) (hs : (s.length : Int) = n.N) : Gm n s = some (ub (Vk 0 s), 0) := by
 have hz := Uk hk
 refine Gj ?_
 unfold Gm
 refine Ok.bind.2 (Wn (Z0y n hl) ?_)
 rw [if_neg (by rw [hk]; simp), if_neg (by omega)]
 have hcl := Z55 s 0 (by omega)
 refine Ok.bind.2 (Np (fun t => ∃ k : Nat, t.2 = k ∧ k ≤ s.length ∧ t.1 ++ ub (Vk k (s.drop k)) = ub (Vk 0 s)) (fun t => (s.length - t.2).toNat) ⟨0, rfl, Nat.zero_le _, rfl⟩ (by unfold Yy; simp only; omega) ?_)
 rintro ⟨buf, x⟩ ⟨k, h1, h2, h3⟩ P next exit
 simp only at h1 h3 next ⊢
 subst h1
 unfold Rj
 have hlen := congrArg List.length h3
 rw [List.length_append, Jb, Jb] at hlen
 refine Ok.ite.2 ⟨fun h => ?_, fun h => ?_⟩
 ·
  have hk2 : k < s.length := by omega
  have c1 := (Vy (n := (k : Int) + 1) (by omega)).2
  rw [Z9x hk2] at h3
  rw [Int.toNat_natCast]
  refine Ok.gd.2 ⟨(by (first | omega | (constructor <;> omega) | (simp only [List.length_set, List.length_replicate]; omega) | (simp only [List.length_set, List.length_replicate]; constructor <;> omega))), Ok.ite.2 ⟨fun hb => ?_, fun hb => ?_⟩⟩
  ·
   rw [if_pos hb] at h3
   unfold Gq
   refine Ok.gd.2 ⟨(by (first | omega | (constructor <;> omega) | (simp only [List.length_set, List.length_replicate]; omega) | (simp only [List.length_set, List.length_replicate]; constructor <;> omega))), Ok.bind.2 (Ok.gd.2 ⟨(by (first | omega | (constructor <;> omega) | (simp only [List.length_set, List.length_replicate]; omega) | (simp only [List.length_set, List.length_replicate]; constructor <;> omega))), Ok.some.2 ?_⟩)⟩
   rw [Xe (by simp only [slok, List.length_append, List.length_cons, List.length_nil]; omega), Xe (by simp only [slok, List.length_append, List.length_cons, List.length_nil]; omega), Xe (by rw [List.length_append, Jb]; simp only [List.length_append, List.length_cons, List.length_nil]; omega), Xe (by constructor <;> omega)]
   refine Ok.some.2 (next _ ⟨k + 1, rfl, by omega, ?_⟩ (by simp only; omega))
   simp only
   rw [← h3, Z3i ([107, 32] ++ _ ++ _), List.append_assoc]
  ·
   rw [if_neg hb, List.nil_append] at h3
   exact Ok.gd.2 ⟨(by (first | omega | (constructor <;> omega) | (simp only [List.length_set, List.length_replicate]; omega) | (simp only [List.length_set, List.length_replicate]; constructor <;> omega))), Ok.some.2 (next _ ⟨k + 1, rfl, by omega, h3⟩ (by simp only; omega))⟩
 ·
  refine Ok.some.2 (exit _ ?_)
  unfold Z1o
  refine Ok.some.2 ?_
  obtain rfl : k = s.length := by omega
  rw [List.drop_eq_nil_of_le (Nat.le_refl _)] at h3
  rw [← h3]; simp [Vk, ub]
theorem Za5 {n : Net} (hN : 0 ≤ n.N ∧ n.N ≤ 1000000) : ∀ (ws : List (List Str)) (x last : Int) (xs : List Bool), (∀ w ∈ ws, w.length ≤ 9223372036854775807) → (xs.length : Int) = n.N → 0 ≤ last → last ≤ n.N →
    Ok (Uq (fun (s : Int × List Bool × Int) v => Gv n s.1 s.2.1 s.2.2 v) (x, xs, last) ws) (fun t => match t with
      | .inl s => Kc n.N last xs ws = some s.2.1 ∧ (s.2.1.length : Int) = n.N
      | .inr s => Kc n.N last xs ws = none ∧ s.1 = 70) := by
  intro ws
  induction ws with
  | nil => intro x last xs _ h1 _ _; exact Ok.some.2 ⟨rfl, h1⟩
  | cons w ws ih =>
    intro x last xs hw h1 h2 h3
    refine Ok.bind.2 ?_
    simp only
    unfold Gv
    have t2 : Ra n x xs last w true = some (.inr (70, xs, last)) := rfl
    have hw0 := hw w (.head _)
    refine Ok.ite.2 ⟨fun h => ?_, fun h => ?_⟩
    · rw [t2]
      refine Ok.some.2 (Ok.some.2 ⟨?_, rfl⟩)
      rw [Kc, if_neg (fun h2 => by omega)]
    · refine Ok.gd.2 ⟨(by (first | omega | (constructor <;> omega) | (simp only [List.length_set, List.length_replicate]; omega) | (simp only [List.length_set, List.length_replicate]; constructor <;> omega))), ?_⟩
      rw [Int.toNat_zero]
      by_cases h0 : w.getD 0 [] = [107]
      · rw [decide_eq_false (by simpa using h0)]
        unfold Ra
        rw [if_neg (by simp)]
        refine Ok.gd.2 ⟨(by (first | omega | (constructor <;> omega) | (simp only [List.length_set, List.length_replicate]; omega) | (simp only [List.length_set, List.length_replicate]; constructor <;> omega))), Ok.gd.2 ⟨(by (first | omega | (constructor <;> omega) | (simp only [List.length_set, List.length_replicate]; omega) | (simp only [List.length_set, List.length_replicate]; constructor <;> omega))), Ok.bind.2 (Wn (Z1k ..) ?_)⟩⟩
        have e1 : (1 : Int).toNat = 1 := rfl
        rw [e1]
        simp only
        refine Ok.ite.2 ⟨fun h4 => Ok.some.2 (Ok.some.2 ⟨?_, rfl⟩), fun h4 => ?_⟩
        · rw [Kc, if_neg (fun h5 => by rw [h5.2] at h4; simp at h4)]
        · have h5 : Kq (w.getD 1 []) (last + 1) n.N = true := by simpa using h4
          have h6 := numB_iff.1 h5
          refine Ok.gd.2 ⟨(by (first | omega | (constructor <;> omega) | (simp only [List.length_set, List.length_replicate]; omega) | (simp only [List.length_set, List.length_replicate]; constructor <;> omega))), Ok.gd.2 ⟨by constructor <;> omega, Ok.some.2 ?_⟩⟩
          simp only
          refine Ok.mono (ih x (Wk (w.getD 1 [])).1 (xs.set ((Wk (w.getD 1 [])).1 - 1).toNat true) (fun w' h => hw w' (.tail _ h)) (by rw [List.length_set]; exact h1) (by omega) h6.2.2) fun t ht => ?_
          rw [Kc, if_pos ⟨⟨by omega, h0⟩, h5⟩]
          exact ht
      · rw [decide_eq_true (by simpa using h0), t2]
        refine Ok.some.2 (Ok.some.2 ⟨?_, rfl⟩)
        rw [Kc, if_neg (fun h5 => h0 h5.1.2)]
theorem Z76 {n : Net} {t : Str} (hk : Vo n.N n.S n.T n.Arcs = 0) (hl : t.length ≤ 4294967296) :
    Ok (Km n (ub t)) (fun r => (r.2 = 0 ∧ (r.1.length : Int) = n.N ∧ Kc n.N 0 (List.replicate n.N.toNat false) (Wx t) = some r.1) ∨ (r = ([], 70) ∧ Kc n.N 0 (List.replicate n.N.toNat false) (Wx t) = none)) := by
  have hz := Uk hk
  have hll : lenok n.Arcs.length := by omega
  unfold Km Lk
  refine Ok.bind.2 (Wn (Z0y n hll) ?_)
  rw [if_neg (by rw [hk]; simp)]
  refine Ok.gd.2 ⟨(by (first | omega | (constructor <;> omega) | (simp only [List.length_set, List.length_replicate]; omega) | (simp only [List.length_set, List.length_replicate]; constructor <;> omega))), ?_⟩
  rw [Option.bind_some, Z8b _ t _ hl]
  refine Ok.bind.2 (Ok.mono (Za5 (n := n) (by omega) (Wx t) 0 0 (List.replicate n.N.toNat false) (Z5g hl) (by rw [List.length_replicate]; omega) (by omega) (by omega)) fun r hr => ?_)
  cases r with
  | inl s => obtain ⟨h1, h2⟩ := hr; exact Ok.some.2 (.inl ⟨rfl, h2, h1⟩)
  | inr s =>
    obtain ⟨x, xs, last⟩ := s
    obtain ⟨h1, h2⟩ := hr
    simp only at h2
    subst h2
    exact Ok.some.2 (.inr ⟨rfl, h1⟩)
theorem Z6e {n : Net} {s : List Bool} (hk : Vo n.N n.S n.T n.Arcs = 0) (hs : (s.length : Int) = n.N) : Ok (Km n (ub (Vk 0 s))) (fun r => r = (s, 0)) := by
 have hz := Uk hk
 have h0 := Z55 s 0 (by omega)
 refine Ok.mono (Z76 hk (by omega)) ?_
 have h1 := Z86 s 0 (by omega)
 have h2 := Z4z n.N s 0 0 [] rfl (by omega) (by omega) (by omega) (by omega)
 rw [List.nil_append, List.nil_append] at h2
 have e : n.N.toNat = s.length := by omega
 rw [h1, e, h2]
 rintro ⟨g, e⟩ (⟨h, -, h4⟩ | ⟨-, h⟩)
 ·
  simp only at h h4
  injection h4 with h4
  rw [h, h4]
 · cases h
end Go.Acq
namespace Go.Acq
open Go
structure BytesIn (l : List Int) : Prop where
  row : ∀ x, x ∈ l → u8ok x
  len : l.length ≤ 9223372036854775807
set_option maxRecDepth 100000 in
theorem Zb5 : Nm = some true := by decide +kernel
theorem p_SayBack {n : Net} {l : List Int} {marks : List Bool} {b : List Int} (hn : NetIn n) (hl : RowIn l) (hm : marks.length ≤ 9223372036854775807) (hb : BytesIn b) : Z2p n l marks b = some true := by
 refine Gj ?_
 unfold Z2p
 refine Ok.bind.2 (Ok.mono (s_Some hn (by omega) (by omega) (by omega) (by omega)) fun r hr => ?_)
 have hlen := hr.arcs
 have hv := hr.verts
 have hends := hr.ends
 obtain ⟨m, hmm, hso⟩ := hr.nat
 have hcaps := Zb2 hso
 have hk := hr.check
 have hc : ∀ a ∈ r.Arcs, a.cap ≤ 9223372036854775807 := fun a ha => by
  obtain ⟨i, hi, rfl⟩ := List.mem_iff_getElem.1 ha
  have := (hcaps i hi).2
  rw [List.getD_eq_getElem?_getD, List.getElem?_eq_getElem hi] at this
  simp only [Option.getD_some] at this
  omega
 have hll : lenok r.Arcs.length := by omega
 refine Ok.bind.2 (Ok.mono (s_Within (by omega) (fun i hi => (hcaps i hi).1) hl) fun f hf => ?_)
 have hw : FwithinP r f := ⟨hk, hf.1, fun i hi => ⟨(hf.2.1 i hi).1, (hf.2.1 i hi).2.1⟩⟩
 have hfl := hf.1
 refine Ok.gd.2 ⟨(by (first | omega | (constructor <;> omega) | (simp only [List.length_set, List.length_replicate]; omega) | (simp only [List.length_set, List.length_replicate]; constructor <;> omega))), ?_⟩
 have aw : Ok (Option.bind Nm fun r81 => some r81) (fun a => a = true) := Ok.bind.2 (Wn Zb5 (Ok.some.2 rfl))
 refine Ok.ite.2 ⟨fun _ => aw, fun hbl => ?_⟩
 obtain ⟨s, hs⟩ : ∃ s, Uh (List.replicate r.N.toNat false) marks = s := ⟨_, rfl⟩
 have hsl : (s.length : Int) = r.N := by rw [← hs, Z4y (n := r.N.toNat) (by rw [List.length_replicate])]; omega
 rw [hs]
 have hub := ub_bu hb.row
 have hbl2 : (bu b).length ≤ 4294967296 := by unfold bu; rw [List.length_map]; omega
 refine Ok.bind.2 (Ok.mono (Z60 hk hc) ?_)
 rintro _ (⟨-, rfl⟩ | ⟨h, -⟩)
 rotate_left
 · exact absurd hw h
 refine Ok.bind.2 (Ok.mono (Z5v hw hc) ?_)
 rintro _ rfl
 refine Ok.bind.2 (Wn (s_Cut hk hll hsl) ?_)
 refine Ok.bind.2 (Ok.mono (Z6e hk hsl) ?_)
 rintro _ rfl
 simp only
 rw [if_neg (by simp)]
 unfold Z0l Rz Rk Z0t Z0n
 rw [if_neg (by simp), if_neg (by simp), if_neg (by simp), Z88 (by omega), Option.bind_some, if_neg (by simp), hs, Z7r (by omega), Option.bind_some, if_neg (by simp)]
 have j6 : Ok (Le b r) (fun a => a = true) := by
  unfold Le Z0s
  rw [← hub]
  refine Ok.bind.2 (Ok.mono (Z76 hk hbl2) ?_)
  rintro ⟨u, e⟩ (⟨h1, h2, -⟩ | ⟨h1, -⟩)
  ·
   simp only at h1 h2 ⊢
   subst h1
   rw [if_pos rfl]
   refine Ok.bind.2 (Wn (s_Cut hk hll h2) ?_)
   refine Ok.bind.2 (Ok.mono (Z6e hk h2) ?_)
   rintro _ rfl
   simp only
   rw [if_neg (by simp), if_neg (by simp), Z7r (by omega), Option.bind_some, if_neg (by simp), if_neg (by omega)]
   exact aw
  ·
   injection h1 with h1 h2
   subst h1 h2
   simp only
   rw [if_neg (by simp)]
   exact aw
 rw [← hub]
 refine Ok.bind.2 (Ok.mono (Z7a hk hbl2) ?_)
 rw [hub]
 rintro ⟨u, e⟩ (⟨h1, h2, -⟩ | ⟨h1, -⟩)
 ·
  simp only at h1 h2 ⊢
  subst h1
  rw [if_pos rfl]
  have h3 := h2.2.1
  refine Ok.bind.2 (Ok.mono (Z60 hk hc) ?_)
  rintro _ (⟨-, rfl⟩ | ⟨h, -⟩)
  rotate_left
  · exact absurd h2 h
  refine Ok.bind.2 (Ok.mono (Z5v h2 hc) ?_)
  rintro _ rfl
  simp only
  rw [if_neg (by simp), if_neg (by simp), Z88 (by omega), Option.bind_some, if_neg (by simp)]
  refine Ok.bind.2 (Ok.mono (Z69 hll) fun w hw2 => ?_)
  rw [hw2.2 h2, if_neg (by simp)]
  exact j6
 ·
  injection h1 with h1 h2
  subst h1 h2
  simp only
  rw [if_neg (by simp)]
  exact j6
end Go.Acq
