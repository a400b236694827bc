/- Texts of this claim, one behind the other. -/
import Derived.Test.YtnppjbofdkokkaaGreatDoorA2
import Derived.Test.YtnppjbofdkokkaaGreatDoorA1
import Derived.Lib.ParseIntBTie
set_option linter.unusedVariables false
set_option linter.unusedSimpArgs false
namespace Go.Proofs.YtnppjbofdkokkaaGreatDoor.Ax
open Go Go.Acq Go.RowKit Go.Proofs
set_option maxHeartbeats 8000000
set_option maxRecDepth 20000
theorem Z79 : Z2t Tryz.prog 58 = some 24 := by kernel_rfl
theorem Z5u : Ya Tryz.prog 108 = true := by kernel_rfl
theorem Z7e : Ya Tryz.prog 12 = true := by kernel_rfl
theorem Z4a : Ya Tryz.prog 13 = true := by kernel_rfl
theorem Z3k : Ya Tryz.prog 134 = true := by kernel_rfl
theorem Z4q : Ya Tryz.prog 135 = true := by kernel_rfl
theorem Z3w : Ya Tryz.prog 136 = true := by kernel_rfl
theorem Z7w : Ya Tryz.prog 166 = true := by kernel_rfl
theorem Z6c : Ya Tryz.prog 168 = true := by kernel_rfl
theorem Gu : Ya Tryz.prog 169 = true := by kernel_rfl
theorem Rd : Ya Tryz.prog 170 = true := by kernel_rfl
theorem Kn : Ya Tryz.prog 171 = true := by kernel_rfl
theorem Jz : Ya Tryz.prog 172 = true := by kernel_rfl
theorem Gd : Ya Tryz.prog 33 = true := by kernel_rfl
theorem Z0i : Ya Tryz.prog 41 = true := by kernel_rfl
theorem Z6g : Ya Tryz.prog 42 = true := by kernel_rfl
theorem Z9h : Ya Tryz.prog 49 = true := by kernel_rfl
theorem Gh : Ya Tryz.prog 96 = true := by kernel_rfl
theorem Z8a : Ya Tryz.prog 97 = true := by kernel_rfl
theorem Z4u : Ya Tryz.prog 98 = true := by kernel_rfl
theorem Xf : Ya Tryz.prog 99 = true := by kernel_rfl
theorem Z8b : Lo Tryz.prog 58 [.i64, .i64, .i64] = true := by kernel_rfl
theorem Uk : Wc Tryz.prog 138 0 = some 0 := by kernel_rfl
theorem Xw : Wc Tryz.prog 138 1 = some 4 := by kernel_rfl
theorem Z1h : Wc Tryz.prog 138 2 = some 5 := by kernel_rfl
theorem Vt : Wc Tryz.prog 138 3 = some 6 := by kernel_rfl
theorem Ui : Xj Tryz.prog 43 = some 9 := by kernel_rfl
theorem Xu : Kf Tryz.prog 136 = some 3 := by kernel_rfl
theorem Vb : Kf Tryz.prog 176 = some 1 := by kernel_rfl
theorem Z66 : Ym Tryz.prog 134 = some 0 := by kernel_rfl
theorem Z83 : Ym Tryz.prog 135 = some 1 := by kernel_rfl
theorem TWPDM.n2 : Ym Tryz.prog 2 = some 1 := by kernel_rfl
theorem Z7u : Ym Tryz.prog 22 = some 1 := by kernel_rfl
theorem Ky : Ym Tryz.prog 24 = some 4 := by kernel_rfl
theorem Z9i : Ym Tryz.prog 25 = some 1 := by kernel_rfl
theorem Z2m : Ym Tryz.prog 3 = some 1 := by kernel_rfl
theorem Z5f : Ym Tryz.prog 4 = some 1 := by kernel_rfl
theorem Z8o : Ym Tryz.prog 43 = some 1 := by kernel_rfl
theorem Kw : Ym Tryz.prog 9 = some 1 := by kernel_rfl
theorem Wh : Xk Tryz.prog 135 = true := by kernel_rfl
theorem Xy : Xk Tryz.prog 136 = true := by kernel_rfl
theorem Km : Xk Tryz.prog 25 = true := by kernel_rfl
theorem Ng : Xk Tryz.prog 4 = true := by kernel_rfl
theorem Ua : Xk Tryz.prog 43 = true := by kernel_rfl
theorem Jb : Xk Tryz.prog 9 = true := by kernel_rfl
theorem Z8m : (match Tryz.prog.underlying 134 with | some (.struct _) => true | _ => false) = true := by kernel_rfl
theorem Z43 : Jx Tryz.prog 20 = true := by kernel_rfl
theorem Z0o : Xr Tryz.prog 1 = some (.nilFunc) := by kernel_rfl
theorem Z77 : Xr Tryz.prog 134 = some (.agg #[]) := by kernel_rfl
theorem Za0 : Xr Tryz.prog 135 = some (.pointer none) := by kernel_rfl
theorem Ls : Xr Tryz.prog 24 = some (.agg #[iV 0, iV 0, iV 0, .slice none 0 0]) := by kernel_rfl
theorem Wa : Xr Tryz.prog 3 = some (iV 0) := by kernel_rfl
theorem TWPDM.z4 : Xr Tryz.prog 4 = some (.bool false) := by kernel_rfl
theorem Z4y : Xr Tryz.prog 5 = some (.int .u8 0) := by kernel_rfl
theorem Z74 : ElemT Tryz.prog 22 58 3 24 (.agg #[iV 0, iV 0, iV 0]) := ⟨Wx, Kj, Z79, Rh, rfl⟩
theorem Xg (w : World) {is0 : Bool} {q_ : Unit ⊕ Unit} (H : Xm is0 = some q_) : FncS Tryz.prog 99 #[.bool is0] w [] (.iface 134 (.agg #[])) q_ (fun r_ => fun v N => v = .tuple #[] ∧ N = []) := by
 unfold Xm at H; refine FncS.enter (vs := [.bool is0]) Tryz.func99 rfl rfl (Inv.refl w) ?_; refine sR Y2 rfl ?_; refine Zb Za ?_; refine TO.not Za ?_; refine dN ?_; refine T.cond (b := !is0) rfl (fun h => ?_) (fun h => ?_)
 ·
  have hb : is0 = false := by cases is0 <;> simp_all
  subst hb; obtain rfl := ret1 H; refine rG Y3 rfl ?_; refine Vh (cs := []) (vs := []) [] [] Za rfl (by kernel_rfl) ?_; refine Z8j (fun w => by kernel_rfl) Za ?_; refine Z60 Zk ?_; exact Xa Zk
 ·
  have hb : is0 = true := by cases is0 <;> simp_all
  subst hb; obtain rfl := ret1 H; refine T.skip ?_; refine Us ?_; show X _ (bodyPost _ _ (Xd _ _ _)) _ _ _; exact Vo Za Zh ⟨rfl, rfl⟩
theorem Ko {pr0 : DimacsReader} {at1 low2 high3 : Int} {a9 a2 a4 a6 a8 : Nat} {a3 a5 : Option Addr} {b3 : Option Nat} (w : World) (b6 : RS w [] Zl 3 a3 a2 a4 pr0.n.Arcs) (a7 : RS w [] Ye 1 a5 a6 a8 pr0.words) (b5 : HB w [] a9 [iV pr0.n.N, iV pr0.n.S, iV pr0.n.T, .slice a3 a2 a4, .map b3, iV pr0.arcs, .slice a5 a6 a8]) (hG : GK Tryz.prog w []) {q_ : (Int) ⊕ Unit} (H : Nj pr0 at1 low2 high3 = some q_) : FncS Tryz.prog 171 #[pV a9, iV at1, iV low2, iV high3] w [] (.iface 134 (.agg #[])) q_ (fun r_ => fun v N => v = iV r_ ∧ N = []) := by
 unfold Nj at H; refine FncS.enter (vs := [pV a9, iV at1, iV low2, iV high3]) Tryz.func171 rfl rfl (Inv.refl w) ?_; refine sR Y1 rfl ?_; refine aN Za ?_; refine Zs ?_; obtain ⟨g1, H⟩ := Yv H; obtain ⟨⟨r2, r3⟩, e4, H⟩ := Zp H; refine rG Y13 rfl ?_; refine Zb Za ?_; refine TO.nilCheck Za ?_; refine Zr Za Vt ?_; refine Vq b5 Zc Ua ?_; refine Zb Za ?_; refine Ke a7 g1 Zc Ui Kw ?_; refine Gt (v := .string (bs (pr0.words.getD at1.toNat ([] : Str)))) ([] : Str) a7 g1 Zc Jb ?_; refine Zx Gd Za (fun wc hwc => Jr (s0 := (pr0.words.getD at1.toNat ([] : Str))) wc (hG.mono hwc) e4) ?_; rintro _ _ ⟨rfl, rfl⟩; refine Zb Za ?_; refine TO.extract Zc ?_; refine TO.extract Zc ?_; refine Xi Za ?_; refine aN Za ?_; refine Zz (aT [2, 3, 9, 10] rfl) ?_; refine Zs ?_; rcases Zw H with ⟨g5, H⟩ | ⟨g5, H⟩
 ·
  rcases Zw H with ⟨g6, H⟩ | ⟨g6, H⟩
  ·
   obtain ⟨q8, e7, H⟩ := Zp H; rcases q8 with _ | _
   · refine rG Y12 rfl ?_; refine Zb Za ?_; refine Zb Za ?_; refine Zm (t := 23) (b' := true) rfl g5 ?_; refine Zb Za ?_; refine Zb Za ?_; refine Zv Zn ?_; refine Zy Zc ?_; refine Zb Za ?_; refine Zm (t := 28) (b' := true) rfl (decide_eq_true g6) ?_; refine Zb Za ?_; refine Zb Za ?_; refine Zv Zn ?_; refine Zy Zc ?_; refine Zx Xf Za (fun wc hwc => by apply FncS.ok (r := ()); exact Xg (is0 := (decide (r2 ≤ high3))) wc  e7) ?_; rintro _ _ ⟨rfl, rfl⟩; refine dN ?_; refine Zz (aT [9] rfl) ?_; refine sR Y2 rfl ?_; refine Zb Za ?_; refine aN Za ?_; refine T.ret ?_; obtain rfl := ret1 H; show X _ (bodyPost _ _ (Xd _ _ _)) _ _ _; exact Yd Za (Res.tmp rfl) Zh ⟨rfl, rfl⟩
   · refine rG Y12 rfl ?_; refine Zb Za ?_; refine Zb Za ?_; refine Zm (t := 23) (b' := true) rfl g5 ?_; refine Zb Za ?_; refine Zb Za ?_; refine Zv Zn ?_; refine Zy Zc ?_; refine Zb Za ?_; refine Zm (t := 28) (b' := true) rfl (decide_eq_true g6) ?_; refine Zb Za ?_; refine Zb Za ?_; refine Zv Zn ?_; refine Zy Zc ?_; refine Yz (Hm := []) (R := []) Xf Zk (List.Perm.refl _) rfl (fun wc hwc => Yt (Xg (is0 := (decide (r2 ≤ high3))) wc  e7)) ?_; refine Xh ?_; obtain rfl := ret1 H; exact Xa Zk
  ·
   obtain ⟨b7, e9, H⟩ := Zp H; rcases b7 with _ | _
   · cases H
   · refine rG Y12 rfl ?_; refine Zb Za ?_; refine Zb Za ?_; refine Zm (t := 23) (b' := true) rfl g5 ?_; refine Zb Za ?_; refine Zb Za ?_; refine Zv Zn ?_; refine Zy Zc ?_; refine Zb Za ?_; refine Zm (t := 28) (b' := false) rfl (decide_eq_false g6) ?_; refine Zf Za ?_; refine Zf Za ?_; refine Zf Za ?_; refine Yc Zc ?_; refine Yz (Hm := []) (R := []) Xf Zk (List.Perm.refl _) rfl (fun wc hwc => Yt (Xg (is0 := false) wc  e9)) ?_; refine Xh ?_; obtain rfl := ret1 H; exact Xa Zk
 ·
  obtain ⟨b8, b9, H⟩ := Zp H; rcases b8 with _ | _
  · cases H
  · refine rG Y12 rfl ?_; refine Zb Za ?_; refine Zb Za ?_; refine Zm (t := 23) (b' := false) rfl (Bool.eq_false_iff.2 g5) ?_; refine Zf Za ?_; refine Zf Za ?_; refine Zf Za ?_; refine Yc Zc ?_; refine Zb Za ?_; refine Zf Za ?_; refine Zf Za ?_; refine Zf Za ?_; refine Yc Zc ?_; refine Yz (Hm := []) (R := []) Xf Zk (List.Perm.refl _) rfl (fun wc hwc => Yt (Xg (is0 := false) wc  b9)) ?_; refine Xh ?_; obtain rfl := ret1 H; exact Xa Zk
theorem Ns {r0 : DimacsReader} {n1 : Int} {b3 a2 a4 a9 a5 : Nat} {a3 a7 : Option Addr} {b5 : Option Nat} (w : World) (b6 : RS w [] Zl 3 a3 a2 a4 r0.n.Arcs) (a6 : RS w [] Ye 1 a7 a9 a5 r0.words) (a8 : HB w [] b3 [iV r0.n.N, iV r0.n.S, iV r0.n.T, .slice a3 a2 a4, .map b5, iV r0.arcs, .slice a7 a9 a5]) {q_ : (Unit) ⊕ Unit} (H : Lt r0 n1 = some q_) : FncS Tryz.prog 169 #[pV b3, iV n1] w [] (.iface 134 (.agg #[])) q_ (fun r_ => fun v N => v = .tuple #[] ∧ N = []) := by
 unfold Lt at H; refine FncS.enter (vs := [pV b3, iV n1]) Tryz.func169 rfl rfl (Inv.refl w) ?_; obtain ⟨q2, e1, H⟩ := Zp H; rcases q2 with _ | _
 · refine rG Y8 rfl ?_; refine Zb Za ?_; refine TO.nilCheck Za ?_; refine Zr Za Vt ?_; refine Vq a8 Zc Ua ?_; refine Wq (xs := r0.words) a6.len Zc Ui ?_; refine Zb Za ?_; refine Zv Zn ?_; refine Zx Xf Za (fun wc hwc => by apply FncS.ok (r := ()); exact Xg (is0 := (decide ((r0.words.length : Int) = n1))) wc  e1) ?_; rintro _ _ ⟨rfl, rfl⟩; refine Zq ?_; refine Us ?_; obtain rfl := ret1 H; show X _ (bodyPost _ _ (Xd _ _ _)) _ _ _; exact Vo Za  Zh ⟨rfl, rfl⟩
 · refine rG Y8 rfl ?_; refine Zb Za ?_; refine TO.nilCheck Za ?_; refine Zr Za Vt ?_; refine Vq a8 Zc Ua ?_; refine Wq (xs := r0.words) a6.len Zc Ui ?_; refine Zb Za ?_; refine Zv Zn ?_; refine Yz (Hm := []) (R := []) Xf Zk (List.Perm.refl _) rfl (fun wc hwc => Yt (Xg (is0 := (decide ((r0.words.length : Int) = n1))) wc  e1)) ?_; obtain rfl := ret1 H; exact Xa Zk
theorem Gg {pr0 : DimacsReader} {at1 : Int} {b5 a4 a6 a8 a9 : Nat} {a3 a7 : Option Addr} {b6 : Option Nat} (w : World) (a5 : RS w [] Zl 3 a3 a4 a6 pr0.n.Arcs) (b3 : RS w [] Ye 1 a7 a8 a9 pr0.words) (a2 : HB w [] b5 [iV pr0.n.N, iV pr0.n.S, iV pr0.n.T, .slice a3 a4 a6, .map b6, iV pr0.arcs, .slice a7 a8 a9]) (hG : GK Tryz.prog w []) {q_ : (Int) ⊕ Unit} (H : Lm pr0 at1 = some q_) : FncS Tryz.prog 172 #[pV b5, iV at1] w [] (.iface 134 (.agg #[])) q_ (fun r_ => fun v N => v = iV r_ ∧ N = []) := by
 unfold Lm at H; refine FncS.enter (vs := [pV b5, iV at1]) Tryz.func172 rfl rfl (Inv.refl w) ?_; refine sR Y1 rfl ?_; refine aN Za ?_; refine Zs ?_; obtain ⟨q3, e2, H⟩ := Zp H; rcases q3 with r1 | _
 · obtain ⟨g4, H⟩ := Yv H; refine rG Y10 rfl ?_; refine Zb Za ?_; refine Zb Za ?_; refine Zb Za ?_; refine TO.nilCheck Za ?_; refine Zr Za Uk ?_; refine Zr Za Vf ?_; refine Vq a2 Zc Ys ?_; refine Zx Kn Za (fun wc hwc => by apply FncS.ok (r := (r1)); exact Ko (pr0 := pr0) (at1 := at1) (low2 := 1) (high3 := pr0.n.N) wc (a5.mono hwc) (b3.mono hwc) (a2.mono hwc) (hG.mono hwc) e2) ?_; rintro _ _ ⟨rfl, rfl⟩; refine Z0y g4 Zc ?_; refine aN Za ?_; refine Zz (aT [4] rfl) ?_; refine T.ret ?_; obtain rfl := ret1 H; show X _ (bodyPost _ _ (Xd _ _ _)) _ _ _; exact Yd Za (Res.tmp rfl) Zh ⟨rfl, rfl⟩
 · refine rG Y10 rfl ?_; refine Zb Za ?_; refine Zb Za ?_; refine Zb Za ?_; refine TO.nilCheck Za ?_; refine Zr Za Uk ?_; refine Zr Za Vf ?_; refine Vq a2 Zc Ys ?_; refine Yz (Hm := []) (R := []) Kn Zk (List.Perm.refl _) rfl (fun wc hwc => Yt (Ko (pr0 := pr0) (at1 := at1) (low2 := 1) (high3 := pr0.n.N) wc (a5.mono hwc) (b3.mono hwc) (a2.mono hwc) (hG.mono hwc) e2)) ?_; refine Xh ?_; obtain rfl := ret1 H; exact Xa Zk
theorem Lz {r0 : DimacsReader} {what1 : Str} {a9 a3 a5 a2 a8 a6 : Nat} {a4 a7 : Option Addr} (w : World) (hin : Inv w (([(eC a9 #[iV r0.n.N, iV r0.n.S, iV r0.n.T, .slice a4 a3 a5, .map (some a2), iV r0.arcs, .slice a7 a8 a6] 138), (some a2, mapZO (Value.int .i64) r0.said)] : Heap).filterMap Prod.fst) w [(eC a9 #[iV r0.n.N, iV r0.n.S, iV r0.n.T, .slice a4 a3 a5, .map (some a2), iV r0.arcs, .slice a7 a8 a6] 138), (some a2, mapZO (Value.int .i64) r0.said)]) (b3 : RS w (([(eC a9 #[iV r0.n.N, iV r0.n.S, iV r0.n.T, .slice a4 a3 a5, .map (some a2), iV r0.arcs, .slice a7 a8 a6] 138), (some a2, mapZO (Value.int .i64) r0.said)] : Heap).filterMap Prod.fst) Zl 3 a4 a3 a5 r0.n.Arcs) (b5 : RS w (([(eC a9 #[iV r0.n.N, iV r0.n.S, iV r0.n.T, .slice a4 a3 a5, .map (some a2), iV r0.arcs, .slice a7 a8 a6] 138), (some a2, mapZO (Value.int .i64) r0.said)] : Heap).filterMap Prod.fst) Ye 1 a7 a8 a6 r0.words) {q_ : (DimacsReader) ⊕ Unit} (H : Rg r0 what1 = some q_) : FncS Tryz.prog 170 #[pV a9, .string (bs what1)] w (([(eC a9 #[iV r0.n.N, iV r0.n.S, iV r0.n.T, .slice a4 a3 a5, .map (some a2), iV r0.arcs, .slice a7 a8 a6] 138), (some a2, mapZO (Value.int .i64) r0.said)] : Heap).filterMap Prod.fst) (.iface 134 (.agg #[])) q_ (fun r_ => fun v N => v = .tuple #[] ∧ N = [(eC a9 #[iV r0.n.N, iV r0.n.S, iV r0.n.T, .slice a4 a3 a5, .map (some a2), iV r0.arcs, .slice a7 a8 a6] 138), (some a2, mapZO (Value.int .i64) r_.said)]) := by
 unfold Rg at H; refine FncS.enter (vs := [pV a9, .string (bs what1)]) Tryz.func170 rfl rfl hin ?_; obtain ⟨g3, H⟩ := Yv H; refine sR Y8 rfl ?_; refine Zb Za ?_; refine TO.nilCheck Za ?_; refine Zr Za Xw ?_; refine Zu Za Xy Zj rfl ?_; refine Zb Za ?_; refine Ku (f := (Value.int .i64)) (z := 0) (k := what1) (xs := r0.said) Xu Wa Zc Yg rfl ?_; refine Ks g3 Zc ?_; refine TO.mputZ (f := (Value.int .i64)) (u := ((Yn 0 what1 r0.said) + 1)) (xs := r0.said) Xu Zn Zt ?_; refine dN ?_; obtain ⟨q5, e4, H⟩ := Zp H; rcases q5 with _ | _
 · refine rG Y8 rfl ?_; refine Zb Za ?_; refine TO.nilCheck Za ?_; refine Zr Za Xw ?_; refine Zu Za Xy Yg rfl ?_; refine Zb Za ?_; refine Ku (f := (Value.int .i64)) (z := 0) (k := what1) (xs := (Yu what1 ((Yn 0 what1 r0.said) + 1) r0.said)) Xu Wa Zc Zj rfl ?_; refine Zv Zn ?_; refine Zx Xf Za (fun wc hwc => by apply FncS.ok (r := ()); exact Xg (is0 := (decide ((Yn 0 what1 (Yu what1 ((Yn 0 what1 r0.said) + 1) r0.said)) = 1))) wc  e4) ?_; rintro _ _ ⟨rfl, rfl⟩; refine Zq ?_; refine Us ?_; obtain rfl := ret1 H; show X _ (bodyPost _ _ (Xd _ _ _)) _ _ _; exact Vo Za  (Zg Zt (Zg Ze Zh)) ⟨rfl, rfl⟩
 · refine rG Y8 rfl ?_; refine Zb Za ?_; refine TO.nilCheck Za ?_; refine Zr Za Xw ?_; refine Zu Za Xy Yg rfl ?_; refine Zb Za ?_; refine Ku (f := (Value.int .i64)) (z := 0) (k := what1) (xs := (Yu what1 ((Yn 0 what1 r0.said) + 1) r0.said)) Xu Wa Zc Zj rfl ?_; refine Zv Zn ?_; refine Yz (Hm := []) (R := [(some a2, mapZO (Value.int .i64) (Yu what1 ((Yn 0 what1 r0.said) + 1) r0.said)), (eC a9 #[iV r0.n.N, iV r0.n.S, iV r0.n.T, .slice a4 a3 a5, .map (some a2), iV r0.arcs, .slice a7 a8 a6] 138)]) Xf Zk (List.Perm.refl _) rfl (fun wc hwc => Yt (Xg (is0 := (decide ((Yn 0 what1 (Yu what1 ((Yn 0 what1 r0.said) + 1) r0.said)) = 1))) wc  e4)) ?_; obtain rfl := ret1 H; exact Xa Zk
theorem Z55 {r0 : DimacsReader} {b5 a2 a4 a5 a8 a6 : Nat} {a3 a7 : Option Addr} (w : World) (hin : Inv w (([(eC b5 #[iV r0.n.N, iV r0.n.S, iV r0.n.T, .slice a3 a2 a4, .map (some a5), iV r0.arcs, .slice a7 a8 a6] 138), (some a5, mapZO (Value.int .i64) r0.said)] : Heap).filterMap Prod.fst) w [(eC b5 #[iV r0.n.N, iV r0.n.S, iV r0.n.T, .slice a3 a2 a4, .map (some a5), iV r0.arcs, .slice a7 a8 a6] 138), (some a5, mapZO (Value.int .i64) r0.said)]) (a9 : RS w (([(eC b5 #[iV r0.n.N, iV r0.n.S, iV r0.n.T, .slice a3 a2 a4, .map (some a5), iV r0.arcs, .slice a7 a8 a6] 138), (some a5, mapZO (Value.int .i64) r0.said)] : Heap).filterMap Prod.fst) Zl 3 a3 a2 a4 r0.n.Arcs) (b3 : RS w (([(eC b5 #[iV r0.n.N, iV r0.n.S, iV r0.n.T, .slice a3 a2 a4, .map (some a5), iV r0.arcs, .slice a7 a8 a6] 138), (some a5, mapZO (Value.int .i64) r0.said)] : Heap).filterMap Prod.fst) Ye 1 a7 a8 a6 r0.words) (hG : GK Tryz.prog w (([(eC b5 #[iV r0.n.N, iV r0.n.S, iV r0.n.T, .slice a3 a2 a4, .map (some a5), iV r0.arcs, .slice a7 a8 a6] 138), (some a5, mapZO (Value.int .i64) r0.said)] : Heap).filterMap Prod.fst)) {q_ : (DimacsReader) ⊕ Unit} (H : Z1r r0 = some q_) : FncS Tryz.prog 134 #[pV b5] w (([(eC b5 #[iV r0.n.N, iV r0.n.S, iV r0.n.T, .slice a3 a2 a4, .map (some a5), iV r0.arcs, .slice a7 a8 a6] 138), (some a5, mapZO (Value.int .i64) r0.said)] : Heap).filterMap Prod.fst) (.iface 134 (.agg #[])) q_ (fun r_ => fun v N => v = .tuple #[] ∧ N = [(eC b5 #[iV r_.n.N, iV r0.n.S, iV r0.n.T, .slice a3 a2 a4, .map (some a5), iV r_.arcs, .slice a7 a8 a6] 138), (some a5, mapZO (Value.int .i64) r_.said)]) := by
 unfold Z1r at H; refine FncS.enter (vs := [pV b5]) Tryz.func134 rfl rfl hin ?_; refine Zs ?_; obtain ⟨q4, e3, H⟩ := Zp H; rcases q4 with _ | _
 ·
  refine rG Y2 rfl ?_; refine Zb Za ?_; refine Zx Gu Za (fun wc hwc => by apply FncS.ok (r := ()); exact Ns (r0 := r0) (n1 := 4) wc (a9.mono hwc) (b3.mono hwc) (hwc.hb (cs := [iV r0.n.N, iV r0.n.S, iV r0.n.T, .slice a3 a2 a4, .map (some a5), iV r0.arcs, .slice a7 a8 a6]) Zj) e3) ?_; rintro _ _ ⟨rfl, rfl⟩; refine dS ?_; obtain ⟨q7, e6, H⟩ := Zp H; rcases q7 with r5 | _
  ·
   refine rG Y2 rfl ?_; refine Zb Za ?_; refine Z1k Rd Za (Zo Ze (Zo Ze (Gone.refl _))) rfl (fun wc hwc => by apply FncS.ok (r := (r5)); exact Lz (r0 := r0) (what1 := ([112] : Str)) wc (hwc.self (Zg Ze (Zg Ze Zh)) rfl) (a9.monoM (by decide) hwc (Zo Ze (Zo Ze (Gone.refl _))) rfl) (b3.monoM (by decide) hwc (Zo Ze (Zo Ze (Gone.refl _))) rfl) e6) ?_; rintro _ _ ⟨rfl, rfl⟩; refine dN ?_; refine Zs ?_; obtain ⟨g8, H⟩ := Yv H; obtain ⟨c0, e9, H⟩ := Zp H; rcases c0 with _ | _
   ·
    refine rG Y8 rfl ?_; refine Zb Za ?_; refine TO.nilCheck Za ?_; refine Zr Za Vt ?_; refine Zu Za Ua Zj rfl ?_; refine Ke b3 g8 Zc Ui Kw ?_; refine Gt (v := .string (bs (r0.words.getD (1 : Int).toNat ([] : Str)))) ([] : Str) b3 g8 Zc Jb ?_; refine Wv (p := (r0.words.getD (1 : Int).toNat ([] : Str))) (q := ([109, 97, 120] : Str)) Zc ?_; refine Zx Xf Za (fun wc hwc => by apply FncS.ok (r := ()); exact Xg (is0 := (decide ((r0.words.getD (1 : Int).toNat ([] : Str)) = ([109, 97, 120] : Str)))) wc  e9) ?_; rintro _ _ ⟨rfl, rfl⟩; refine dN ?_; refine Zz (aT [0] rfl) ?_; obtain ⟨c4, b7, H⟩ := Zp H; rcases c4 with b6 | _
    ·
     obtain ⟨c5, b8, H⟩ := Zp H; rcases c5 with b9 | _
     · refine rG Y13 rfl ?_; refine Zb Za ?_; refine Zb Za ?_; refine Zb Za ?_; refine Zx Kn Za (fun wc hwc => by apply FncS.ok (r := (b6)); exact Ko (pr0 := (DimacsReader.mk r0.n r5.said r0.arcs r0.words)) (at1 := 2) (low2 := 0) (high3 := 2147483648) wc (a9.mono hwc) (b3.mono hwc) (hwc.hb (cs := [iV r0.n.N, iV r0.n.S, iV r0.n.T, .slice a3 a2 a4, .map (some a5), iV r0.arcs, .slice a7 a8 a6]) Zj) (hG.mono hwc) b7) ?_; rintro _ _ ⟨rfl, rfl⟩; refine Zb Za ?_; refine Zx Kn Za (fun wc hwc => by apply FncS.ok (r := (b9)); exact Ko (pr0 := (DimacsReader.mk r0.n r5.said r0.arcs r0.words)) (at1 := 3) (low2 := 0) (high3 := 2147483648) wc (a9.mono hwc) (b3.mono hwc) (hwc.hb (cs := [iV r0.n.N, iV r0.n.S, iV r0.n.T, .slice a3 a2 a4, .map (some a5), iV r0.arcs, .slice a7 a8 a6]) Zj) (hG.mono hwc) b8) ?_; rintro _ _ ⟨rfl, rfl⟩; refine TO.nilCheck Za ?_; refine Zr Za Uk ?_; refine Zr Za Vf ?_; refine Uz (cs' := [iV b6, iV r0.n.S, iV r0.n.T, .slice a3 a2 a4, .map (some a5), iV r0.arcs, .slice a7 a8 a6]) Za Ze Z2m Zk ?_; refine TO.nilCheck Za ?_; refine Zr Za Z1h ?_; refine Uz (cs' := [iV b6, iV r0.n.S, iV r0.n.T, .slice a3 a2 a4, .map (some a5), iV b9, .slice a7 a8 a6]) Za Ze TWPDM.n2 Zk ?_; refine Zq ?_; refine Us ?_; obtain rfl := ret1 H; show X _ (bodyPost _ _ (Xd _ _ _)) _ _ _; exact Vo Za  (Zg Ze (Zg Ze Zh)) ⟨rfl, rfl⟩
     · refine rG Y13 rfl ?_; refine Zb Za ?_; refine Zb Za ?_; refine Zb Za ?_; refine Zx Kn Za (fun wc hwc => by apply FncS.ok (r := (b6)); exact Ko (pr0 := (DimacsReader.mk r0.n r5.said r0.arcs r0.words)) (at1 := 2) (low2 := 0) (high3 := 2147483648) wc (a9.mono hwc) (b3.mono hwc) (hwc.hb (cs := [iV r0.n.N, iV r0.n.S, iV r0.n.T, .slice a3 a2 a4, .map (some a5), iV r0.arcs, .slice a7 a8 a6]) Zj) (hG.mono hwc) b7) ?_; rintro _ _ ⟨rfl, rfl⟩; refine Zb Za ?_; refine Yz (Hm := []) (R := [(eC b5 #[iV r0.n.N, iV r0.n.S, iV r0.n.T, .slice a3 a2 a4, .map (some a5), iV r0.arcs, .slice a7 a8 a6] 138), (some a5, mapZO (Value.int .i64) r5.said)]) Kn Zk (List.Perm.refl _) rfl (fun wc hwc => Yt (Ko (pr0 := (DimacsReader.mk r0.n r5.said r0.arcs r0.words)) (at1 := 3) (low2 := 0) (high3 := 2147483648) wc (a9.mono hwc) (b3.mono hwc) (hwc.hb (cs := [iV r0.n.N, iV r0.n.S, iV r0.n.T, .slice a3 a2 a4, .map (some a5), iV r0.arcs, .slice a7 a8 a6]) Zj) (hG.mono hwc) b8)) ?_; obtain rfl := ret1 H; exact Xa Zk
    · refine rG Y13 rfl ?_; refine Zb Za ?_; refine Zb Za ?_; refine Zb Za ?_; refine Yz (Hm := []) (R := [(eC b5 #[iV r0.n.N, iV r0.n.S, iV r0.n.T, .slice a3 a2 a4, .map (some a5), iV r0.arcs, .slice a7 a8 a6] 138), (some a5, mapZO (Value.int .i64) r5.said)]) Kn Zk (List.Perm.refl _) rfl (fun wc hwc => Yt (Ko (pr0 := (DimacsReader.mk r0.n r5.said r0.arcs r0.words)) (at1 := 2) (low2 := 0) (high3 := 2147483648) wc (a9.mono hwc) (b3.mono hwc) (hwc.hb (cs := [iV r0.n.N, iV r0.n.S, iV r0.n.T, .slice a3 a2 a4, .map (some a5), iV r0.arcs, .slice a7 a8 a6]) Zj) (hG.mono hwc) b7)) ?_; obtain rfl := ret1 H; exact Xa Zk
   · refine rG Y8 rfl ?_; refine Zb Za ?_; refine TO.nilCheck Za ?_; refine Zr Za Vt ?_; refine Zu Za Ua Zj rfl ?_; refine Ke b3 g8 Zc Ui Kw ?_; refine Gt (v := .string (bs (r0.words.getD (1 : Int).toNat ([] : Str)))) ([] : Str) b3 g8 Zc Jb ?_; refine Wv (p := (r0.words.getD (1 : Int).toNat ([] : Str))) (q := ([109, 97, 120] : Str)) Zc ?_; refine Yz (Hm := []) (R := [(eC b5 #[iV r0.n.N, iV r0.n.S, iV r0.n.T, .slice a3 a2 a4, .map (some a5), iV r0.arcs, .slice a7 a8 a6] 138), (some a5, mapZO (Value.int .i64) r5.said)]) Xf Zk (List.Perm.refl _) rfl (fun wc hwc => Yt (Xg (is0 := (decide ((r0.words.getD (1 : Int).toNat ([] : Str)) = ([109, 97, 120] : Str)))) wc  e9)) ?_; refine Xh ?_; obtain rfl := ret1 H; exact Xa Zk
  · refine rG Y2 rfl ?_; refine Zb Za ?_; refine Yz (Hm := [(eC b5 #[iV r0.n.N, iV r0.n.S, iV r0.n.T, .slice a3 a2 a4, .map (some a5), iV r0.arcs, .slice a7 a8 a6] 138), (some a5, mapZO (Value.int .i64) r0.said)]) (R := []) Rd Zk (Zo Ze (Zo Ze (Gone.refl _))) rfl (fun wc hwc => Yt (Lz (r0 := r0) (what1 := ([112] : Str)) wc (hwc.self (Zg Ze (Zg Ze Zh)) rfl) (a9.monoM (by decide) hwc (Zo Ze (Zo Ze (Gone.refl _))) rfl) (b3.monoM (by decide) hwc (Zo Ze (Zo Ze (Gone.refl _))) rfl) e6)) ?_; refine Xh ?_; obtain rfl := ret1 H; exact Xa Zk
 · refine rG Y2 rfl ?_; refine Zb Za ?_; refine Yz (Hm := []) (R := [(eC b5 #[iV r0.n.N, iV r0.n.S, iV r0.n.T, .slice a3 a2 a4, .map (some a5), iV r0.arcs, .slice a7 a8 a6] 138), (some a5, mapZO (Value.int .i64) r0.said)]) Gu Zk (List.Perm.refl _) rfl (fun wc hwc => Yt (Ns (r0 := r0) (n1 := 4) wc (a9.mono hwc) (b3.mono hwc) (hwc.hb (cs := [iV r0.n.N, iV r0.n.S, iV r0.n.T, .slice a3 a2 a4, .map (some a5), iV r0.arcs, .slice a7 a8 a6]) Zj) e3)) ?_; refine Xh ?_; obtain rfl := ret1 H; exact Xa Zk
theorem Z5t {r0 : DimacsReader} {b5 a3 a5 a2 a8 a6 : Nat} {a4 a7 : Option Addr} (w : World) (hin : Inv w (([(eC b5 #[iV r0.n.N, iV r0.n.S, iV r0.n.T, .slice a4 a3 a5, .map (some a2), iV r0.arcs, .slice a7 a8 a6] 138), (some a2, mapZO (Value.int .i64) r0.said)] : Heap).filterMap Prod.fst) w [(eC b5 #[iV r0.n.N, iV r0.n.S, iV r0.n.T, .slice a4 a3 a5, .map (some a2), iV r0.arcs, .slice a7 a8 a6] 138), (some a2, mapZO (Value.int .i64) r0.said)]) (b3 : RS w (([(eC b5 #[iV r0.n.N, iV r0.n.S, iV r0.n.T, .slice a4 a3 a5, .map (some a2), iV r0.arcs, .slice a7 a8 a6] 138), (some a2, mapZO (Value.int .i64) r0.said)] : Heap).filterMap Prod.fst) Zl 3 a4 a3 a5 r0.n.Arcs) (a9 : RS w (([(eC b5 #[iV r0.n.N, iV r0.n.S, iV r0.n.T, .slice a4 a3 a5, .map (some a2), iV r0.arcs, .slice a7 a8 a6] 138), (some a2, mapZO (Value.int .i64) r0.said)] : Heap).filterMap Prod.fst) Ye 1 a7 a8 a6 r0.words) (hG : GK Tryz.prog w (([(eC b5 #[iV r0.n.N, iV r0.n.S, iV r0.n.T, .slice a4 a3 a5, .map (some a2), iV r0.arcs, .slice a7 a8 a6] 138), (some a2, mapZO (Value.int .i64) r0.said)] : Heap).filterMap Prod.fst)) {q_ : (DimacsReader) ⊕ Unit} (H : Z0t r0 = some q_) : FncS Tryz.prog 135 #[pV b5] w (([(eC b5 #[iV r0.n.N, iV r0.n.S, iV r0.n.T, .slice a4 a3 a5, .map (some a2), iV r0.arcs, .slice a7 a8 a6] 138), (some a2, mapZO (Value.int .i64) r0.said)] : Heap).filterMap Prod.fst) (.iface 134 (.agg #[])) q_ (fun r_ => fun v N => v = .tuple #[] ∧ N = [(eC b5 #[iV r0.n.N, iV r_.n.S, iV r_.n.T, .slice a4 a3 a5, .map (some a2), iV r0.arcs, .slice a7 a8 a6] 138), (some a2, mapZO (Value.int .i64) r_.said)]) := by
 unfold Z0t at H; refine FncS.enter (vs := [pV b5]) Tryz.func135 rfl rfl hin ?_; refine Zs ?_; obtain ⟨q4, e3, H⟩ := Zp H; rcases q4 with _ | _
 ·
  refine rG Y2 rfl ?_; refine Zb Za ?_; refine Zx Gu Za (fun wc hwc => by apply FncS.ok (r := ()); exact Ns (r0 := r0) (n1 := 3) wc (b3.mono hwc) (a9.mono hwc) (hwc.hb (cs := [iV r0.n.N, iV r0.n.S, iV r0.n.T, .slice a4 a3 a5, .map (some a2), iV r0.arcs, .slice a7 a8 a6]) Zj) e3) ?_; rintro _ _ ⟨rfl, rfl⟩; refine dS ?_; obtain ⟨q7, e6, H⟩ := Zp H; rcases q7 with r5 | _
  ·
   refine rG Y3 rfl ?_; refine Zb Za ?_; refine Zx Jz Za (fun wc hwc => by apply FncS.ok (r := (r5)); exact Gg (pr0 := r0) (at1 := 1) wc (b3.mono hwc) (a9.mono hwc) (hwc.hb (cs := [iV r0.n.N, iV r0.n.S, iV r0.n.T, .slice a4 a3 a5, .map (some a2), iV r0.arcs, .slice a7 a8 a6]) Zj) (hG.mono hwc) e6) ?_; rintro _ _ ⟨rfl, rfl⟩; refine aN Za ?_; refine Zs ?_; obtain ⟨g8, H⟩ := Yv H; obtain ⟨c0, b8, H⟩ := Zp H; rcases c0 with r9 | _
   ·
    refine rG Y8 rfl ?_; refine Zb Za ?_; refine Zb Za ?_; refine TO.nilCheck Za ?_; refine Zr Za Vt ?_; refine Zu Za Ua Zj rfl ?_; refine Ke a9 g8 Zc Ui Kw ?_; refine Gt (v := .string (bs (r0.words.getD (2 : Int).toNat ([] : Str)))) ([] : Str) a9 g8 Zc Jb ?_; refine Z1k Rd Za (Zo Ze (Zo Ze (Gone.refl _))) rfl (fun wc hwc => by apply FncS.ok (r := (r9)); exact Lz (r0 := r0) (what1 := (r0.words.getD (2 : Int).toNat ([] : Str))) wc (hwc.self (Zg Ze (Zg Ze Zh)) rfl) (b3.monoM (by decide) hwc (Zo Ze (Zo Ze (Gone.refl _))) rfl) (a9.monoM (by decide) hwc (Zo Ze (Zo Ze (Gone.refl _))) rfl) b8) ?_; rintro _ _ ⟨rfl, rfl⟩; refine dN ?_; refine Zz (aT [0, 2] rfl) ?_; obtain ⟨b9, H⟩ := Yv H; refine sR Y6 rfl ?_; refine Zb Za ?_; refine TO.nilCheck Za ?_; refine Zr Za Vt ?_; refine Zu Za Ua Zj rfl ?_; refine Ke a9 b9 Zc Ui Kw ?_; refine Gt (v := .string (bs (r0.words.getD (2 : Int).toNat ([] : Str)))) ([] : Str) a9 b9 Zc Jb ?_; refine dN ?_; refine T.block ?_; refine sR Y2 rfl ?_; refine Wv (p := (r0.words.getD (2 : Int).toNat ([] : Str))) (q := ([115] : Str)) Zc ?_; refine aN Za ?_; rcases Zw H with ⟨b6, H⟩ | ⟨b6, H⟩
    · refine Vm rfl b6 ?_; refine rG Y6 rfl ?_; refine Zb Za ?_; refine Zb Za ?_; refine TO.nilCheck Za ?_; refine Zr Za Uk ?_; refine Zr Za Up ?_; refine Uz (cs' := [iV r0.n.N, iV r5, iV r0.n.T, .slice a4 a3 a5, .map (some a2), iV r0.arcs, .slice a7 a8 a6]) Za Ze Z2m Zk ?_; refine Zq ?_; refine Wu ?_; refine Us ?_; obtain rfl := ret1 H; show X _ (bodyPost _ _ (Xd _ _ _)) _ _ _; exact Vo Za  (Zg Ze (Zg Ze Zh)) ⟨rfl, rfl⟩
    ·
     refine Vg rfl b6 ?_; refine sR Y2 rfl ?_; refine Wv (p := (r0.words.getD (2 : Int).toNat ([] : Str))) (q := ([116] : Str)) Zc ?_; refine aN Za ?_; refine Zz (aT [0, 2, 29] rfl) ?_; rcases Zw H with ⟨b7, H⟩ | ⟨b7, H⟩
     · refine Vm rfl b7 ?_; refine rG Y6 rfl ?_; refine Zb Za ?_; refine Zb Za ?_; refine TO.nilCheck Za ?_; refine Zr Za Uk ?_; refine Zr Za Jd ?_; refine Uz (cs' := [iV r0.n.N, iV r0.n.S, iV r5, .slice a4 a3 a5, .map (some a2), iV r0.arcs, .slice a7 a8 a6]) Za Ze Z2m Zk ?_; refine Zq ?_; refine Wu ?_; refine Us ?_; obtain rfl := ret1 H; show X _ (bodyPost _ _ (Xd _ _ _)) _ _ _; exact Vo Za  (Zg Ze (Zg Ze Zh)) ⟨rfl, rfl⟩
     ·
      refine Vg rfl b7 ?_; obtain ⟨c4, c5, H⟩ := Zp H; rcases c4 with _ | _
      · cases H
      · refine rG Y1 rfl ?_; refine Yz (Hm := []) (R := [(eC b5 #[iV r0.n.N, iV r0.n.S, iV r0.n.T, .slice a4 a3 a5, .map (some a2), iV r0.arcs, .slice a7 a8 a6] 138), (some a2, mapZO (Value.int .i64) r9.said)]) Xf Zk (List.Perm.refl _) rfl (fun wc hwc => Yt (Xg (is0 := false) wc  c5)) ?_; refine Lc ?_; obtain rfl := ret1 H; exact Xa Zk
   · refine rG Y8 rfl ?_; refine Zb Za ?_; refine Zb Za ?_; refine TO.nilCheck Za ?_; refine Zr Za Vt ?_; refine Zu Za Ua Zj rfl ?_; refine Ke a9 g8 Zc Ui Kw ?_; refine Gt (v := .string (bs (r0.words.getD (2 : Int).toNat ([] : Str)))) ([] : Str) a9 g8 Zc Jb ?_; refine Yz (Hm := [(eC b5 #[iV r0.n.N, iV r0.n.S, iV r0.n.T, .slice a4 a3 a5, .map (some a2), iV r0.arcs, .slice a7 a8 a6] 138), (some a2, mapZO (Value.int .i64) r0.said)]) (R := []) Rd Zk (Zo Ze (Zo Ze (Gone.refl _))) rfl (fun wc hwc => Yt (Lz (r0 := r0) (what1 := (r0.words.getD (2 : Int).toNat ([] : Str))) wc (hwc.self (Zg Ze (Zg Ze Zh)) rfl) (b3.monoM (by decide) hwc (Zo Ze (Zo Ze (Gone.refl _))) rfl) (a9.monoM (by decide) hwc (Zo Ze (Zo Ze (Gone.refl _))) rfl) b8)) ?_; refine Xh ?_; obtain rfl := ret1 H; exact Xa Zk
  · refine rG Y3 rfl ?_; refine Zb Za ?_; refine Yz (Hm := []) (R := [(eC b5 #[iV r0.n.N, iV r0.n.S, iV r0.n.T, .slice a4 a3 a5, .map (some a2), iV r0.arcs, .slice a7 a8 a6] 138), (some a2, mapZO (Value.int .i64) r0.said)]) Jz Zk (List.Perm.refl _) rfl (fun wc hwc => Yt (Gg (pr0 := r0) (at1 := 1) wc (b3.mono hwc) (a9.mono hwc) (hwc.hb (cs := [iV r0.n.N, iV r0.n.S, iV r0.n.T, .slice a4 a3 a5, .map (some a2), iV r0.arcs, .slice a7 a8 a6]) Zj) (hG.mono hwc) e6)) ?_; refine Xh ?_; obtain rfl := ret1 H; exact Xa Zk
 · refine rG Y2 rfl ?_; refine Zb Za ?_; refine Yz (Hm := []) (R := [(eC b5 #[iV r0.n.N, iV r0.n.S, iV r0.n.T, .slice a4 a3 a5, .map (some a2), iV r0.arcs, .slice a7 a8 a6] 138), (some a2, mapZO (Value.int .i64) r0.said)]) Gu Zk (List.Perm.refl _) rfl (fun wc hwc => Yt (Ns (r0 := r0) (n1 := 3) wc (b3.mono hwc) (a9.mono hwc) (hwc.hb (cs := [iV r0.n.N, iV r0.n.S, iV r0.n.T, .slice a4 a3 a5, .map (some a2), iV r0.arcs, .slice a7 a8 a6]) Zj) e3)) ?_; refine Xh ?_; obtain rfl := ret1 H; exact Xa Zk
theorem Z56 {r0 : DimacsReader} {b8 a3 a5 a6 a9 a7 : Nat} {a2 : Option Nat} {a4 : List Value} {a8 : Option Addr} (w : World) (hin : Inv w (([(eC b8 #[iV r0.n.N, iV r0.n.S, iV r0.n.T, sV a2 a3 a5, .map (some a6), iV r0.arcs, .slice a8 a9 a7] 138), (eA a2 Zl r0.n.Arcs a4 58), (some a6, mapZO (Value.int .i64) r0.said)] : Heap).filterMap Prod.fst) w [(eC b8 #[iV r0.n.N, iV r0.n.S, iV r0.n.T, sV a2 a3 a5, .map (some a6), iV r0.arcs, .slice a8 a9 a7] 138), (eA a2 Zl r0.n.Arcs a4 58), (some a6, mapZO (Value.int .i64) r0.said)]) (b3 : r0.n.Arcs.length = a3) (b5 : a3 ≤ a5) (c0 : a4.length = (a5 - a3) * 3) (b6 : (a2 = none → a5 = 0)) (b7 : RS w (([(eC b8 #[iV r0.n.N, iV r0.n.S, iV r0.n.T, sV a2 a3 a5, .map (some a6), iV r0.arcs, .slice a8 a9 a7] 138), (eA a2 Zl r0.n.Arcs a4 58), (some a6, mapZO (Value.int .i64) r0.said)] : Heap).filterMap Prod.fst) Ye 1 a8 a9 a7 r0.words) (hG : GK Tryz.prog w (([(eC b8 #[iV r0.n.N, iV r0.n.S, iV r0.n.T, sV a2 a3 a5, .map (some a6), iV r0.arcs, .slice a8 a9 a7] 138), (eA a2 Zl r0.n.Arcs a4 58), (some a6, mapZO (Value.int .i64) r0.said)] : Heap).filterMap Prod.fst)) {q_ : (DimacsReader) ⊕ Unit} (H : Z1x r0 = some q_) : FncS Tryz.prog 136 #[pV b8] w (([(eC b8 #[iV r0.n.N, iV r0.n.S, iV r0.n.T, sV a2 a3 a5, .map (some a6), iV r0.arcs, .slice a8 a9 a7] 138), (eA a2 Zl r0.n.Arcs a4 58), (some a6, mapZO (Value.int .i64) r0.said)] : Heap).filterMap Prod.fst) (.iface 134 (.agg #[])) q_ (fun r_ => fun v N => ∃ (c8 : Option Nat) (f2 f3 : Nat) (g2 : List Value), v = .tuple #[] ∧ N = [(eC b8 #[iV r0.n.N, iV r0.n.S, iV r0.n.T, sV c8 f2 f3, .map (some a6), iV r0.arcs, .slice a8 a9 a7] 138), (eA c8 Zl r_.n.Arcs g2 58), (some a6, mapZO (Value.int .i64) r_.said)] ∧ r_.n.Arcs.length = f2 ∧ f2 ≤ f3 ∧ g2.length = (f3 - f2) * 3 ∧ (c8 = none → f3 = 0)) := by
 unfold Z1x at H; refine FncS.enter (vs := [pV b8]) Tryz.func136 rfl rfl hin ?_; refine Zs ?_; obtain ⟨q5, e4, H⟩ := Zp H; rcases q5 with _ | _
 ·
  refine rG Y2 rfl ?_; refine Zb Za ?_; refine Zx Gu Za (fun wc hwc => by apply FncS.ok (r := ()); exact Ns (r0 := r0) (n1 := 4) wc (hwc.rs (f := Zl) (s := 3) (xs := r0.n.Arcs) (j := a4) (fun _ => rfl) Yg b3 b5 b6) (b7.mono hwc) (hwc.hb (cs := [iV r0.n.N, iV r0.n.S, iV r0.n.T, sV a2 a3 a5, .map (some a6), iV r0.arcs, .slice a8 a9 a7]) Zj) e4) ?_; rintro _ _ ⟨rfl, rfl⟩; refine dS ?_; obtain ⟨q8, e7, H⟩ := Zp H; rcases q8 with r6 | _
  ·
   obtain ⟨g7, g3, H⟩ := Zp H; rcases g7 with r9 | _
   ·
    refine rG Y6 rfl ?_; refine Zb Za ?_; refine Zx Jz Za (fun wc hwc => by apply FncS.ok (r := (r6)); exact Gg (pr0 := r0) (at1 := 1) wc (hwc.rs (f := Zl) (s := 3) (xs := r0.n.Arcs) (j := a4) (fun _ => rfl) Yg b3 b5 b6) (b7.mono hwc) (hwc.hb (cs := [iV r0.n.N, iV r0.n.S, iV r0.n.T, sV a2 a3 a5, .map (some a6), iV r0.arcs, .slice a8 a9 a7]) Zj) (hG.mono hwc) e7) ?_; rintro _ _ ⟨rfl, rfl⟩; refine Zb Za ?_; refine Zx Jz Za (fun wc hwc => by apply FncS.ok (r := (r9)); exact Gg (pr0 := r0) (at1 := 2) wc (hwc.rs (f := Zl) (s := 3) (xs := r0.n.Arcs) (j := a4) (fun _ => rfl) Yg b3 b5 b6) (b7.mono hwc) (hwc.hb (cs := [iV r0.n.N, iV r0.n.S, iV r0.n.T, sV a2 a3 a5, .map (some a6), iV r0.arcs, .slice a8 a9 a7]) Zj) (hG.mono hwc) g3) ?_; rintro _ _ ⟨rfl, rfl⟩; refine Xi Za ?_; refine aN Za ?_; obtain ⟨g8, g4, H⟩ := Zp H; rcases g8 with d5 | _
    ·
     obtain ⟨g9, H⟩ := Yv H; apply T.drawL2 [rV [] _, rV [] _, rV [1] _, rV [2] _, rV [3] _, rV [4] _, rV [] _, rV [] _, rV [] _, ⟨[8], true, [], relV _⟩, rV [6, 7, 9] _, ⟨[10], false, [], fun _ v e => ∃ (d6 : Nat), v = nV d6 1 1 ∧ e = [(eA (some d6) Zl ([(Arc.mk r6 r9 d5)]) ([]) 58)]⟩, ⟨[5, 11], true, [], fun _ v e => ∃ (b9 : Option Nat) (c7 : Nat) (d0 : List Value), v = sV b9 (a3 + 1) c7 ∧ e = [(eA b9 Zl (r0.n.Arcs ++ ([(Arc.mk r6 r9 d5)])) d0 58)] ∧ (a3 + 1) ≤ c7 ∧ d0.length = (c7 - (a3 + 1)) * 3 ∧ (b9 = none → c7 = 0)⟩] [10, 11, 12, 13, 14, 15, 16, 17, 18, 19, 20, 21, 22] 13 (HRk [[(eA a2 Zl r0.n.Arcs a4 58)], [(eA a2 Zl r0.n.Arcs a4 58)], []]) [[], [], []] [(eA a2 Zl r0.n.Arcs a4 58)] [(eC b8 #[iV r0.n.N, iV r0.n.S, iV r0.n.T, sV a2 a3 a5, .map (some a6), iV r0.arcs, .slice a8 a9 a7] 138), (some a6, mapZO (Value.int .i64) r0.said)]
     · exact Kz
     · exact rfl
     · kernel_rfl
     · kernel_rfl
     · kernel_rfl
     · exact rfl
     · exact rfl
     · exact rfl
     · exact rfl
     · exact pkI (by repeat constructor)
     ·
      refine ⟨?_, ?_, ?_, ?_, ?_, ?_, ?_, ?_, ?_, ?_, ?_, ?_, ?_, trivial⟩
      · rintro vs es Es Hx -; refine Vj (D := []) rfl ?_; refine Zb Za ?_; refine Zq ?_; exact Ul rfl ⟨rfl, rfl⟩ (Yq _) rfl
      · rintro vs es Es Hx -; refine Vj (D := []) rfl ?_; refine Zb Za ?_; refine Zq ?_; exact Ul rfl ⟨rfl, rfl⟩ (Yq _) rfl
      · rintro vs es Es Hx ⟨⟨d7, f4⟩, -⟩; refine Vj (D := [(11, vs 1)]) rfl ?_; rw [d7]; refine TO.nilCheck Za ?_; refine Zq ?_; exact Ul rfl ⟨rfl, rfl⟩ (Yq _) (by show [(11, vs 1)] = _; rw [d7])
      · rintro vs es Es Hx ⟨⟨d8, f5⟩, -⟩; refine Vj (D := [(12, vs 2)]) rfl ?_; rw [d8]; refine Zr Za Uk ?_; refine Zq ?_; exact Ul rfl ⟨rfl, rfl⟩ (Yq _) (by show [(12, vs 2)] = _; rw [d8])
      · rintro vs es Es Hx ⟨⟨d9, f6⟩, -⟩; refine Vj (D := [(13, vs 3)]) rfl ?_; rw [d9]; refine Zr Za Vp ?_; refine Zq ?_; exact Ul rfl ⟨rfl, rfl⟩ (Yq _) (by show [(13, vs 3)] = _; rw [d9])
      · rintro vs es Es Hx ⟨⟨e0, f7⟩, -⟩; refine Vj (D := [(14, vs 4)]) rfl ?_; rw [e0]; refine Zu Za Vv Zj rfl ?_; refine Zq ?_; exact Ul rfl ⟨rfl, rfl⟩ (Yq _) (by show [(14, vs 4)] = _; rw [e0])
      · rintro vs es Es Hx -; refine Vj (D := []) rfl ?_; refine Zb Za ?_; refine Zq ?_; exact Ul rfl ⟨rfl, rfl⟩ (Yq _) rfl
      · rintro vs es Es Hx -; refine Vj (D := []) rfl ?_; refine Zb Za ?_; refine Zq ?_; exact Ul rfl ⟨rfl, rfl⟩ (Yq _) rfl
      · rintro vs es Es Hx -; refine Vj (D := []) rfl ?_; refine Zb Za ?_; refine Zq ?_; exact Ul rfl ⟨rfl, rfl⟩ (Yq _) rfl
      · rintro vs es Es Hx hb ⟨⟨e1, f8⟩, -⟩ hHR; obtain rfl : hb = [(eA a2 Zl r0.n.Arcs a4 58)] := hHR; refine Vj (D := [(18, vs 8)]) rfl ?_; rw [e1]; refine Zx Kn Za (fun wc hwc => by apply FncS.ok (r := (d5)); exact Ko (pr0 := r0) (at1 := 3) (low2 := 0) (high3 := 9223372036854775807) wc (hwc.rs (f := Zl) (s := 3) (xs := r0.n.Arcs) (j := a4) (fun _ => rfl) Zj b3 b5 b6) (b7.mono hwc) (hwc.hb (cs := [iV r0.n.N, iV r0.n.S, iV r0.n.T, sV a2 a3 a5, .map (some a6), iV r0.arcs, .slice a8 a9 a7]) Yg) (hG.mono hwc) g4) ?_; rintro _ _ ⟨rfl, rfl⟩; refine Zq ?_; exact X.obEd2 (hb' := [(eA a2 Zl r0.n.Arcs a4 58)]) rfl ⟨rfl, rfl⟩ rfl (pkI (by repeat constructor)) (by show [(18, vs 8)] = _; rw [e1])
      · rintro vs es Es Hx ⟨⟨e2, f9⟩, ⟨e3, g0⟩, ⟨e5, g1⟩, -⟩; refine Vj (D := [(16, vs 6), (17, vs 7), (19, vs 9)]) rfl ?_; rw [e2, e3, e5]; refine Vh (t := 58) [iV 0, iV 0, iV 0] [0, 1, 2] Za (by simp only [Xz, setCells, Value.cells, List.toList_toArray, List.getD_cons_zero, List.getD_cons_succ, List.set_cons_zero, List.set_cons_succ]; rfl) (by kernel_rfl) ?_; refine Zq ?_; exact Ul rfl ⟨rfl, rfl⟩ (Yq _) (by show [(16, vs 6), (17, vs 7), (19, vs 9)] = _; rw [e2, e3, e5])
      · rintro vs es Es Hx ⟨⟨c4, d1⟩, -⟩; refine Vj (D := [(20, vs 10)]) rfl ?_; rw [c4]; refine Z07 [iV 0, iV 0, iV 0] [0] Za Wx Kj Rh Wb (by simp only [Xz, setCells, Value.cells, List.toList_toArray, List.getD_cons_zero, List.getD_cons_succ, List.set_cons_zero, List.set_cons_succ]; rfl) (by kernel_rfl) ?_; intro d6; refine Zq ?_; exact Ul rfl ⟨d6, rfl, rfl⟩ (pkI (by repeat constructor)) (by show [(20, vs 10)] = _; rw [c4])
      · rintro vs es Es Hx hb ⟨⟨e6, e8⟩, ⟨d6, c5, c6⟩, -⟩ hHR; obtain rfl : hb = [(eA a2 Zl r0.n.Arcs a4 58)] := hHR; refine Vj (D := [(15, vs 5), (21, vs 11)]) rfl ?_; rw [e6, c5]; refine Ry (H := _ ++ (_ ++ ((es 5 ++ (es 11 ++ ([]))) ++ _))) rfl ?_; rw [e8, c6]; refine TO.app (f := Zl) (s := 3) (xs := r0.n.Arcs) (ob := a2) (j := a4) (ys := [(Arc.mk r6 r9 d5)]) (fun _ => rfl) (fun _ => rfl) Z74 g9 Zc Ze b3 b5 c0 b6 (fun wc hwc => (hwc.rs (f := Zl) (s := 3) (xs := [(Arc.mk r6 r9 d5)]) (j := ([])) (fun _ => rfl) mm3 rfl (Nat.le_refl _) Nu)) ?_; intro b9 c7 d0 d2 d3 d4; refine Zq ?_; exact X.obEt (hb' := []) (e' := [(eA b9 Zl (r0.n.Arcs ++ ([(Arc.mk r6 r9 d5)])) d0 58)]) rfl ⟨b9, c7, d0, rfl, rfl, d2, d3, d4⟩ rfl (by show Pick (_ ++ (_ ++ ((es 5 ++ (es 11 ++ ([]))) ++ _))) _; rw [e8, c6]; exact pkI (by repeat constructor)) (by show [(15, vs 5), (21, vs 11)] = _; rw [e6, c5])
     · rintro vs es hb ⟨⟨g5, g6⟩, ⟨d7, f4⟩, ⟨d8, f5⟩, ⟨d9, f6⟩, ⟨e0, f7⟩, ⟨e6, e8⟩, ⟨e2, f9⟩, ⟨e3, g0⟩, ⟨e1, f8⟩, ⟨e5, g1⟩, ⟨c4, d1⟩, ⟨d6, c5, c6⟩, ⟨b9, c7, d0, e9, f0, d2, d3, d4⟩, -⟩ hHR; obtain rfl : hb = [] := hHR; refine Vj (D := [(10, vs 0), (11, vs 1), (12, vs 2), (13, vs 3), (14, vs 4), (15, vs 5), (16, vs 6), (17, vs 7), (18, vs 8), (19, vs 9), (20, vs 10), (21, vs 11), (22, vs 12)]) rfl ?_; refine Ry (H := _ ++ (_ ++ (es 0 ++ (es 1 ++ (es 2 ++ (es 3 ++ (es 4 ++ (es 5 ++ (es 6 ++ (es 7 ++ (es 8 ++ (es 9 ++ (es 10 ++ (es 11 ++ (es 12 ++ ([])))))))))))))))) rfl ?_; rw [g6, f4, f5, f6, f7, e8, f9, g0, f8, g1, d1, c6, f0]; rw [g5, d7, d8, d9, e0, e6, e2, e3, e1, e5, c4, c5, e9]; clear e9 c5 c4 e5 e1 e3 e2 e6 e0 d9 d8 d7 g5 g6 f4 f5 f6 f7 e8 f9 g0 f8 g1 d1 c6 f0; refine TO.nilCheck Za ?_; refine Zr Za Uk ?_; refine Zr Za Vp ?_; refine Uz (cs' := [iV r0.n.N, iV r0.n.S, iV r0.n.T, sV b9 (a3 + 1) c7, .map (some a6), iV r0.arcs, .slice a8 a9 a7]) Za Ze Z7u Zk ?_; refine Zq ?_; refine Us ?_; obtain rfl := ret1 H; show X _ (bodyPost _ _ (Xd _ _ _)) _ _ _; exact Vo Za  (Zg Ze (Zg Xq (Zg Ze Zh))) ⟨b9, (a3 + 1), c7, d0, rfl, rfl, (lenApp b3 rfl), d2, d3, d4⟩
    ·
     refine Z8y (R := [(eC b8 #[iV r0.n.N, iV r0.n.S, iV r0.n.T, sV a2 a3 a5, .map (some a6), iV r0.arcs, .slice a8 a9 a7] 138), (eA a2 Zl r0.n.Arcs a4 58), (some a6, mapZO (Value.int .i64) r0.said)]) (pv := (.iface 134 (.agg #[]))) [0, 1, 2, 3, 4, 5, 6, 7, 8] 9 Kz (by kernel_rfl) (by kernel_rfl) (by kernel_rfl) (by kernel_rfl) (by kernel_rfl) ?_ ?_
     · refine TQ.move Za ?_; refine TQ.move Za ?_; refine TQ.nilCheck Za ?_; refine Xv Za Uk ?_; refine Xv Za Vp ?_; refine Yr Za Vv Zj rfl ?_; refine TQ.move Za ?_; refine TQ.move Za ?_; refine TQ.move Za ?_; refine TQ.tailP rfl ?_; refine Yz (Hm := []) (R := [(eC b8 #[iV r0.n.N, iV r0.n.S, iV r0.n.T, sV a2 a3 a5, .map (some a6), iV r0.arcs, .slice a8 a9 a7] 138), (eA a2 Zl r0.n.Arcs a4 58), (some a6, mapZO (Value.int .i64) r0.said)]) Kn Zk (List.Perm.refl _) rfl (fun wc hwc => Yt (Ko (pr0 := r0) (at1 := 3) (low2 := 0) (high3 := 9223372036854775807) wc (hwc.rs (f := Zl) (s := 3) (xs := r0.n.Arcs) (j := a4) (fun _ => rfl) Yg b3 b5 b6) (b7.mono hwc) (hwc.hb (cs := [iV r0.n.N, iV r0.n.S, iV r0.n.T, sV a2 a3 a5, .map (some a6), iV r0.arcs, .slice a8 a9 a7]) Zj) (hG.mono hwc) g4)) ?_; exact X.pq
     obtain rfl := ret1 H; exact Xa Zk
   · refine rG Y6 rfl ?_; refine Zb Za ?_; refine Zx Jz Za (fun wc hwc => by apply FncS.ok (r := (r6)); exact Gg (pr0 := r0) (at1 := 1) wc (hwc.rs (f := Zl) (s := 3) (xs := r0.n.Arcs) (j := a4) (fun _ => rfl) Yg b3 b5 b6) (b7.mono hwc) (hwc.hb (cs := [iV r0.n.N, iV r0.n.S, iV r0.n.T, sV a2 a3 a5, .map (some a6), iV r0.arcs, .slice a8 a9 a7]) Zj) (hG.mono hwc) e7) ?_; rintro _ _ ⟨rfl, rfl⟩; refine Zb Za ?_; refine Yz (Hm := []) (R := [(eC b8 #[iV r0.n.N, iV r0.n.S, iV r0.n.T, sV a2 a3 a5, .map (some a6), iV r0.arcs, .slice a8 a9 a7] 138), (eA a2 Zl r0.n.Arcs a4 58), (some a6, mapZO (Value.int .i64) r0.said)]) Jz Zk (List.Perm.refl _) rfl (fun wc hwc => Yt (Gg (pr0 := r0) (at1 := 2) wc (hwc.rs (f := Zl) (s := 3) (xs := r0.n.Arcs) (j := a4) (fun _ => rfl) Yg b3 b5 b6) (b7.mono hwc) (hwc.hb (cs := [iV r0.n.N, iV r0.n.S, iV r0.n.T, sV a2 a3 a5, .map (some a6), iV r0.arcs, .slice a8 a9 a7]) Zj) (hG.mono hwc) g3)) ?_; refine Xh ?_; obtain rfl := ret1 H; exact Xa Zk
  · refine rG Y6 rfl ?_; refine Zb Za ?_; refine Yz (Hm := []) (R := [(eC b8 #[iV r0.n.N, iV r0.n.S, iV r0.n.T, sV a2 a3 a5, .map (some a6), iV r0.arcs, .slice a8 a9 a7] 138), (eA a2 Zl r0.n.Arcs a4 58), (some a6, mapZO (Value.int .i64) r0.said)]) Jz Zk (List.Perm.refl _) rfl (fun wc hwc => Yt (Gg (pr0 := r0) (at1 := 1) wc (hwc.rs (f := Zl) (s := 3) (xs := r0.n.Arcs) (j := a4) (fun _ => rfl) Yg b3 b5 b6) (b7.mono hwc) (hwc.hb (cs := [iV r0.n.N, iV r0.n.S, iV r0.n.T, sV a2 a3 a5, .map (some a6), iV r0.arcs, .slice a8 a9 a7]) Zj) (hG.mono hwc) e7)) ?_; refine Xh ?_; obtain rfl := ret1 H; exact Xa Zk
 · refine rG Y2 rfl ?_; refine Zb Za ?_; refine Yz (Hm := []) (R := [(eC b8 #[iV r0.n.N, iV r0.n.S, iV r0.n.T, sV a2 a3 a5, .map (some a6), iV r0.arcs, .slice a8 a9 a7] 138), (eA a2 Zl r0.n.Arcs a4 58), (some a6, mapZO (Value.int .i64) r0.said)]) Gu Zk (List.Perm.refl _) rfl (fun wc hwc => Yt (Ns (r0 := r0) (n1 := 4) wc (hwc.rs (f := Zl) (s := 3) (xs := r0.n.Arcs) (j := a4) (fun _ => rfl) Yg b3 b5 b6) (b7.mono hwc) (hwc.hb (cs := [iV r0.n.N, iV r0.n.S, iV r0.n.T, sV a2 a3 a5, .map (some a6), iV r0.arcs, .slice a8 a9 a7]) Zj) e4)) ?_; refine Xh ?_; obtain rfl := ret1 H; exact Xa Zk
theorem Z45 {r0 : DimacsReader} {b1 : List Int} {a3 a5 a6 a7 c5 c0 d4 d6 : Nat} {a2 : Option Nat} {a4 : List Value} {c4 d5 : Option Addr} (w : World) (hin : Inv w (([(eC a3 #[iV r0.n.N, iV r0.n.S, iV r0.n.T, sV a2 a5 a6, .map (some a7), iV r0.arcs, .slice c4 c5 c0] 138), (eA a2 Zl r0.n.Arcs a4 58), (some a7, mapZO (Value.int .i64) r0.said)] : Heap).filterMap Prod.fst) w [(eC a3 #[iV r0.n.N, iV r0.n.S, iV r0.n.T, sV a2 a5 a6, .map (some a7), iV r0.arcs, .slice c4 c5 c0] 138), (eA a2 Zl r0.n.Arcs a4 58), (some a7, mapZO (Value.int .i64) r0.said)]) (b3 : r0.n.Arcs.length = a5) (a8 : a5 ≤ a6) (b5 : a4.length = (a6 - a5) * 3) (a9 : (a2 = none → a6 = 0)) (f8 : RS w (([(eC a3 #[iV r0.n.N, iV r0.n.S, iV r0.n.T, sV a2 a5 a6, .map (some a7), iV r0.arcs, .slice c4 c5 c0] 138), (eA a2 Zl r0.n.Arcs a4 58), (some a7, mapZO (Value.int .i64) r0.said)] : Heap).filterMap Prod.fst) Ye 1 c4 c5 c0 r0.words) (e6 : RS w (([(eC a3 #[iV r0.n.N, iV r0.n.S, iV r0.n.T, sV a2 a5 a6, .map (some a7), iV r0.arcs, .slice c4 c5 c0] 138), (eA a2 Zl r0.n.Arcs a4 58), (some a7, mapZO (Value.int .i64) r0.said)] : Heap).filterMap Prod.fst) (intC .u8) 1 d5 d4 d6 b1) (hG : GK Tryz.prog w (([(eC a3 #[iV r0.n.N, iV r0.n.S, iV r0.n.T, sV a2 a5 a6, .map (some a7), iV r0.arcs, .slice c4 c5 c0] 138), (eA a2 Zl r0.n.Arcs a4 58), (some a7, mapZO (Value.int .i64) r0.said)] : Heap).filterMap Prod.fst)) {q_ : (DimacsReader) ⊕ Unit} (H : Z2a r0 b1 = some q_) : FncS Tryz.prog 98 #[pV a3, .slice d5 d4 d6] w (([(eC a3 #[iV r0.n.N, iV r0.n.S, iV r0.n.T, sV a2 a5 a6, .map (some a7), iV r0.arcs, .slice c4 c5 c0] 138), (eA a2 Zl r0.n.Arcs a4 58), (some a7, mapZO (Value.int .i64) r0.said)] : Heap).filterMap Prod.fst) (.iface 134 (.agg #[])) q_ (fun r_ => fun v N => ∃ (d1 : Option Nat) (e1 e2 : Nat) (f9 : List Value) (d2 : Option Nat) (e3 e4 : Nat) (g0 : List Value), v = .tuple #[] ∧ N = [(eC a3 #[iV r_.n.N, iV r_.n.S, iV r_.n.T, sV d1 e1 e2, .map (some a7), iV r_.arcs, sV d2 e3 e4] 138), (eA d1 Zl r_.n.Arcs f9 58), (some a7, mapZO (Value.int .i64) r_.said), (eA d2 Ye r_.words g0 9)] ∧ r_.n.Arcs.length = e1 ∧ e1 ≤ e2 ∧ f9.length = (e2 - e1) * 3 ∧ (d1 = none → e2 = 0) ∧ r_.words.length = e3 ∧ e3 ≤ e4 ∧ g0.length = (e4 - e3) * 1 ∧ (d2 = none → e4 = 0)) := by
 unfold Z2a at H; refine FncS.enter (vs := [pV a3, .slice d5 d4 d6]) Tryz.func98 rfl rfl hin ?_; refine Zs ?_; obtain ⟨r4, e5, H⟩ := Zp H; refine rG Y6 rfl ?_; refine Zb Za ?_; refine Zb Za ?_; refine Zx Z5u Za (fun wc hwc => Z78 (line0 := b1) wc (e6.mono hwc) e5) ?_; rintro _ _ ⟨b7, n7, c8, j9, rfl, rfl, b6, b8, c6, b9⟩; refine TO.nilCheck Za ?_; refine Zr Za Vt ?_; refine Uz (cs' := [iV r0.n.N, iV r0.n.S, iV r0.n.T, sV a2 a5 a6, .map (some a7), iV r0.arcs, sV b7 n7 c8]) Za Zt Z8o Zk ?_; refine dS ?_; refine Zs ?_; rcases Zw H with ⟨e7, H⟩ | ⟨e7, H⟩
 · refine rG Y16 rfl ?_; refine Zb Za ?_; refine TO.nilCheck Za ?_; refine Zr Za Vt ?_; refine Zu Za Ua Zj rfl ?_; refine Wq (xs := r4) b6 Zc Ui ?_; refine Zv Zn ?_; refine Zb Za ?_; refine Zm (t := 18) (b' := true) rfl (decide_eq_true e7) ?_; refine Zf Za ?_; refine Zf Za ?_; refine Zf Za ?_; refine Zf Za ?_; refine Zf Za ?_; refine Zf Za ?_; refine Zf Za ?_; refine Zf Za ?_; refine Zy Zc ?_; refine dN ?_; refine Zz (aT [0, 27] rfl) ?_; refine Xc rfl rfl ?_; refine T.ret ?_; refine Yh ?_; obtain rfl := ret1 H; show X _ (bodyPost _ _ (Xd _ _ _)) _ _ _; exact Vo Za  (Zg Ze (Zg Zt (Zg Zt (Zg Ze Zh)))) ⟨a2, a5, a6, a4, b7, n7, c8, j9, rfl, rfl, b3, a8, b5, a9, b6, b8, c6, b9⟩
 ·
  obtain ⟨g1, h2, H⟩ := gd2 H; refine rG Y16 rfl ?_; refine Zb Za ?_; refine TO.nilCheck Za ?_; refine Zr Za Vt ?_; refine Zu Za Ua Zj rfl ?_; refine Wq (xs := r4) b6 Zc Ui ?_; refine Zv Zn ?_; refine Zb Za ?_; refine Zm (t := 18) (b' := false) rfl (decide_eq_false e7) ?_; refine Zb Za ?_; refine TO.nilCheck Za ?_; refine Zr Za Vt ?_; refine Zu Za Ua Zj rfl ?_; refine TO.ixV b9 b8 b6 g1 Zc Ui Kw ?_; refine Z5n (f := Ye) (v := .string (bs (r4.getD (0 : Int).toNat ([] : Str)))) ([] : Str) (fun _ => rfl) b9 b8 b6 g1 Zc Jb Yg ?_; refine TO.ixT (p := (r4.getD (0 : Int).toNat ([] : Str))) h2 Zc Un ?_; refine Zv Zn ?_; refine Yc Zc ?_; refine dN ?_; refine Zz (aT [0, 27] rfl) ?_; rcases Zw H with ⟨e8, H⟩ | ⟨e8, H⟩
  · refine Vm rfl e8 ?_; refine T.ret ?_; refine Yh ?_; obtain rfl := ret1 H; show X _ (bodyPost _ _ (Xd _ _ _)) _ _ _; exact Vo Za  (Zg Ze (Zg Zt (Zg Zt (Zg Ze Zh)))) ⟨a2, a5, a6, a4, b7, n7, c8, j9, rfl, rfl, b3, a8, b5, a9, b6, b8, c6, b9⟩
  ·
   refine Vg rfl e8 ?_; refine T.skip ?_; refine Yw ?_; obtain ⟨g2, H⟩ := Yv H; refine sR Y7 rfl ?_; refine Zb Za ?_; refine TO.nilCheck Za ?_; refine Zr Za Vt ?_; refine Zu Za Ua Zj rfl ?_; refine TO.ixV b9 b8 b6 g2 Zc Ui Kw ?_; refine Z5n (f := Ye) (v := .string (bs (r4.getD (0 : Int).toNat ([] : Str)))) ([] : Str) (fun _ => rfl) b9 b8 b6 g2 Zc Jb Yg ?_; refine aN Za ?_; refine Zs ?_; rcases Zw H with ⟨d0, H⟩ | ⟨d0, H⟩
   ·
    refine rG Y18 rfl ?_; refine Lj (α := Value) id Zk ?_; intro c7; refine Zb Za ?_; refine TO.makeFunc Zc ?_; refine Uh (f := id) (u := .func (.func 134) #[pV a3] #[]) (k := ([112] : Str)) (xs := ([] : List (Str × Value))) (xs' := ([(([112] : Str), .func (.func 134) #[pV a3] #[])] : List (Str × Value))) Vb rfl (by simp [Yu]) Zc Ze ?_; refine Zb Za ?_; refine TO.makeFunc Zc ?_; refine Uh (f := id) (u := .func (.func 135) #[pV a3] #[]) (k := ([110] : Str)) (xs := ([(([112] : Str), .func (.func 134) #[pV a3] #[])] : List (Str × Value))) (xs' := ([(([112] : Str), .func (.func 134) #[pV a3] #[]), (([110] : Str), .func (.func 135) #[pV a3] #[])] : List (Str × Value))) Vb rfl (by simp [Yu]) Zc Ze ?_; refine Zb Za ?_; refine TO.makeFunc Zc ?_; refine Uh (f := id) (u := .func (.func 136) #[pV a3] #[]) (k := ([97] : Str)) (xs := ([(([112] : Str), .func (.func 134) #[pV a3] #[]), (([110] : Str), .func (.func 135) #[pV a3] #[])] : List (Str × Value))) (xs' := ([(([112] : Str), .func (.func 134) #[pV a3] #[]), (([110] : Str), .func (.func 135) #[pV a3] #[]), (([97] : Str), .func (.func 136) #[pV a3] #[])] : List (Str × Value))) Vb rfl (by simp [Yu]) Zc Ze ?_; refine Zb Za ?_; refine Zb Za ?_; refine Ro (f := id) (z := .nilFunc) (k := (r4.getD (0 : Int).toNat ([] : Str))) (xs := ([(([112] : Str), .func (.func 134) #[pV a3] #[]), (([110] : Str), .func (.func 135) #[pV a3] #[]), (([97] : Str), .func (.func 136) #[pV a3] #[])] : List (Str × Value))) (u := .func (.func 134) #[pV a3] #[]) (bb := true) Vb Z0o Zc Zj (by simp only [Yn, id]; rw [if_pos d0]) (by simp only [Kr]; rw [if_pos d0]) ?_; refine Zb Za ?_; refine TO.extract Zc ?_; refine TO.extract Zc ?_; refine Xi Za ?_; refine aN Za ?_; refine Zz (aT [0, 4, 5, 6] rfl) ?_; refine Zs ?_; refine Vs (fun (e9 : Unit) => Rp r0 r4 = some q_) (fun (e9 : Unit) => [(5, .func (.func 134) #[pV a3] #[])]) (fun (e9 : Unit) => [(eC a3 #[iV r0.n.N, iV r0.n.S, iV r0.n.T, sV a2 a5 a6, .map (some a7), iV r0.arcs, sV b7 n7 c8] 138), (eA a2 Zl r0.n.Arcs a4 58), (some a7, mapZO (Value.int .i64) r0.said), (eA b7 Ye r4 j9 9)]) ?_ ?_
    ·
     rcases Zw H with ⟨d7, H⟩ | ⟨d7, H⟩
     ·
      obtain ⟨h3, g3, H⟩ := Zp H; rcases h3 with _ | _
      · refine rG Y14 rfl ?_; refine Zb Za ?_; refine Zb Za ?_; refine Zb Za ?_; refine Wv (p := (r4.getD (0 : Int).toNat ([] : Str))) (q := ([112] : Str)) Zc ?_; refine Zb Za ?_; refine Zm (t := 51) (b' := true) rfl (decide_eq_true d7) ?_; refine Zf Za ?_; refine Zf Za ?_; refine Zf Za ?_; refine Zf Za ?_; refine Zf Za ?_; refine Zf Za ?_; refine Zy Zc ?_; refine Zy Zc ?_; refine Zx Xf Za (fun wc hwc => by apply FncS.ok (r := ()); exact Xg (is0 := true) wc  g3) ?_; rintro _ _ ⟨rfl, rfl⟩; refine Zq ?_; exact Wd () H (aF rfl) (Zg Zt (Zg Xq (Zg Xq (Zg Zt Zh))))
      · refine rG Y14 rfl ?_; refine Zb Za ?_; refine Zb Za ?_; refine Zb Za ?_; refine Wv (p := (r4.getD (0 : Int).toNat ([] : Str))) (q := ([112] : Str)) Zc ?_; refine Zb Za ?_; refine Zm (t := 51) (b' := true) rfl (decide_eq_true d7) ?_; refine Zf Za ?_; refine Zf Za ?_; refine Zf Za ?_; refine Zf Za ?_; refine Zf Za ?_; refine Zf Za ?_; refine Zy Zc ?_; refine Zy Zc ?_; refine Yz (Hm := []) (R := [(some c7, mapZO id [(([112] : Str), .func (.func 134) #[pV a3] #[]), (([110] : Str), .func (.func 135) #[pV a3] #[]), (([97] : Str), .func (.func 136) #[pV a3] #[])]), (eC a3 #[iV r0.n.N, iV r0.n.S, iV r0.n.T, sV a2 a5 a6, .map (some a7), iV r0.arcs, sV b7 n7 c8] 138), (eA b7 Ye r4 j9 9), (eA a2 Zl r0.n.Arcs a4 58), (some a7, mapZO (Value.int .i64) r0.said)]) Xf Zk (List.Perm.refl _) rfl (fun wc hwc => Yt (Xg (is0 := true) wc  g3)) ?_; refine Xh ?_; obtain rfl := ret1 H; exact Xa Zk
     ·
      obtain ⟨h4, g4, H⟩ := Zp H; rcases h4 with _ | _
      · refine rG Y14 rfl ?_; refine Zb Za ?_; refine Zb Za ?_; refine Zb Za ?_; refine Wv (p := (r4.getD (0 : Int).toNat ([] : Str))) (q := ([112] : Str)) Zc ?_; refine Zb Za ?_; refine Zm (t := 51) (b' := false) rfl (decide_eq_false d7) ?_; refine Zb Za ?_; refine TO.nilCheck Za ?_; refine Zr Za Xw ?_; refine Zu Za Xy Yg rfl ?_; refine Ku (f := (Value.int .i64)) (z := 0) (k := ([112] : Str)) (xs := r0.said) Xu Wa Zc mm4 rfl ?_; refine Zv Zn ?_; refine Yc Zc ?_; refine Zy Zc ?_; refine Zx Xf Za (fun wc hwc => by apply FncS.ok (r := ()); exact Xg (is0 := (decide ((Yn 0 ([112] : Str) r0.said) = 1))) wc  g4) ?_; rintro _ _ ⟨rfl, rfl⟩; refine Zq ?_; exact Wd () H (aF rfl) (Zg Zt (Zg Xq (Zg Xq (Zg Zt Zh))))
      · refine rG Y14 rfl ?_; refine Zb Za ?_; refine Zb Za ?_; refine Zb Za ?_; refine Wv (p := (r4.getD (0 : Int).toNat ([] : Str))) (q := ([112] : Str)) Zc ?_; refine Zb Za ?_; refine Zm (t := 51) (b' := false) rfl (decide_eq_false d7) ?_; refine Zb Za ?_; refine TO.nilCheck Za ?_; refine Zr Za Xw ?_; refine Zu Za Xy Yg rfl ?_; refine Ku (f := (Value.int .i64)) (z := 0) (k := ([112] : Str)) (xs := r0.said) Xu Wa Zc mm4 rfl ?_; refine Zv Zn ?_; refine Yc Zc ?_; refine Zy Zc ?_; refine Yz (Hm := []) (R := [(some c7, mapZO id [(([112] : Str), .func (.func 134) #[pV a3] #[]), (([110] : Str), .func (.func 135) #[pV a3] #[]), (([97] : Str), .func (.func 136) #[pV a3] #[])]), (eC a3 #[iV r0.n.N, iV r0.n.S, iV r0.n.T, sV a2 a5 a6, .map (some a7), iV r0.arcs, sV b7 n7 c8] 138), (eA b7 Ye r4 j9 9), (eA a2 Zl r0.n.Arcs a4 58), (some a7, mapZO (Value.int .i64) r0.said)]) Xf Zk (List.Perm.refl _) rfl (fun wc hwc => Yt (Xg (is0 := (decide ((Yn 0 ([112] : Str) r0.said) = 1))) wc  g4)) ?_; refine Xh ?_; obtain rfl := ret1 H; exact Xa Zk
    ·
     rintro e9 H; unfold Rp at H; obtain ⟨h5, g5, H⟩ := Zp H; rcases h5 with h6 | _
     · refine rG Y2 rfl ?_; refine Zb Za ?_; refine Z2z Z3k Zc (Zo Ze (Zo Zt (Gone.refl _))) rfl (fun wc hwc => by apply FncS.ok (r := (h6)); exact Z55 (r0 := (DimacsReader.mk r0.n r0.said r0.arcs r4)) wc (hwc.self (Zg Ze (Zg Zt Zh)) rfl) (hwc.rsM (f := Zl) (s := 3) (xs := r0.n.Arcs) (j := a4) (fun _ => rfl) (Zo Ze (Zo Zt (Gone.refl _))) rfl Zj b3 a8 a9) (hwc.rsM (f := Ye) (s := 1) (xs := r4) (j := j9) (fun _ => rfl) (Zo Ze (Zo Zt (Gone.refl _))) rfl Yg b6 b8 b9) (hG.monoM hwc (Zo Ze (Zo Zt (Gone.refl _))) rfl) g5) ?_; rintro _ _ ⟨rfl, rfl⟩; refine Zq ?_; refine Us ?_; obtain rfl := ret1 H; show X _ (bodyPost _ _ (Xd _ _ _)) _ _ _; exact Vo Za  (Zg Ze (Zg Zt (Zg Ze (Zg Ze Zh)))) ⟨a2, a5, a6, a4, b7, n7, c8, j9, rfl, rfl, b3, a8, b5, a9, b6, b8, c6, b9⟩
     · refine rG Y2 rfl ?_; refine Zb Za ?_; refine Z1d (Hm := [(eC a3 #[iV r0.n.N, iV r0.n.S, iV r0.n.T, sV a2 a5 a6, .map (some a7), iV r0.arcs, sV b7 n7 c8] 138), (some a7, mapZO (Value.int .i64) r0.said)]) (R := [(eA a2 Zl r0.n.Arcs a4 58), (eA b7 Ye r4 j9 9)]) Z3k Za (Zo Ze (Zo Zt (Gone.refl _))) rfl (fun wc hwc => Yt (Z55 (r0 := (DimacsReader.mk r0.n r0.said r0.arcs r4)) wc (hwc.self (Zg Ze (Zg Zt Zh)) rfl) (hwc.rsM (f := Zl) (s := 3) (xs := r0.n.Arcs) (j := a4) (fun _ => rfl) (Zo Ze (Zo Zt (Gone.refl _))) rfl Zj b3 a8 a9) (hwc.rsM (f := Ye) (s := 1) (xs := r4) (j := j9) (fun _ => rfl) (Zo Ze (Zo Zt (Gone.refl _))) rfl Yg b6 b8 b9) (hG.monoM hwc (Zo Ze (Zo Zt (Gone.refl _))) rfl) g5)) ?_; obtain rfl := ret1 H; exact Xa Zk
   ·
    rcases Zw H with ⟨d3, H⟩ | ⟨d3, H⟩
    ·
     refine rG Y18 rfl ?_; refine Lj (α := Value) id Zk ?_; intro c7; refine Zb Za ?_; refine TO.makeFunc Zc ?_; refine Uh (f := id) (u := .func (.func 134) #[pV a3] #[]) (k := ([112] : Str)) (xs := ([] : List (Str × Value))) (xs' := ([(([112] : Str), .func (.func 134) #[pV a3] #[])] : List (Str × Value))) Vb rfl (by simp [Yu]) Zc Ze ?_; refine Zb Za ?_; refine TO.makeFunc Zc ?_; refine Uh (f := id) (u := .func (.func 135) #[pV a3] #[]) (k := ([110] : Str)) (xs := ([(([112] : Str), .func (.func 134) #[pV a3] #[])] : List (Str × Value))) (xs' := ([(([112] : Str), .func (.func 134) #[pV a3] #[]), (([110] : Str), .func (.func 135) #[pV a3] #[])] : List (Str × Value))) Vb rfl (by simp [Yu]) Zc Ze ?_; refine Zb Za ?_; refine TO.makeFunc Zc ?_; refine Uh (f := id) (u := .func (.func 136) #[pV a3] #[]) (k := ([97] : Str)) (xs := ([(([112] : Str), .func (.func 134) #[pV a3] #[]), (([110] : Str), .func (.func 135) #[pV a3] #[])] : List (Str × Value))) (xs' := ([(([112] : Str), .func (.func 134) #[pV a3] #[]), (([110] : Str), .func (.func 135) #[pV a3] #[]), (([97] : Str), .func (.func 136) #[pV a3] #[])] : List (Str × Value))) Vb rfl (by simp [Yu]) Zc Ze ?_; refine Zb Za ?_; refine Zb Za ?_; refine Ro (f := id) (z := .nilFunc) (k := (r4.getD (0 : Int).toNat ([] : Str))) (xs := ([(([112] : Str), .func (.func 134) #[pV a3] #[]), (([110] : Str), .func (.func 135) #[pV a3] #[]), (([97] : Str), .func (.func 136) #[pV a3] #[])] : List (Str × Value))) (u := .func (.func 135) #[pV a3] #[]) (bb := true) Vb Z0o Zc Zj (by simp only [Yn, id]; rw [if_neg d0, if_pos d3]) (by simp only [Kr]; rw [if_neg d0, if_pos d3]) ?_; refine Zb Za ?_; refine TO.extract Zc ?_; refine TO.extract Zc ?_; refine Xi Za ?_; refine aN Za ?_; refine Zz (aT [0, 4, 5, 6] rfl) ?_; refine Zs ?_; refine Vs (fun (f0 : Unit) => Z0d r0 r4 = some q_) (fun (f0 : Unit) => [(5, .func (.func 135) #[pV a3] #[])]) (fun (f0 : Unit) => [(eC a3 #[iV r0.n.N, iV r0.n.S, iV r0.n.T, sV a2 a5 a6, .map (some a7), iV r0.arcs, sV b7 n7 c8] 138), (eA a2 Zl r0.n.Arcs a4 58), (some a7, mapZO (Value.int .i64) r0.said), (eA b7 Ye r4 j9 9)]) ?_ ?_
     ·
      rcases Zw H with ⟨d8, H⟩ | ⟨d8, H⟩
      ·
       obtain ⟨h7, g6, H⟩ := Zp H; rcases h7 with _ | _
       · refine rG Y14 rfl ?_; refine Zb Za ?_; refine Zb Za ?_; refine Zb Za ?_; refine Wv (p := (r4.getD (0 : Int).toNat ([] : Str))) (q := ([112] : Str)) Zc ?_; refine Zb Za ?_; refine Zm (t := 51) (b' := true) rfl (decide_eq_true d8) ?_; refine Zf Za ?_; refine Zf Za ?_; refine Zf Za ?_; refine Zf Za ?_; refine Zf Za ?_; refine Zf Za ?_; refine Zy Zc ?_; refine Zy Zc ?_; refine Zx Xf Za (fun wc hwc => by apply FncS.ok (r := ()); exact Xg (is0 := true) wc  g6) ?_; rintro _ _ ⟨rfl, rfl⟩; refine Zq ?_; exact Wd () H (aF rfl) (Zg Zt (Zg Xq (Zg Xq (Zg Zt Zh))))
       · refine rG Y14 rfl ?_; refine Zb Za ?_; refine Zb Za ?_; refine Zb Za ?_; refine Wv (p := (r4.getD (0 : Int).toNat ([] : Str))) (q := ([112] : Str)) Zc ?_; refine Zb Za ?_; refine Zm (t := 51) (b' := true) rfl (decide_eq_true d8) ?_; refine Zf Za ?_; refine Zf Za ?_; refine Zf Za ?_; refine Zf Za ?_; refine Zf Za ?_; refine Zf Za ?_; refine Zy Zc ?_; refine Zy Zc ?_; refine Yz (Hm := []) (R := [(some c7, mapZO id [(([112] : Str), .func (.func 134) #[pV a3] #[]), (([110] : Str), .func (.func 135) #[pV a3] #[]), (([97] : Str), .func (.func 136) #[pV a3] #[])]), (eC a3 #[iV r0.n.N, iV r0.n.S, iV r0.n.T, sV a2 a5 a6, .map (some a7), iV r0.arcs, sV b7 n7 c8] 138), (eA b7 Ye r4 j9 9), (eA a2 Zl r0.n.Arcs a4 58), (some a7, mapZO (Value.int .i64) r0.said)]) Xf Zk (List.Perm.refl _) rfl (fun wc hwc => Yt (Xg (is0 := true) wc  g6)) ?_; refine Xh ?_; obtain rfl := ret1 H; exact Xa Zk
      ·
       obtain ⟨h8, g7, H⟩ := Zp H; rcases h8 with _ | _
       · refine rG Y14 rfl ?_; refine Zb Za ?_; refine Zb Za ?_; refine Zb Za ?_; refine Wv (p := (r4.getD (0 : Int).toNat ([] : Str))) (q := ([112] : Str)) Zc ?_; refine Zb Za ?_; refine Zm (t := 51) (b' := false) rfl (decide_eq_false d8) ?_; refine Zb Za ?_; refine TO.nilCheck Za ?_; refine Zr Za Xw ?_; refine Zu Za Xy Yg rfl ?_; refine Ku (f := (Value.int .i64)) (z := 0) (k := ([112] : Str)) (xs := r0.said) Xu Wa Zc mm4 rfl ?_; refine Zv Zn ?_; refine Yc Zc ?_; refine Zy Zc ?_; refine Zx Xf Za (fun wc hwc => by apply FncS.ok (r := ()); exact Xg (is0 := (decide ((Yn 0 ([112] : Str) r0.said) = 1))) wc  g7) ?_; rintro _ _ ⟨rfl, rfl⟩; refine Zq ?_; exact Wd () H (aF rfl) (Zg Zt (Zg Xq (Zg Xq (Zg Zt Zh))))
       · refine rG Y14 rfl ?_; refine Zb Za ?_; refine Zb Za ?_; refine Zb Za ?_; refine Wv (p := (r4.getD (0 : Int).toNat ([] : Str))) (q := ([112] : Str)) Zc ?_; refine Zb Za ?_; refine Zm (t := 51) (b' := false) rfl (decide_eq_false d8) ?_; refine Zb Za ?_; refine TO.nilCheck Za ?_; refine Zr Za Xw ?_; refine Zu Za Xy Yg rfl ?_; refine Ku (f := (Value.int .i64)) (z := 0) (k := ([112] : Str)) (xs := r0.said) Xu Wa Zc mm4 rfl ?_; refine Zv Zn ?_; refine Yc Zc ?_; refine Zy Zc ?_; refine Yz (Hm := []) (R := [(some c7, mapZO id [(([112] : Str), .func (.func 134) #[pV a3] #[]), (([110] : Str), .func (.func 135) #[pV a3] #[]), (([97] : Str), .func (.func 136) #[pV a3] #[])]), (eC a3 #[iV r0.n.N, iV r0.n.S, iV r0.n.T, sV a2 a5 a6, .map (some a7), iV r0.arcs, sV b7 n7 c8] 138), (eA b7 Ye r4 j9 9), (eA a2 Zl r0.n.Arcs a4 58), (some a7, mapZO (Value.int .i64) r0.said)]) Xf Zk (List.Perm.refl _) rfl (fun wc hwc => Yt (Xg (is0 := (decide ((Yn 0 ([112] : Str) r0.said) = 1))) wc  g7)) ?_; refine Xh ?_; obtain rfl := ret1 H; exact Xa Zk
     ·
      rintro f0 H; unfold Z0d at H; obtain ⟨h9, g8, H⟩ := Zp H; rcases h9 with i4 | _
      · refine rG Y2 rfl ?_; refine Zb Za ?_; refine Z2z Z4q Zc (Zo Ze (Zo Zt (Gone.refl _))) rfl (fun wc hwc => by apply FncS.ok (r := (i4)); exact Z5t (r0 := (DimacsReader.mk r0.n r0.said r0.arcs r4)) wc (hwc.self (Zg Ze (Zg Zt Zh)) rfl) (hwc.rsM (f := Zl) (s := 3) (xs := r0.n.Arcs) (j := a4) (fun _ => rfl) (Zo Ze (Zo Zt (Gone.refl _))) rfl Zj b3 a8 a9) (hwc.rsM (f := Ye) (s := 1) (xs := r4) (j := j9) (fun _ => rfl) (Zo Ze (Zo Zt (Gone.refl _))) rfl Yg b6 b8 b9) (hG.monoM hwc (Zo Ze (Zo Zt (Gone.refl _))) rfl) g8) ?_; rintro _ _ ⟨rfl, rfl⟩; refine Zq ?_; refine Us ?_; obtain rfl := ret1 H; show X _ (bodyPost _ _ (Xd _ _ _)) _ _ _; exact Vo Za  (Zg Ze (Zg Zt (Zg Ze (Zg Ze Zh)))) ⟨a2, a5, a6, a4, b7, n7, c8, j9, rfl, rfl, b3, a8, b5, a9, b6, b8, c6, b9⟩
      · refine rG Y2 rfl ?_; refine Zb Za ?_; refine Z1d (Hm := [(eC a3 #[iV r0.n.N, iV r0.n.S, iV r0.n.T, sV a2 a5 a6, .map (some a7), iV r0.arcs, sV b7 n7 c8] 138), (some a7, mapZO (Value.int .i64) r0.said)]) (R := [(eA a2 Zl r0.n.Arcs a4 58), (eA b7 Ye r4 j9 9)]) Z4q Za (Zo Ze (Zo Zt (Gone.refl _))) rfl (fun wc hwc => Yt (Z5t (r0 := (DimacsReader.mk r0.n r0.said r0.arcs r4)) wc (hwc.self (Zg Ze (Zg Zt Zh)) rfl) (hwc.rsM (f := Zl) (s := 3) (xs := r0.n.Arcs) (j := a4) (fun _ => rfl) (Zo Ze (Zo Zt (Gone.refl _))) rfl Zj b3 a8 a9) (hwc.rsM (f := Ye) (s := 1) (xs := r4) (j := j9) (fun _ => rfl) (Zo Ze (Zo Zt (Gone.refl _))) rfl Yg b6 b8 b9) (hG.monoM hwc (Zo Ze (Zo Zt (Gone.refl _))) rfl) g8)) ?_; obtain rfl := ret1 H; exact Xa Zk
    ·
     rcases Zw H with ⟨d9, H⟩ | ⟨d9, H⟩
     ·
      refine rG Y18 rfl ?_; refine Lj (α := Value) id Zk ?_; intro c7; refine Zb Za ?_; refine TO.makeFunc Zc ?_; refine Uh (f := id) (u := .func (.func 134) #[pV a3] #[]) (k := ([112] : Str)) (xs := ([] : List (Str × Value))) (xs' := ([(([112] : Str), .func (.func 134) #[pV a3] #[])] : List (Str × Value))) Vb rfl (by simp [Yu]) Zc Ze ?_; refine Zb Za ?_; refine TO.makeFunc Zc ?_; refine Uh (f := id) (u := .func (.func 135) #[pV a3] #[]) (k := ([110] : Str)) (xs := ([(([112] : Str), .func (.func 134) #[pV a3] #[])] : List (Str × Value))) (xs' := ([(([112] : Str), .func (.func 134) #[pV a3] #[]), (([110] : Str), .func (.func 135) #[pV a3] #[])] : List (Str × Value))) Vb rfl (by simp [Yu]) Zc Ze ?_; refine Zb Za ?_; refine TO.makeFunc Zc ?_; refine Uh (f := id) (u := .func (.func 136) #[pV a3] #[]) (k := ([97] : Str)) (xs := ([(([112] : Str), .func (.func 134) #[pV a3] #[]), (([110] : Str), .func (.func 135) #[pV a3] #[])] : List (Str × Value))) (xs' := ([(([112] : Str), .func (.func 134) #[pV a3] #[]), (([110] : Str), .func (.func 135) #[pV a3] #[]), (([97] : Str), .func (.func 136) #[pV a3] #[])] : List (Str × Value))) Vb rfl (by simp [Yu]) Zc Ze ?_; refine Zb Za ?_; refine Zb Za ?_; refine Ro (f := id) (z := .nilFunc) (k := (r4.getD (0 : Int).toNat ([] : Str))) (xs := ([(([112] : Str), .func (.func 134) #[pV a3] #[]), (([110] : Str), .func (.func 135) #[pV a3] #[]), (([97] : Str), .func (.func 136) #[pV a3] #[])] : List (Str × Value))) (u := .func (.func 136) #[pV a3] #[]) (bb := true) Vb Z0o Zc Zj (by simp only [Yn, id]; rw [if_neg d0, if_neg d3, if_pos d9]) (by simp only [Kr]; rw [if_neg d0, if_neg d3, if_pos d9]) ?_; refine Zb Za ?_; refine TO.extract Zc ?_; refine TO.extract Zc ?_; refine Xi Za ?_; refine aN Za ?_; refine Zz (aT [0, 4, 5, 6] rfl) ?_; refine Zs ?_; refine Vs (fun (f2 : Unit) => Rb r0 r4 = some q_) (fun (f2 : Unit) => [(5, .func (.func 136) #[pV a3] #[])]) (fun (f2 : Unit) => [(eC a3 #[iV r0.n.N, iV r0.n.S, iV r0.n.T, sV a2 a5 a6, .map (some a7), iV r0.arcs, sV b7 n7 c8] 138), (eA a2 Zl r0.n.Arcs a4 58), (some a7, mapZO (Value.int .i64) r0.said), (eA b7 Ye r4 j9 9)]) ?_ ?_
      ·
       rcases Zw H with ⟨e0, H⟩ | ⟨e0, H⟩
       ·
        obtain ⟨i5, g9, H⟩ := Zp H; rcases i5 with _ | _
        · refine rG Y14 rfl ?_; refine Zb Za ?_; refine Zb Za ?_; refine Zb Za ?_; refine Wv (p := (r4.getD (0 : Int).toNat ([] : Str))) (q := ([112] : Str)) Zc ?_; refine Zb Za ?_; refine Zm (t := 51) (b' := true) rfl (decide_eq_true e0) ?_; refine Zf Za ?_; refine Zf Za ?_; refine Zf Za ?_; refine Zf Za ?_; refine Zf Za ?_; refine Zf Za ?_; refine Zy Zc ?_; refine Zy Zc ?_; refine Zx Xf Za (fun wc hwc => by apply FncS.ok (r := ()); exact Xg (is0 := true) wc  g9) ?_; rintro _ _ ⟨rfl, rfl⟩; refine Zq ?_; exact Wd () H (aF rfl) (Zg Zt (Zg Xq (Zg Xq (Zg Zt Zh))))
        · refine rG Y14 rfl ?_; refine Zb Za ?_; refine Zb Za ?_; refine Zb Za ?_; refine Wv (p := (r4.getD (0 : Int).toNat ([] : Str))) (q := ([112] : Str)) Zc ?_; refine Zb Za ?_; refine Zm (t := 51) (b' := true) rfl (decide_eq_true e0) ?_; refine Zf Za ?_; refine Zf Za ?_; refine Zf Za ?_; refine Zf Za ?_; refine Zf Za ?_; refine Zf Za ?_; refine Zy Zc ?_; refine Zy Zc ?_; refine Yz (Hm := []) (R := [(some c7, mapZO id [(([112] : Str), .func (.func 134) #[pV a3] #[]), (([110] : Str), .func (.func 135) #[pV a3] #[]), (([97] : Str), .func (.func 136) #[pV a3] #[])]), (eC a3 #[iV r0.n.N, iV r0.n.S, iV r0.n.T, sV a2 a5 a6, .map (some a7), iV r0.arcs, sV b7 n7 c8] 138), (eA b7 Ye r4 j9 9), (eA a2 Zl r0.n.Arcs a4 58), (some a7, mapZO (Value.int .i64) r0.said)]) Xf Zk (List.Perm.refl _) rfl (fun wc hwc => Yt (Xg (is0 := true) wc  g9)) ?_; refine Xh ?_; obtain rfl := ret1 H; exact Xa Zk
       ·
        obtain ⟨i6, h0, H⟩ := Zp H; rcases i6 with _ | _
        · refine rG Y14 rfl ?_; refine Zb Za ?_; refine Zb Za ?_; refine Zb Za ?_; refine Wv (p := (r4.getD (0 : Int).toNat ([] : Str))) (q := ([112] : Str)) Zc ?_; refine Zb Za ?_; refine Zm (t := 51) (b' := false) rfl (decide_eq_false e0) ?_; refine Zb Za ?_; refine TO.nilCheck Za ?_; refine Zr Za Xw ?_; refine Zu Za Xy Yg rfl ?_; refine Ku (f := (Value.int .i64)) (z := 0) (k := ([112] : Str)) (xs := r0.said) Xu Wa Zc mm4 rfl ?_; refine Zv Zn ?_; refine Yc Zc ?_; refine Zy Zc ?_; refine Zx Xf Za (fun wc hwc => by apply FncS.ok (r := ()); exact Xg (is0 := (decide ((Yn 0 ([112] : Str) r0.said) = 1))) wc  h0) ?_; rintro _ _ ⟨rfl, rfl⟩; refine Zq ?_; exact Wd () H (aF rfl) (Zg Zt (Zg Xq (Zg Xq (Zg Zt Zh))))
        · refine rG Y14 rfl ?_; refine Zb Za ?_; refine Zb Za ?_; refine Zb Za ?_; refine Wv (p := (r4.getD (0 : Int).toNat ([] : Str))) (q := ([112] : Str)) Zc ?_; refine Zb Za ?_; refine Zm (t := 51) (b' := false) rfl (decide_eq_false e0) ?_; refine Zb Za ?_; refine TO.nilCheck Za ?_; refine Zr Za Xw ?_; refine Zu Za Xy Yg rfl ?_; refine Ku (f := (Value.int .i64)) (z := 0) (k := ([112] : Str)) (xs := r0.said) Xu Wa Zc mm4 rfl ?_; refine Zv Zn ?_; refine Yc Zc ?_; refine Zy Zc ?_; refine Yz (Hm := []) (R := [(some c7, mapZO id [(([112] : Str), .func (.func 134) #[pV a3] #[]), (([110] : Str), .func (.func 135) #[pV a3] #[]), (([97] : Str), .func (.func 136) #[pV a3] #[])]), (eC a3 #[iV r0.n.N, iV r0.n.S, iV r0.n.T, sV a2 a5 a6, .map (some a7), iV r0.arcs, sV b7 n7 c8] 138), (eA b7 Ye r4 j9 9), (eA a2 Zl r0.n.Arcs a4 58), (some a7, mapZO (Value.int .i64) r0.said)]) Xf Zk (List.Perm.refl _) rfl (fun wc hwc => Yt (Xg (is0 := (decide ((Yn 0 ([112] : Str) r0.said) = 1))) wc  h0)) ?_; refine Xh ?_; obtain rfl := ret1 H; exact Xa Zk
      ·
       rintro f2 H; unfold Rb at H; obtain ⟨i7, h1, H⟩ := Zp H; rcases i7 with i8 | _
       · refine rG Y2 rfl ?_; refine Zb Za ?_; refine Z2z Z3w Zc (Zo Ze (Zo Ze (Zo Ze (Gone.refl _)))) rfl (fun wc hwc => by apply FncS.ok (r := (i8)); exact Z56 (r0 := (DimacsReader.mk r0.n r0.said r0.arcs r4)) wc (hwc.self (Zg Ze (Zg Ze (Zg Ze Zh))) rfl) b3 a8 b5 a9 (hwc.rsM (f := Ye) (s := 1) (xs := r4) (j := j9) (fun _ => rfl) (Zo Ze (Zo Ze (Zo Ze (Gone.refl _)))) rfl Zj b6 b8 b9) (hG.monoM hwc (Zo Ze (Zo Ze (Zo Ze (Gone.refl _)))) rfl) h1) ?_; rintro _ _ ⟨f3, i9, c53, j0, rfl, rfl, f4, f5, f6, f7⟩; refine Zq ?_; refine Us ?_; obtain rfl := ret1 H; show X _ (bodyPost _ _ (Xd _ _ _)) _ _ _; exact Vo Za  (Zg Ze (Zg Ze (Zg Ze (Zg Ze Zh)))) ⟨f3, i9, c53, j0, b7, n7, c8, j9, rfl, rfl, f4, f5, f6, f7, b6, b8, c6, b9⟩
       · refine rG Y2 rfl ?_; refine Zb Za ?_; refine Z1d (Hm := [(eC a3 #[iV r0.n.N, iV r0.n.S, iV r0.n.T, sV a2 a5 a6, .map (some a7), iV r0.arcs, sV b7 n7 c8] 138), (eA a2 Zl r0.n.Arcs a4 58), (some a7, mapZO (Value.int .i64) r0.said)]) (R := [(eA b7 Ye r4 j9 9)]) Z3w Za (Zo Ze (Zo Ze (Zo Ze (Gone.refl _)))) rfl (fun wc hwc => Yt (Z56 (r0 := (DimacsReader.mk r0.n r0.said r0.arcs r4)) wc (hwc.self (Zg Ze (Zg Ze (Zg Ze Zh))) rfl) b3 a8 b5 a9 (hwc.rsM (f := Ye) (s := 1) (xs := r4) (j := j9) (fun _ => rfl) (Zo Ze (Zo Ze (Zo Ze (Gone.refl _)))) rfl Zj b6 b8 b9) (hG.monoM hwc (Zo Ze (Zo Ze (Zo Ze (Gone.refl _)))) rfl) h1)) ?_; obtain rfl := ret1 H; exact Xa Zk
     ·
      refine rG Y18 rfl ?_; refine Lj (α := Value) id Zk ?_; intro c7; refine Zb Za ?_; refine TO.makeFunc Zc ?_; refine Uh (f := id) (u := .func (.func 134) #[pV a3] #[]) (k := ([112] : Str)) (xs := ([] : List (Str × Value))) (xs' := ([(([112] : Str), .func (.func 134) #[pV a3] #[])] : List (Str × Value))) Vb rfl (by simp [Yu]) Zc Ze ?_; refine Zb Za ?_; refine TO.makeFunc Zc ?_; refine Uh (f := id) (u := .func (.func 135) #[pV a3] #[]) (k := ([110] : Str)) (xs := ([(([112] : Str), .func (.func 134) #[pV a3] #[])] : List (Str × Value))) (xs' := ([(([112] : Str), .func (.func 134) #[pV a3] #[]), (([110] : Str), .func (.func 135) #[pV a3] #[])] : List (Str × Value))) Vb rfl (by simp [Yu]) Zc Ze ?_; refine Zb Za ?_; refine TO.makeFunc Zc ?_; refine Uh (f := id) (u := .func (.func 136) #[pV a3] #[]) (k := ([97] : Str)) (xs := ([(([112] : Str), .func (.func 134) #[pV a3] #[]), (([110] : Str), .func (.func 135) #[pV a3] #[])] : List (Str × Value))) (xs' := ([(([112] : Str), .func (.func 134) #[pV a3] #[]), (([110] : Str), .func (.func 135) #[pV a3] #[]), (([97] : Str), .func (.func 136) #[pV a3] #[])] : List (Str × Value))) Vb rfl (by simp [Yu]) Zc Ze ?_; refine Zb Za ?_; refine Zb Za ?_; refine Ro (f := id) (z := .nilFunc) (k := (r4.getD (0 : Int).toNat ([] : Str))) (xs := ([(([112] : Str), .func (.func 134) #[pV a3] #[]), (([110] : Str), .func (.func 135) #[pV a3] #[]), (([97] : Str), .func (.func 136) #[pV a3] #[])] : List (Str × Value))) (u := .nilFunc) (bb := false) Vb Z0o Zc Zj (by simp only [Yn, id]; rw [if_neg d0, if_neg d3, if_neg d9]) (by simp only [Kr]; rw [if_neg d0, if_neg d3, if_neg d9]) ?_; refine Zb Za ?_; refine TO.extract Zc ?_; refine TO.extract Zc ?_; refine Xi Za ?_; refine aN Za ?_; refine Zz (aT [0, 4, 5, 6] rfl) ?_; refine Zs ?_; obtain ⟨j1, j2, H⟩ := Zp H; rcases j1 with _ | _
      · cases H
      · refine rG Y14 rfl ?_; refine Zb Za ?_; refine Zb Za ?_; refine Zf Za ?_; refine Zf Za ?_; refine Zf Za ?_; refine Wl Za ?_; refine Wl Za ?_; refine Wl Za ?_; refine Wl Za ?_; refine Wl Za ?_; refine Wl Za ?_; refine Zf Za ?_; refine Yc Zc ?_; refine Yz (Hm := []) (R := [(some c7, mapZO id [(([112] : Str), .func (.func 134) #[pV a3] #[]), (([110] : Str), .func (.func 135) #[pV a3] #[]), (([97] : Str), .func (.func 136) #[pV a3] #[])]), (eC a3 #[iV r0.n.N, iV r0.n.S, iV r0.n.T, sV a2 a5 a6, .map (some a7), iV r0.arcs, sV b7 n7 c8] 138), (eA b7 Ye r4 j9 9), (eA a2 Zl r0.n.Arcs a4 58), (some a7, mapZO (Value.int .i64) r0.said)]) Xf Zk (List.Perm.refl _) rfl (fun wc hwc => Yt (Xg (is0 := false) wc  j2)) ?_; refine Xh ?_; obtain rfl := ret1 H; exact Xa Zk
theorem Z7y (k2 k3 : Nat) (w : World) : CallsDIn (FW none) 0 Tryz.prog 96 (#[] ++ #[pV k2, pV k3]) .returning w (fun e u' w' => (∃ v, e = .returned v) ∧ u' = .returning ∧ Inv w [] w' []) := by
 refine Z3x (vs := [pV k2, pV k3]) (H := []) Tryz.func96 rfl rfl rfl rfl (Inv.refl w) (.inl ⟨rfl, rfl, rfl⟩) ?_; refine T.block ?_; refine sR Y1 rfl ?_; refine Z5b (b := true) (.inl ⟨rfl, rfl⟩) Za Z43 ?_; refine dN ?_; refine Xc rfl rfl ?_; refine rG Y1 rfl ?_; refine Xi Za ?_; refine Zq ?_; refine Wu ?_; exact fun a w hf hi => ⟨.inl rfl, hf.defers, hi.pick Zh⟩
theorem Nz (k2 k3 : Nat) (w : World) {x0 x1 x2 x3 xb : Value} (hi : Inv w (ids [(eC k2 #[x0, x1, x2, x3] 24), (eC k3 #[xb] 4)]) w [(eC k2 #[x0, x1, x2, x3] 24), (eC k3 #[xb] 4)]) : CallsDIn (FW none) 0 Tryz.prog 96 (#[] ++ #[pV k2, pV k3]) (.panicking (Xs (.iface 134 (.agg #[])))) w (fun e u' w' => (∃ v, e = .returned v) ∧ u' = .panicking [{ v := (.iface 134 (.agg #[])), recovered := true }] ∧ Inv w (ids [(eC k2 #[x0, x1, x2, x3] 24), (eC k3 #[xb] 4)]) w' [(eC k2 #[iV 0, iV 0, iV 0, .slice none 0 0] 24), (eC k3 #[.bool false] 4)]) := by
 refine Z3x (vs := [pV k2, pV k3]) (H := [(eC k2 #[x0, x1, x2, x3] 24), (eC k3 #[xb] 4)]) Tryz.func96 rfl rfl rfl rfl hi (.inr ⟨rfl, rfl⟩) ?_; refine T.block ?_; refine sR Y1 rfl ?_; refine Z5b (b := false) (.inr ⟨rfl, _, _, rfl⟩) Za Z43 ?_; refine dN ?_; refine Wk rfl rfl ?_; refine sR Y3 rfl ?_; refine Z5z Z8m Za ?_; refine TO.extract Zc ?_; refine TO.extract Zc ?_; refine dN ?_; refine Xc rfl rfl ?_; refine sR Y2 rfl ?_; refine Vi Zk Z77 ?_; intro b; refine Wy (cs := []) (vs := []) Za Ze Z66 Zk ?_; refine dN ?_; refine rG Y3 rfl ?_; refine Vh (t := 24) [iV 0, iV 0, iV 0, .slice none 0 0] [0, 1, 2, 3] Za (by simp only [Xz, setCells, Value.cells, List.toList_toArray, List.getD_cons_zero, List.getD_cons_succ, List.set_cons_zero, List.set_cons_succ]; rfl) (by kernel_rfl) ?_; refine Wy (cs := [x0, x1, x2, x3]) (vs := [iV 0, iV 0, iV 0, .slice none 0 0]) Za Zt Ky Zk ?_; refine Uz (cs' := [.bool false]) Za Xq Z5f Zk ?_; refine Zq ?_; refine Wu ?_; exact fun a w hf hi => ⟨.inl rfl, hf.defers, hi.pick (Zg Zt (Zg Ze Zh))⟩
theorem Z6q {S_ : Type} {yy_ : S_ → List Int → Option (S_ ⊕ Unit)} {c1 : List Int} {c2 : List Int} {c3 : Int} {tt_ : S_ ⊕ Unit} {c6 : Nat} {e2 : Option Addr} {e4 : Nat} {e1 : Nat} {a2 : Nat} {a6 : Option Addr} {a5 : Nat} {a3 : Nat} {c8 : Nat} {J_ : S_ ⊕ Unit → Heap → Prop} {l_ : Nat} {a4 : Heap} (w : World) (e3 : ∀ u Hs, ¬ J_ (.inr u) Hs) (hin : Inv w (ids (a4 ++ [(eC a2 #[.slice a6 a5 a3] 25)])) w (a4 ++ [(eC a2 #[.slice a6 a5 a3] 25)])) (g0 : J_ tt_ a4) (g5 : YCP Tryz.prog l_ (.iface 134 (.agg #[])) (V := List Int) (fun w M v vals => ∃ (b0 : Option Addr) (n0 c0 : Nat), vals = [.slice b0 n0 c0] ∧ RS w M (intC .u8) 1 b0 n0 c0 v) yy_ J_ (fun HE_ => ∃ (e6 : Option Addr) (e7 e8 : Nat), HE_ = [(eC a2 #[.slice e6 e7 e8] 25)]) w (ids (a4 ++ [(eC a2 #[.slice a6 a5 a3] 25)]))) (d1 : RS w (ids (a4 ++ [(eC a2 #[.slice a6 a5 a3] 25)])) (intC .u8) 1 e2 e4 e1 c1) (a9 : HB w (ids (a4 ++ [(eC a2 #[.slice a6 a5 a3] 25)])) c6 [.slice e2 e4 e1]) (e9 : RS w (ids (a4 ++ [(eC a2 #[.slice a6 a5 a3] 25)])) (intC .u8) 1 a6 a5 a3 c2) (d4 : HB w (ids (a4 ++ [(eC a2 #[.slice a6 a5 a3] 25)])) c8 [iV c3]) {d7 : S_ ⊕ Unit} (H : Z1a yy_ c1 c2 c3 tt_ = some d7) : FncS Tryz.prog 166 #[.func (.yield l_) #[] #[], pV c6, pV a2, pV c8] w (ids (a4 ++ [(eC a2 #[.slice a6 a5 a3] 25)])) (.iface 134 (.agg #[])) d7 (fun s_ => fun v N => v = .tuple #[] ∧ ∃ HE_ Hs_, N = HE_ ++ Hs_ ∧ J_ (.inl s_) Hs_ ∧ ∃ (f0 : Option Addr) (f2 f3 : Nat), HE_ = [(eC a2 #[.slice f0 f2 f3] 25)]) := by
 unfold Z1a at H; refine FncS.enter (vs := [.func (.yield l_) #[] #[], pV c6, pV a2, pV c8]) Tryz.func166 rfl rfl (hin.perm List.perm_append_comm) ?_; refine Zs ?_; refine sR Y3 rfl ?_; refine Vq a9 Zc Km ?_; refine Wq (xs := c1) d1.len Zc Ww ?_; refine Zv Zn ?_; refine dN ?_; refine Vs (fun (u3 : Unit) => Z2g yy_ c1 c2 c3 tt_ = some d7) (fun (u3 : Unit) => [(0, .func (.yield l_) #[] #[]), (1, pV c6), (2, pV a2), (3, pV c8)]) (fun (u3 : Unit) => ((some a2, .cells #[.slice a6 a5 a3] 25 (0, 0)) :: a4)) ?_ ?_
 ·
  rcases Zw H with ⟨g2, H⟩ | ⟨g2, H⟩
  · cases H
  · refine Vg rfl g2 ?_; refine T.skip ?_; exact Wd () H (aF rfl) (Zg Ze (Yq _))
 ·
  rintro u3 H; unfold Z2g at H; refine Zs ?_; refine Z5w (fun (b6 : List Int) (a7 : Option Addr) (d0 c31 : Nat) (b7 : Heap) (b8 : S_ ⊕ Unit) => Z1e yy_ b6 b8 = some d7 ∧ RS w (ids (a4 ++ [(eC a2 #[.slice a6 a5 a3] 25)])) (intC .u8) 1 a7 d0 c31 b6 ∧ J_ b8 b7) (fun (b6 : List Int) (a7 : Option Addr) (d0 c31 : Nat) (b7 : Heap) (b8 : S_ ⊕ Unit) => [(0, .func (.yield l_) #[] #[]), (2, pV a2)]) (fun (b6 : List Int) (a7 : Option Addr) (d0 c31 : Nat) (b7 : Heap) (b8 : S_ ⊕ Unit) => ((some a2, .cells #[.slice a7 d0 c31] 25 (0, 0)) :: b7)) ?_ ?_
  ·
   refine T.block ?_; obtain ⟨g6, g7, f4⟩ := Zp H; refine T.loopE7 (fun (d5 : Nat) (c4 : List Int) (b5 : Option Addr) (n6 c7 : Nat) (d2 : Heap) (a8 : S_ ⊕ Unit) => Wp (fun s => Z04 yy_ c1 c3 s.1 s.2) d5 (c4, a8) = some g6 ∧ RS w (ids (a4 ++ [(eC a2 #[.slice a6 a5 a3] 25)])) (intC .u8) 1 b5 n6 c7 c4 ∧ J_ a8 d2) (fun (d5 : Nat) (c4 : List Int) (b5 : Option Addr) (n6 c7 : Nat) (d2 : Heap) (a8 : S_ ⊕ Unit) => [(0, .func (.yield l_) #[] #[]), (1, pV c6), (2, pV a2), (3, pV c8)]) (fun (d5 : Nat) (c4 : List Int) (b5 : Option Addr) (n6 c7 : Nat) (d2 : Heap) (a8 : S_ ⊕ Unit) => ((some a2, .cells #[.slice b5 n6 c7] 25 (0, 0)) :: d2)) (fun (d5 : Nat) (c4 : List Int) (b5 : Option Addr) (n6 c7 : Nat) (d2 : Heap) (a8 : S_ ⊕ Unit) => d5) Kc c2 a6 a5 a3 a4 tt_ ⟨g7, e9, g0⟩ (aF rfl) (Zg Ze (Yq _)) ?_; rintro d5 c4 b5 n6 c7 d2 a8 ⟨H, b9, d8⟩; obtain ⟨g8, g9, rfl, H, e5⟩ := Nw H; have H : Z04 yy_ c1 c3 c4 a8 = some g9 := H; unfold Z04 at H; refine T.block ?_; refine Zs ?_; obtain ⟨b3, h0, H⟩ := Zp H; refine rG Y4 rfl ?_; refine Zu Za Km Zj rfl ?_; refine Vq a9 Zc Km ?_; refine Zx Z6c Za (fun wc hwc => Z6k (s0 := c4) (sep1 := c1) wc (b9.mono hwc) (d1.mono hwc) h0) ?_; rintro _ _ ⟨rfl, rfl⟩; refine aN Za ?_; refine Zs ?_; refine sR Y2 rfl ?_; refine Zb Za ?_; refine Zv Zn ?_; refine dN ?_; rcases Zw H with ⟨f5, H⟩ | ⟨f5, H⟩
   · refine Vm rfl f5 ?_; refine T.exit ?_; refine Vy ?_; refine Z8t rfl ?_; have H := Uu H e5 ▸ f4; refine Vy ?_; refine Gs ?_; exact X.metE6 c4 b5 n6 c7 d2 a8 ⟨H, b9, d8⟩ (aF rfl) (Zg Ze (Yq _))
   ·
    refine Vg rfl f5 ?_; refine T.skip ?_; refine Yw ?_; obtain ⟨h1, d6, H⟩ := gd2 H; refine sR Y6 rfl ?_; refine Zu Za Km Zj rfl ?_; refine Zb Za ?_; refine Vq d4 Zc Ys ?_; refine Ks h1 Zc ?_; refine TO.slH (xs := c4) b9.len b9.cap d6 Zc Ww Jn ?_; refine aN Za ?_; refine Zz (aT [0, 1, 2, 3, 7, 8] rfl) ?_; refine Zs ?_; refine Zs ?_; obtain ⟨g1, H⟩ := Yv H; obtain ⟨f6, h2, H⟩ := Zp H; refine rG Y9 rfl ?_; refine Zb Za ?_; refine Zb Za ?_; refine Zb Za ?_; refine Wq (xs := (c4.take (b3 + c3).toNat)) ((RS.take b9 d6).len) Zc Ww ?_; refine Zb Za ?_; refine Wq (xs := (c4.take (b3 + c3).toNat)) ((RS.take b9 d6).len) Zc Ww ?_; refine Z3v (xs := (c4.take (b3 + c3).toNat)) ((RS.take b9 d6).len) ((RS.take b9 d6).cap) g1 Zn Ww Jn ?_; refine Z4p (Ho := []) (HE := [(eC a2 #[.slice b5 n6 c7] 25)]) (v := ((c4.take (b3 + c3).toNat).take ((c4.take (b3 + c3).toNat).length : Int).toNat)) (vals := [.slice b5 (((c4.take (b3 + c3).toNat).length : Int).toNat) (((c4.take (b3 + c3).toNat).length : Int).toNat)]) g5 h2 d8 ⟨_, _, _, rfl⟩ Zc (Zo Ze (Gone.refl _)) rfl (fun wc hwc hp => ⟨_, _, _, rfl, ((Z3g (RS.take b9 d6) g1).monoM (by decide) hwc hp rfl)⟩) ?_ ?_
    ·
     rintro rfl; rcases Zw H with ⟨g_, H⟩ | ⟨g_, H⟩
     · have H := Uu H e5 ▸ f4; obtain rfl := ret1 H; refine Xh ?_; refine Xh ?_; refine Lc ?_; refine Xh ?_; refine Lc ?_; refine Xh ?_; exact Z4l Zk
     · exact absurd rfl g_
    intro d9 d3; refine Ry (H := ((some a2, .cells #[.slice b5 n6 c7] 25 (0, 0)) :: d9)) rfl ?_; refine TO.not Za ?_; refine dN ?_; refine Zz (aT [0, 1, 2, 3, 7, 48] rfl) ?_; rcases Zw H with ⟨f7, H⟩ | ⟨f7, H⟩
    ·
     refine Xc rfl f7 ?_; refine T.ret ?_; refine Yh ?_; refine Xp ?_; have H := Uu H e5 ▸ f4; refine Yh ?_; refine Xp ?_; refine Yh ?_; obtain rfl := ret1 H; rcases d7 with s_ | u_
     · show X _ (bodyPost _ _ (Xd _ _ _)) _ _ _; exact Vo Za (Zg Ze (Yq _)) ⟨rfl, [(eC a2 #[.slice b5 n6 c7] 25)], _, rfl, d3, ⟨_, _, _, rfl⟩⟩
     · exact absurd d3 (e3 _ _)
    · refine Wk rfl (Bool.eq_false_iff.2 f7) ?_; refine T.skip ?_; refine Yw ?_; obtain ⟨h3, g3, H⟩ := gd2 H; refine rG Y7 rfl ?_; refine Zu Za Km Zj rfl ?_; refine Zb Za ?_; refine Vq a9 Zc Km ?_; refine Wq (xs := c1) d1.len Zc Ww ?_; refine Ks h3 Zc ?_; refine TO.slL (xs := c4) b9.len g3 Zc Ww Jn ?_; refine Uz (cs' := [.slice (Vl b5 (b3 + (c1.length : Int)).toNat c7 1) (n6 - (b3 + (c1.length : Int)).toNat) (c7 - (b3 + (c1.length : Int)).toNat)]) Za Ze Z9i Zk ?_; refine Zq ?_; refine Wu ?_; have H := La H e5; exact Z64 g8 (c4.drop (b3 + (c1.length : Int)).toNat) (Vl b5 (b3 + (c1.length : Int)).toNat c7 1) (n6 - (b3 + (c1.length : Int)).toNat) (c7 - (b3 + (c1.length : Int)).toNat) d9 f6 ⟨H, (RS.drop b9 g3), d3⟩ (Nat.lt_succ_self _) (aF rfl) (Zg Ze (Yq _))
  ·
   rintro b6 a7 d0 c31 b7 b8 ⟨H, c5, f8⟩; unfold Z1e at H; obtain ⟨g4, H⟩ := Yv H; obtain ⟨h4, h5, H⟩ := Zp H; refine rG Y8 rfl ?_; refine Zb Za ?_; refine Zu Za Km Zj rfl ?_; refine Zu Za Km Zj rfl ?_; refine Wq (xs := b6) c5.len Zc Ww ?_; refine Zu Za Km Zj rfl ?_; refine Wq (xs := b6) c5.len Zc Ww ?_; refine Z3v (xs := b6) c5.len c5.cap g4 Zn Ww Jn ?_; refine Z4p (Ho := []) (HE := [(eC a2 #[.slice a7 d0 c31] 25)]) (v := (b6.take (b6.length : Int).toNat)) (vals := [.slice a7 ((b6.length : Int).toNat) ((b6.length : Int).toNat)]) g5 h5 f8 ⟨_, _, _, rfl⟩ Zc (Zo Ze (Gone.refl _)) rfl (fun wc hwc hp => ⟨_, _, _, rfl, ((Z3g c5 g4).monoM (by decide) hwc hp rfl)⟩) ?_ ?_
   · rintro rfl; obtain rfl := ret1 H; exact Z4l Zk
   intro f9 e0; refine Ry (H := ((some a2, .cells #[.slice a7 d0 c31] 25 (0, 0)) :: f9)) rfl ?_; refine Zq ?_; refine Us ?_; obtain rfl := ret1 H; rcases d7 with s_ | u_
   · show X _ (bodyPost _ _ (Xd _ _ _)) _ _ _; exact Vo Za (Zg Ze (Yq _)) ⟨rfl, [(eC a2 #[.slice a7 d0 c31] 25)], _, rfl, e0, ⟨_, _, _, rfl⟩⟩
   · exact absurd e0 (e3 _ _)
theorem Z6o {b0 : List Int} {e3 : Option Addr} {e4 e2 : Nat} (w : World) (d8 : RS w [] (intC .u8) 1 e3 e4 e2 b0) (hG : GK Tryz.prog w []) {r0 : Net} {r1 : Bool} (H : Z1j b0 = some (r0, r1)) : Fnc Tryz.prog 49 #[.slice e3 e4 e2] w [] (fun v N => ∃ (e6 : Option Nat) (g1 g2 : Nat) (h7 : List Value), v = .tuple #[.agg #[iV r0.N, iV r0.S, iV r0.T, sV e6 g1 g2], .bool r1] ∧ N = [(eA e6 Zl r0.Arcs h7 58)] ∧ r0.Arcs.length = g1 ∧ g1 ≤ g2 ∧ h7.length = (g2 - g1) * 3 ∧ (e6 = none → g2 = 0)) := by
 unfold Z1j at H; refine Z6j (vs := [.slice e3 e4 e2]) Tryz.func49 rfl rfl (Inv.refl w) ?_; refine TA.seq ?_; refine Uj rfl ?_; refine Gb (ll := [0, 1]) rfl ?_; refine Vi Zk Ls ?_; intro b1; refine TO.alloc Zk TWPDM.z4 ?_; intro b3; refine Zq ?_; refine Jw rfl ?_; refine TA.seq ?_; refine Uj rfl ?_; refine Gb (ll := [0, 1]) rfl ?_; refine TO.makeFunc Zc ?_; refine Z6z Za ?_; refine Zq ?_; refine Jw rfl ?_; refine TA.seq ?_; refine Uj rfl ?_; refine Gb (ll := [0, 1, 2, 3, 4]) rfl ?_; refine Lj (Value.int .i64) Zk ?_; intro b5; refine Vh (t := 138) [iV 0, iV 0, iV 0, .slice none 0 0, .map none, iV 0, .slice none 0 0] [0, 4, 5, 6] Za (by simp only [Xz, setCells, Value.cells, List.toList_toArray, List.getD_cons_zero, List.getD_cons_succ, List.set_cons_zero, List.set_cons_succ]; rfl) (by kernel_rfl) ?_; refine Ws Za ?_; intro b7; refine TO.alloc Zk Za0 ?_; intro b9; refine Uz (cs' := [pV b7]) Za Ze Z83 Zk ?_; refine Zq ?_; refine Jw rfl ?_; refine TA.seq ?_; refine TA.seq ?_; obtain ⟨⟨⟩, j2, H⟩ := Zp H; refine Uj rfl ?_; refine Gb (ll := [0, 1, 2]) rfl ?_; refine Zb Za ?_; refine Z07 [.int .u8 0] [0] Za Ww Jn Z4y Wb (by simp only [Xz, setCells, Value.cells, List.toList_toArray, List.getD_cons_zero, List.getD_cons_succ, List.set_cons_zero, List.set_cons_succ]; rfl) (by kernel_rfl) ?_; intro a8; refine Zx Z8a Za (fun wc hwc => Z9y (s0 := b0) (sep1 := [10]) wc (d8.mono hwc) (hwc.rs (f := (intC .u8)) (s := 1) (xs := [10]) (j := ([])) (fun _ => rfl) Zj rfl (Nat.le_refl _) Nu) j2) ?_; rintro _ _ ⟨d5, d2, d6, rfl, rfl⟩; refine Zq ?_; refine Jw rfl ?_; refine TA.block ?_; obtain ⟨j3, j4, h8⟩ := Zp H; refine Z6m (S := (Int × Int × Int × List Arc × (List (Str × Int)) × Int × List Str)) (V := List Int) rfl Tryz.func49 Z7w rfl rfl (.iface 134 (.agg #[])) (fun w M v vals => ∃ (b0 : Option Addr) (n0 c0 : Nat), vals = [.slice b0 n0 c0] ∧ RS w M (intC .u8) 1 b0 n0 c0 v) (by rintro _ _ _ _ ⟨_, _, _, rfl, _⟩; rfl) (fun s v => Le s.1 s.2.1 s.2.2.1 s.2.2.2.1 s.2.2.2.2.1 s.2.2.2.2.2.1 s.2.2.2.2.2.2 v) (fun t Hq => match t with | (c5, c6, n22, a9, a4, a3, a2) => ∃ (n24 c25 : Nat) (a5 : Option Nat) (d1 : List Value) (c7 c8 : Nat) (a6 : Option Nat) (d0 : List Value), Hq = [(eC b7 #[iV c5, iV c6, iV n22, sV a5 n24 c25, .map (some b5), iV a3, sV a6 c7 c8] 138), (eA a5 Zl a9 d1 58), (some b5, mapZO (Value.int .i64) a4), (eA a6 Ye a2 d0 9)] ∧ a9.length = n24 ∧ n24 ≤ c25 ∧ d1.length = (c25 - n24) * 3 ∧ (a5 = none → c25 = 0) ∧ a2.length = c7 ∧ c7 ≤ c8 ∧ d0.length = (c8 - c7) * 1 ∧ (a6 = none → c8 = 0)) (fun HE_ => ∃ (g4 : Option Addr) (g5 g6 : Nat), HE_ = [(eC d2 #[.slice g4 g5 g6] 25)]) (fun HE_ => ∃ (b6 : Option Addr) (b8 c4 : Nat), HE_ = [(eC d2 #[.slice b6 b8 c4] 25)]) (0, 0, 0, [], ([] : List (Str × Int)), 0, []) j3 [(eC b7 #[iV 0, iV 0, iV 0, .slice none 0 0, .map (some b5), iV 0, .slice none 0 0] 138), (eA none Zl [] [] 58), (some b5, mapZO (Value.int .i64) ([] : List (Str × Int))), (eA none Ye [] [] 9)] [(eC d2 #[.slice e3 e4 e2] 25)] [(eC d5 #[nV a8 1 1] 25), (eC d6 #[iV 0] 3), (eA (some a8) (intC .u8) ([10]) ([]) 5), (eC b9 #[pV b7] 135), (eC b3 #[.bool false] 4), (eC b1 #[iV 0, iV 0, iV 0, .slice none 0 0] 24)] ⟨0, 0, none, ([]), 0, 0, none, ([]), rfl, rfl, (Nat.le_refl _), (Ki 0 _), (fun _ => rfl), rfl, (Nat.le_refl _), (Ki 0 _), (fun _ => rfl)⟩ (Zg Zt (Zg Ze (Zg Ze (Zg Ze (Zg Ze (Zg Xq (Zg Xq (Zg Ze (Pick.none (Zg Ze (Pick.none (Yq _)))))))))))) ?_ ?_ ?_ ?_
 · intro lp wc J_ H0_ hJr_ hJ_ hin_ hY_ lo_ hwc j5; subst j5; exact Z6q (yy_ := (fun s v => Le s.1 s.2.1 s.2.2.1 s.2.2.2.1 s.2.2.2.2.1 s.2.2.2.2.2.1 s.2.2.2.2.2.2 v)) (c1 := [10]) (c2 := b0) (c3 := 0) (tt_ := .inl (0, 0, 0, [], ([] : List (Str × Int)), 0, [])) (J_ := J_) wc hJr_ hin_ hJ_ hY_ (hwc.rsM (f := (intC .u8)) (s := 1) (xs := [10]) (j := ([])) (fun _ => rfl) (List.Perm.refl _) rfl mm2 rfl (Nat.le_refl _) Nu) (hwc.hbM (cs := [nV a8 1 1]) (List.Perm.refl _) rfl Zj) (d8.monoM (by decide) hwc (List.Perm.refl _) rfl) (hwc.hbM (cs := [iV 0]) (List.Perm.refl _) rfl Yg) j4
 ·
  rintro lp k9 ⟨c5, c6, n22, a9, a4, a3, a2⟩ g7 j6 _ _ _ hy ⟨n24, c25, a5, d1, c7, c8, a6, d0, rfl, d4, d9, e0, e1, e7, e8, g8, e9⟩ ⟨f4, f5, f6, rfl⟩ ⟨f7, f8, f9, rfl, d3⟩ j7 j8; refine rG Y1 rfl ?_; refine Xi Za ?_; refine Zq ?_; refine X.asgX [(2, pV b1), (3, pV b3), (4, pV b9), (13, .slice f7 f8 f9), (5, .slice f7 f8 f9)] [(eC d2 #[.slice f4 f5 f6] 25), (eC b7 #[iV c5, iV c6, iV n22, sV a5 n24 c25, .map (some b5), iV a3, sV a6 c7 c8] 138), (eA a5 Zl a9 d1 58), (some b5, mapZO (Value.int .i64) a4), (eA a6 Ye a2 d0 9)] (aF rfl) (Yq _) ?_; intro l0 j9 hwc k0; have d8 := d8.monoM (by decide) hwc (List.Perm.refl _) rfl; have d7 := hwc.hbM (cs := [pV b7]) (List.Perm.refl _) rfl mm3; have h9 := hwc.hbM (cs := [iV 0, iV 0, iV 0, .slice none 0 0]) (List.Perm.refl _) rfl We; have i4 := hwc.hbM (cs := [.bool false]) (List.Perm.refl _) rfl mm4; have d3 := d3.monoM (by decide) k0 (List.Perm.of_eq (List.append_nil _).symm) rfl; have hG := hG.monoM hwc (List.Perm.refl _) rfl; have H : Le c5 c6 n22 a9 a4 a3 a2 g7 = some j6 := hy; unfold Le at H; refine T.block ?_; obtain ⟨k1, i5, H⟩ := Zp H; rcases k1 with e5 | _
  · refine rG Y3 rfl ?_; refine Vq d7 Zc Wh ?_; refine Zb Za ?_; refine Z1k Z4u Za (Zo Zt (Zo Zt (Zo Zt (Gone.refl _)))) rfl (fun wc hwc => by apply FncS.ok (r := (e5)); exact Z45 (r0 := (DimacsReader.mk (Net.mk c5 c6 n22 a9) a4 a3 a2)) (b1 := g7) wc (hwc.self (Zg Zt (Zg Zt (Zg Zt Zh))) rfl) d4 d9 e0 e1 (hwc.rsM (f := Ye) (s := 1) (xs := a2) (j := d0) (fun _ => rfl) (Zo Zt (Zo Zt (Zo Zt (Gone.refl _)))) rfl Yg e7 e8 e9) (d3.monoM (by decide) hwc (Zo Zt (Zo Zt (Zo Zt (Gone.refl _)))) rfl) (hG.monoM hwc (Zo Zt (Zo Zt (Zo Zt (Gone.refl _)))) rfl) i5) ?_; rintro _ _ ⟨f0, i6, c60, i7, f2, i8, i9, j0, rfl, rfl, g9, h0, h1, h2, h3, h4, h5, h6⟩; refine Zq ?_; refine Wu ?_; exact X.rpNext H Wb ⟨[(eC b7 #[iV e5.n.N, iV e5.n.S, iV e5.n.T, sV f0 i6 c60, .map (some b5), iV e5.arcs, sV f2 i8 i9] 138), (eA f0 Zl e5.n.Arcs i7 58), (some b5, mapZO (Value.int .i64) e5.said), (eA f2 Ye e5.words j0 9)], rfl, ⟨i6, c60, f0, i7, i8, i9, f2, j0, rfl, g9, h0, h1, h2, h3, h4, h5, h6⟩⟩ (Zg tk4 (Zg Ze (Zg Ze (Zg Ze (Zg Ze Zh)))))
  · refine rG Y3 rfl ?_; refine Vq d7 Zc Wh ?_; refine Zb Za ?_; refine Yz (Hm := [(eC b7 #[iV c5, iV c6, iV n22, sV a5 n24 c25, .map (some b5), iV a3, sV a6 c7 c8] 138), (eA a5 Zl a9 d1 58), (some b5, mapZO (Value.int .i64) a4)]) (R := [(eC d2 #[.slice f4 f5 f6] 25), (eA a6 Ye a2 d0 9)]) Z4u Zk (Zo Zt (Zo Zt (Zo Zt (Gone.refl _)))) rfl (fun wc hwc => Yt (Z45 (r0 := (DimacsReader.mk (Net.mk c5 c6 n22 a9) a4 a3 a2)) (b1 := g7) wc (hwc.self (Zg Zt (Zg Zt (Zg Zt Zh))) rfl) d4 d9 e0 e1 (hwc.rsM (f := Ye) (s := 1) (xs := a2) (j := d0) (fun _ => rfl) (Zo Zt (Zo Zt (Zo Zt (Gone.refl _)))) rfl Yg e7 e8 e9) (d3.monoM (by decide) hwc (Zo Zt (Zo Zt (Zo Zt (Gone.refl _)))) rfl) (hG.monoM hwc (Zo Zt (Zo Zt (Zo Zt (Gone.refl _)))) rfl) i5)) ?_; refine Lc ?_; exact X.rpPan H Zk
 ·
  rintro ⟨c5, c6, n22, a9, a4, a3, a2⟩ ht a7 _ _ ⟨n24, c25, a5, d1, c7, c8, a6, d0, rfl, d4, d9, e0, e1, e7, e8, g8, e9⟩ ⟨b6, b8, c4, rfl⟩; subst ht; have H : (if (Yn 0 ([112] : Str) a4) = 1 then (if (Yn 0 ([115] : Str) a4) = 1 then (if (Yn 0 ([116] : Str) a4) = 1 then (Option.bind (Xm (decide ((a9.length : Int) = a3))) fun t => match t with | .inl _ => (some ((Net.mk c5 c6 n22 a9), true)) | .inr _ => some ((Net.mk 0 0 0 ([])), false)) else Option.bind (Xm false) fun t => match t with | .inl _ => (none) | .inr _ => some ((Net.mk 0 0 0 ([])), false)) else Option.bind (Xm false) fun t => match t with | .inl _ => (none) | .inr _ => some ((Net.mk 0 0 0 ([])), false)) else Option.bind (Xm false) fun t => match t with | .inl _ => (none) | .inr _ => some ((Net.mk 0 0 0 ([])), false)) = some (r0, r1) := h8; refine Z5h (H := [(eC d2 #[.slice b6 b8 c4] 25), (some a7, mkO), (eC d5 #[nV a8 1 1] 25), (eC d6 #[iV 0] 3), (eA (some a8) (intC .u8) ([10]) ([]) 5), (eC b9 #[pV b7] 135), (eC b3 #[.bool false] 4), (eC b1 #[iV 0, iV 0, iV 0, .slice none 0 0] 24), (eC b7 #[iV c5, iV c6, iV n22, sV a5 n24 c25, .map (some b5), iV a3, sV a6 c7 c8] 138), (eA a5 Zl a9 d1 58), (some b5, mapZO (Value.int .i64) a4), (eA a6 Ye a2 d0 9)]) rfl ?_; refine Wu ?_; refine Jw rfl ?_; refine Z3s (aT [2, 3, 4] rfl) ?_; refine TA.seq ?_; rcases Zw H with ⟨f3, H⟩ | ⟨f3, H⟩
  ·
   rcases Zw H with ⟨g0, H⟩ | ⟨g0, H⟩
   ·
    rcases Zw H with ⟨g3, H⟩ | ⟨g3, H⟩
    ·
     obtain ⟨k2, j1, H⟩ := Zp H; rcases k2 with _ | _
     · refine Uj rfl ?_; refine Gx 33 [0, 1, 2, 3, 4, 5, 6, 7, 8, 9, 10, 11, 12, 13, 14, 15, 16, 17, 18, 19, 20, 21, 22, 23, 24, 25, 26, 27, 28, 29, 30, 31, 32] rfl Kz (by kernel_rfl) (by kernel_rfl) rfl (by kernel_rfl) ?_; refine Yr Za Wh We rfl ?_; refine TQ.nilCheck Za ?_; refine Xv Za Xw ?_; refine Yr Za Xy Wi rfl ?_; refine Uc (f := (Value.int .i64)) (z := 0) (k := ([112] : Str)) (xs := a4) Xu Wa Zc Vz rfl ?_; refine Ue Zn ?_; refine TQ.move Za ?_; refine Ud (t := 23) (b' := true) rfl (decide_eq_true f3) ?_; refine Yr Za Wh We rfl ?_; refine TQ.nilCheck Za ?_; refine Xv Za Xw ?_; refine Yr Za Xy Wi rfl ?_; refine Uc (f := (Value.int .i64)) (z := 0) (k := ([115] : Str)) (xs := a4) Xu Wa Zc Vz rfl ?_; refine Ue Zn ?_; refine Jq Zc ?_; refine TQ.move Za ?_; refine Ud (t := 31) (b' := true) rfl (decide_eq_true g0) ?_; refine Yr Za Wh We rfl ?_; refine TQ.nilCheck Za ?_; refine Xv Za Xw ?_; refine Yr Za Xy Wi rfl ?_; refine Uc (f := (Value.int .i64)) (z := 0) (k := ([116] : Str)) (xs := a4) Xu Wa Zc Vz rfl ?_; refine Ue Zn ?_; refine Jq Zc ?_; refine TQ.move Za ?_; refine Ud (t := 39) (b' := true) rfl (decide_eq_true g3) ?_; refine Yr Za Wh We rfl ?_; refine TQ.nilCheck Za ?_; refine Xv Za Uk ?_; refine Xv Za Vp ?_; refine Yr Za Vv Wi rfl ?_; refine Z53 (xs := a9) d4 Zc Wx ?_; refine Yr Za Wh We rfl ?_; refine TQ.nilCheck Za ?_; refine Xv Za Z1h ?_; refine Yr Za Jy Wi rfl ?_; refine TQ.tail [33, 34, 35] Wb ?_; refine Zv Zn ?_; refine Zy Zc ?_; refine Zx Xf Za (fun wc hwc => by apply FncS.ok (r := ()); exact Xg (is0 := (decide ((a9.length : Int) = a3))) wc  j1) ?_; rintro _ _ ⟨rfl, rfl⟩; refine Zq ?_; refine Jw rfl ?_; refine Z3s (aT [2, 3, 4] rfl) ?_; refine TA.seq ?_; refine Uj rfl ?_; refine Gb (ll := [0, 1, 2, 3, 4, 5]) rfl ?_; refine Zu Za Wh We rfl ?_; refine TO.nilCheck Za ?_; refine Zr Za Uk ?_; refine TO.loadP (vs := [iV c5, iV c6, iV n22, sV a5 n24 c25]) Za Xb Wi Wb ?_; refine Wy Za tk7 Ky Zk ?_; refine Uz (cs' := [.bool true]) Za tk7 Z5f Zk ?_; refine Zq ?_; refine Jw rfl ?_; refine Uj rfl ?_; refine T.ret ?_; obtain ⟨rfl, rfl⟩ := ret2 H; exact X.retC [a7] Zc Gh (fun w => Z7y b1 b3 w) (Zg tk3 (Yq _)) (Nl (Ka rfl Xb Yg rfl) (Gn rfl Ng Zj rfl)) Wb (Zg tk8 Zh) ⟨a5, n24, c25, d1, rfl, rfl, d4, d9, e0, e1⟩
     · refine Uj rfl ?_; refine Gx 33 [0, 1, 2, 3, 4, 5, 6, 7, 8, 9, 10, 11, 12, 13, 14, 15, 16, 17, 18, 19, 20, 21, 22, 23, 24, 25, 26, 27, 28, 29, 30, 31, 32] rfl Kz (by kernel_rfl) (by kernel_rfl) rfl (by kernel_rfl) ?_; refine Yr Za Wh We rfl ?_; refine TQ.nilCheck Za ?_; refine Xv Za Xw ?_; refine Yr Za Xy Wi rfl ?_; refine Uc (f := (Value.int .i64)) (z := 0) (k := ([112] : Str)) (xs := a4) Xu Wa Zc Vz rfl ?_; refine Ue Zn ?_; refine TQ.move Za ?_; refine Ud (t := 23) (b' := true) rfl (decide_eq_true f3) ?_; refine Yr Za Wh We rfl ?_; refine TQ.nilCheck Za ?_; refine Xv Za Xw ?_; refine Yr Za Xy Wi rfl ?_; refine Uc (f := (Value.int .i64)) (z := 0) (k := ([115] : Str)) (xs := a4) Xu Wa Zc Vz rfl ?_; refine Ue Zn ?_; refine Jq Zc ?_; refine TQ.move Za ?_; refine Ud (t := 31) (b' := true) rfl (decide_eq_true g0) ?_; refine Yr Za Wh We rfl ?_; refine TQ.nilCheck Za ?_; refine Xv Za Xw ?_; refine Yr Za Xy Wi rfl ?_; refine Uc (f := (Value.int .i64)) (z := 0) (k := ([116] : Str)) (xs := a4) Xu Wa Zc Vz rfl ?_; refine Ue Zn ?_; refine Jq Zc ?_; refine TQ.move Za ?_; refine Ud (t := 39) (b' := true) rfl (decide_eq_true g3) ?_; refine Yr Za Wh We rfl ?_; refine TQ.nilCheck Za ?_; refine Xv Za Uk ?_; refine Xv Za Vp ?_; refine Yr Za Vv Wi rfl ?_; refine Z53 (xs := a9) d4 Zc Wx ?_; refine Yr Za Wh We rfl ?_; refine TQ.nilCheck Za ?_; refine Xv Za Z1h ?_; refine Yr Za Jy Wi rfl ?_; refine TQ.tail [33, 34, 35] Wb ?_; refine Zv Zn ?_; refine Zy Zc ?_; refine Yz (Hm := []) (R := [(eC d2 #[.slice b6 b8 c4] 25), (some a7, mkO), (eC d5 #[nV a8 1 1] 25), (eC d6 #[iV 0] 3), (eA (some a8) (intC .u8) ([10]) ([]) 5), (eC b9 #[pV b7] 135), (eC b3 #[.bool false] 4), (eC b1 #[iV 0, iV 0, iV 0, .slice none 0 0] 24), (eC b7 #[iV c5, iV c6, iV n22, sV a5 n24 c25, .map (some b5), iV a3, sV a6 c7 c8] 138), (eA a5 Zl a9 d1 58), (some b5, mapZO (Value.int .i64) a4), (eA a6 Ye a2 d0 9)]) Xf Zk (List.Perm.refl _) rfl (fun wc hwc => Yt (Xg (is0 := (decide ((a9.length : Int) = a3))) wc  j1)) ?_; refine Xh ?_; obtain ⟨rfl, rfl⟩ := ret2 H; exact Lg (Hc := [(eC b1 #[iV 0, iV 0, iV 0, .slice none 0 0] 24), (eC b3 #[.bool false] 4)]) (Hc' := [(eC b1 #[iV 0, iV 0, iV 0, .slice none 0 0] 24), (eC b3 #[.bool false] 4)]) (R := [(eC d2 #[.slice b6 b8 c4] 25), (eC d5 #[nV a8 1 1] 25), (eC d6 #[iV 0] 3), (eA (some a8) (intC .u8) ([10]) ([]) 5), (eC b9 #[pV b7] 135), (eC b7 #[iV c5, iV c6, iV n22, sV a5 n24 c25, .map (some b5), iV a3, sV a6 c7 c8] 138), (eA a5 Zl a9 d1 58), (some b5, mapZO (Value.int .i64) a4), (eA a6 Ye a2 d0 9)]) [a7] Zc Gh (fun w hi => Nz b1 b3 w hi) (Zg Zt (Zg tk6 (Zg tk5 (Zg Ze (Zg Ze (Zg Ze (Zg Ze (Zg Ze (Zg Ze (Zg Ze (Zg Ze (Zg Ze (Yq _))))))))))))) (Nl (Ka rfl Xb Zj rfl) (Gn rfl Ng Yg rfl)) Wb (Pick.none Zh) ⟨none, 0, 0, ([]), rfl, rfl, rfl, (Nat.le_refl _), (Ki 0 _), (fun _ => rfl)⟩
    ·
     obtain ⟨k3, k4, H⟩ := Zp H; rcases k3 with _ | _
     · cases H
     · refine Uj rfl ?_; refine Gx 33 [0, 1, 2, 3, 4, 5, 6, 7, 8, 9, 10, 11, 12, 13, 14, 15, 16, 17, 18, 19, 20, 21, 22, 23, 24, 25, 26, 27, 28, 29, 30, 31, 32] rfl Kz (by kernel_rfl) (by kernel_rfl) rfl (by kernel_rfl) ?_; refine Yr Za Wh We rfl ?_; refine TQ.nilCheck Za ?_; refine Xv Za Xw ?_; refine Yr Za Xy Wi rfl ?_; refine Uc (f := (Value.int .i64)) (z := 0) (k := ([112] : Str)) (xs := a4) Xu Wa Zc Vz rfl ?_; refine Ue Zn ?_; refine TQ.move Za ?_; refine Ud (t := 23) (b' := true) rfl (decide_eq_true f3) ?_; refine Yr Za Wh We rfl ?_; refine TQ.nilCheck Za ?_; refine Xv Za Xw ?_; refine Yr Za Xy Wi rfl ?_; refine Uc (f := (Value.int .i64)) (z := 0) (k := ([115] : Str)) (xs := a4) Xu Wa Zc Vz rfl ?_; refine Ue Zn ?_; refine Jq Zc ?_; refine TQ.move Za ?_; refine Ud (t := 31) (b' := true) rfl (decide_eq_true g0) ?_; refine Yr Za Wh We rfl ?_; refine TQ.nilCheck Za ?_; refine Xv Za Xw ?_; refine Yr Za Xy Wi rfl ?_; refine Uc (f := (Value.int .i64)) (z := 0) (k := ([116] : Str)) (xs := a4) Xu Wa Zc Vz rfl ?_; refine Ue Zn ?_; refine Jq Zc ?_; refine TQ.move Za ?_; refine Ud (t := 39) (b' := false) rfl (decide_eq_false g3) ?_; refine Yj Za ?_; refine Yj Za ?_; refine Yj Za ?_; refine Yj Za ?_; refine Yj Za ?_; refine Yj Za ?_; refine Yj Za ?_; refine Yj Za ?_; refine Yj Za ?_; refine Yj Za ?_; refine TQ.tail [33, 34, 35] Wb ?_; refine Zf Za ?_; refine Yc Zc ?_; refine Yz (Hm := []) (R := [(eC d2 #[.slice b6 b8 c4] 25), (some a7, mkO), (eC d5 #[nV a8 1 1] 25), (eC d6 #[iV 0] 3), (eA (some a8) (intC .u8) ([10]) ([]) 5), (eC b9 #[pV b7] 135), (eC b3 #[.bool false] 4), (eC b1 #[iV 0, iV 0, iV 0, .slice none 0 0] 24), (eC b7 #[iV c5, iV c6, iV n22, sV a5 n24 c25, .map (some b5), iV a3, sV a6 c7 c8] 138), (eA a5 Zl a9 d1 58), (some b5, mapZO (Value.int .i64) a4), (eA a6 Ye a2 d0 9)]) Xf Zk (List.Perm.refl _) rfl (fun wc hwc => Yt (Xg (is0 := false) wc  k4)) ?_; refine Xh ?_; obtain ⟨rfl, rfl⟩ := ret2 H; exact Lg (Hc := [(eC b1 #[iV 0, iV 0, iV 0, .slice none 0 0] 24), (eC b3 #[.bool false] 4)]) (Hc' := [(eC b1 #[iV 0, iV 0, iV 0, .slice none 0 0] 24), (eC b3 #[.bool false] 4)]) (R := [(eC d2 #[.slice b6 b8 c4] 25), (eC d5 #[nV a8 1 1] 25), (eC d6 #[iV 0] 3), (eA (some a8) (intC .u8) ([10]) ([]) 5), (eC b9 #[pV b7] 135), (eC b7 #[iV c5, iV c6, iV n22, sV a5 n24 c25, .map (some b5), iV a3, sV a6 c7 c8] 138), (eA a5 Zl a9 d1 58), (some b5, mapZO (Value.int .i64) a4), (eA a6 Ye a2 d0 9)]) [a7] Zc Gh (fun w hi => Nz b1 b3 w hi) (Zg Zt (Zg tk6 (Zg tk5 (Zg Ze (Zg Ze (Zg Ze (Zg Ze (Zg Ze (Zg Ze (Zg Ze (Zg Ze (Zg Ze (Yq _))))))))))))) (Nl (Ka rfl Xb Zj rfl) (Gn rfl Ng Yg rfl)) Wb (Pick.none Zh) ⟨none, 0, 0, ([]), rfl, rfl, rfl, (Nat.le_refl _), (Ki 0 _), (fun _ => rfl)⟩
   ·
    obtain ⟨k5, k6, H⟩ := Zp H; rcases k5 with _ | _
    · cases H
    · refine Uj rfl ?_; refine Gx 33 [0, 1, 2, 3, 4, 5, 6, 7, 8, 9, 10, 11, 12, 13, 14, 15, 16, 17, 18, 19, 20, 21, 22, 23, 24, 25, 26, 27, 28, 29, 30, 31, 32] rfl Kz (by kernel_rfl) (by kernel_rfl) rfl (by kernel_rfl) ?_; refine Yr Za Wh We rfl ?_; refine TQ.nilCheck Za ?_; refine Xv Za Xw ?_; refine Yr Za Xy Wi rfl ?_; refine Uc (f := (Value.int .i64)) (z := 0) (k := ([112] : Str)) (xs := a4) Xu Wa Zc Vz rfl ?_; refine Ue Zn ?_; refine TQ.move Za ?_; refine Ud (t := 23) (b' := true) rfl (decide_eq_true f3) ?_; refine Yr Za Wh We rfl ?_; refine TQ.nilCheck Za ?_; refine Xv Za Xw ?_; refine Yr Za Xy Wi rfl ?_; refine Uc (f := (Value.int .i64)) (z := 0) (k := ([115] : Str)) (xs := a4) Xu Wa Zc Vz rfl ?_; refine Ue Zn ?_; refine Jq Zc ?_; refine TQ.move Za ?_; refine Ud (t := 31) (b' := false) rfl (decide_eq_false g0) ?_; refine Yj Za ?_; refine Yj Za ?_; refine Yj Za ?_; refine Yj Za ?_; refine Yj Za ?_; refine Yj Za ?_; refine Z0s Zc ?_; refine TQ.move Za ?_; refine Yj Za ?_; refine Yj Za ?_; refine Yj Za ?_; refine Yj Za ?_; refine Yj Za ?_; refine Yj Za ?_; refine Yj Za ?_; refine Yj Za ?_; refine Yj Za ?_; refine Yj Za ?_; refine TQ.tail [33, 34, 35] Wb ?_; refine Zf Za ?_; refine Yc Zc ?_; refine Yz (Hm := []) (R := [(eC d2 #[.slice b6 b8 c4] 25), (some a7, mkO), (eC d5 #[nV a8 1 1] 25), (eC d6 #[iV 0] 3), (eA (some a8) (intC .u8) ([10]) ([]) 5), (eC b9 #[pV b7] 135), (eC b3 #[.bool false] 4), (eC b1 #[iV 0, iV 0, iV 0, .slice none 0 0] 24), (eC b7 #[iV c5, iV c6, iV n22, sV a5 n24 c25, .map (some b5), iV a3, sV a6 c7 c8] 138), (eA a5 Zl a9 d1 58), (some b5, mapZO (Value.int .i64) a4), (eA a6 Ye a2 d0 9)]) Xf Zk (List.Perm.refl _) rfl (fun wc hwc => Yt (Xg (is0 := false) wc  k6)) ?_; refine Xh ?_; obtain ⟨rfl, rfl⟩ := ret2 H; exact Lg (Hc := [(eC b1 #[iV 0, iV 0, iV 0, .slice none 0 0] 24), (eC b3 #[.bool false] 4)]) (Hc' := [(eC b1 #[iV 0, iV 0, iV 0, .slice none 0 0] 24), (eC b3 #[.bool false] 4)]) (R := [(eC d2 #[.slice b6 b8 c4] 25), (eC d5 #[nV a8 1 1] 25), (eC d6 #[iV 0] 3), (eA (some a8) (intC .u8) ([10]) ([]) 5), (eC b9 #[pV b7] 135), (eC b7 #[iV c5, iV c6, iV n22, sV a5 n24 c25, .map (some b5), iV a3, sV a6 c7 c8] 138), (eA a5 Zl a9 d1 58), (some b5, mapZO (Value.int .i64) a4), (eA a6 Ye a2 d0 9)]) [a7] Zc Gh (fun w hi => Nz b1 b3 w hi) (Zg Zt (Zg tk6 (Zg tk5 (Zg Ze (Zg Ze (Zg Ze (Zg Ze (Zg Ze (Zg Ze (Zg Ze (Zg Ze (Zg Ze (Yq _))))))))))))) (Nl (Ka rfl Xb Zj rfl) (Gn rfl Ng Yg rfl)) Wb (Pick.none Zh) ⟨none, 0, 0, ([]), rfl, rfl, rfl, (Nat.le_refl _), (Ki 0 _), (fun _ => rfl)⟩
  ·
   obtain ⟨k7, k8, H⟩ := Zp H; rcases k7 with _ | _
   · cases H
   · refine Uj rfl ?_; refine Gx 33 [0, 1, 2, 3, 4, 5, 6, 7, 8, 9, 10, 11, 12, 13, 14, 15, 16, 17, 18, 19, 20, 21, 22, 23, 24, 25, 26, 27, 28, 29, 30, 31, 32] rfl Kz (by kernel_rfl) (by kernel_rfl) rfl (by kernel_rfl) ?_; refine Yr Za Wh We rfl ?_; refine TQ.nilCheck Za ?_; refine Xv Za Xw ?_; refine Yr Za Xy Wi rfl ?_; refine Uc (f := (Value.int .i64)) (z := 0) (k := ([112] : Str)) (xs := a4) Xu Wa Zc Vz rfl ?_; refine Ue Zn ?_; refine TQ.move Za ?_; refine Ud (t := 23) (b' := false) rfl (decide_eq_false f3) ?_; refine Yj Za ?_; refine Yj Za ?_; refine Yj Za ?_; refine Yj Za ?_; refine Yj Za ?_; refine Yj Za ?_; refine Z0s Zc ?_; refine TQ.move Za ?_; refine Yj Za ?_; refine Yj Za ?_; refine Yj Za ?_; refine Yj Za ?_; refine Yj Za ?_; refine Yj Za ?_; refine Z0s Zc ?_; refine TQ.move Za ?_; refine Yj Za ?_; refine Yj Za ?_; refine Yj Za ?_; refine Yj Za ?_; refine Yj Za ?_; refine Yj Za ?_; refine Yj Za ?_; refine Yj Za ?_; refine Yj Za ?_; refine Yj Za ?_; refine TQ.tail [33, 34, 35] Wb ?_; refine Zf Za ?_; refine Yc Zc ?_; refine Yz (Hm := []) (R := [(eC d2 #[.slice b6 b8 c4] 25), (some a7, mkO), (eC d5 #[nV a8 1 1] 25), (eC d6 #[iV 0] 3), (eA (some a8) (intC .u8) ([10]) ([]) 5), (eC b9 #[pV b7] 135), (eC b3 #[.bool false] 4), (eC b1 #[iV 0, iV 0, iV 0, .slice none 0 0] 24), (eC b7 #[iV c5, iV c6, iV n22, sV a5 n24 c25, .map (some b5), iV a3, sV a6 c7 c8] 138), (eA a5 Zl a9 d1 58), (some b5, mapZO (Value.int .i64) a4), (eA a6 Ye a2 d0 9)]) Xf Zk (List.Perm.refl _) rfl (fun wc hwc => Yt (Xg (is0 := false) wc  k8)) ?_; refine Xh ?_; obtain ⟨rfl, rfl⟩ := ret2 H; exact Lg (Hc := [(eC b1 #[iV 0, iV 0, iV 0, .slice none 0 0] 24), (eC b3 #[.bool false] 4)]) (Hc' := [(eC b1 #[iV 0, iV 0, iV 0, .slice none 0 0] 24), (eC b3 #[.bool false] 4)]) (R := [(eC d2 #[.slice b6 b8 c4] 25), (eC d5 #[nV a8 1 1] 25), (eC d6 #[iV 0] 3), (eA (some a8) (intC .u8) ([10]) ([]) 5), (eC b9 #[pV b7] 135), (eC b7 #[iV c5, iV c6, iV n22, sV a5 n24 c25, .map (some b5), iV a3, sV a6 c7 c8] 138), (eA a5 Zl a9 d1 58), (some b5, mapZO (Value.int .i64) a4), (eA a6 Ye a2 d0 9)]) [a7] Zc Gh (fun w hi => Nz b1 b3 w hi) (Zg Zt (Zg tk6 (Zg tk5 (Zg Ze (Zg Ze (Zg Ze (Zg Ze (Zg Ze (Zg Ze (Zg Ze (Zg Ze (Zg Ze (Yq _))))))))))))) (Nl (Ka rfl Xb Zj rfl) (Gn rfl Ng Yg rfl)) Wb (Pick.none Zh) ⟨none, 0, 0, ([]), rfl, rfl, rfl, (Nat.le_refl _), (Ki 0 _), (fun _ => rfl)⟩
 · intro ht a7; subst ht; have H : (some ((Net.mk 0 0 0 ([])), false)) = some (r0, r1) := h8; refine Z5h (H := [(some a7, mkO), (eC d5 #[nV a8 1 1] 25), (eC d6 #[iV 0] 3), (eA (some a8) (intC .u8) ([10]) ([]) 5), (eC b9 #[pV b7] 135), (eC b3 #[.bool false] 4), (eC b1 #[iV 0, iV 0, iV 0, .slice none 0 0] 24)]) rfl ?_; refine Lc ?_; refine Xh ?_; obtain ⟨rfl, rfl⟩ := ret2 H; exact Lg (Hc := [(eC b1 #[iV 0, iV 0, iV 0, .slice none 0 0] 24), (eC b3 #[.bool false] 4)]) (Hc' := [(eC b1 #[iV 0, iV 0, iV 0, .slice none 0 0] 24), (eC b3 #[.bool false] 4)]) (R := [(eC d5 #[nV a8 1 1] 25), (eC d6 #[iV 0] 3), (eA (some a8) (intC .u8) ([10]) ([]) 5), (eC b9 #[pV b7] 135)]) [a7] Zc Gh (fun w hi => Nz b1 b3 w hi) (Zg Ze (Zg tk5 (Zg tk4 (Zg Ze (Zg Ze (Zg Ze (Zg Ze (Yq _)))))))) (Nl (Ka rfl Xb Zj rfl) (Gn rfl Ng Yg rfl)) Wb (Pick.none Zh) ⟨none, 0, 0, ([]), rfl, rfl, rfl, (Nat.le_refl _), (Ki 0 _), (fun _ => rfl)⟩
theorem Z3o {b0 : List Int} {a4 : Option Addr} {a5 a3 : Nat} (w : World) (b5 : RS w [] (intC .u8) 1 a4 a5 a3 b0) (hG : GK Tryz.prog w []) {r0 : Net} {r1 : Int} (H : Z0c b0 = some (r0, r1)) : Fnc Tryz.prog 13 #[.slice a4 a5 a3] w [] (fun v N => ∃ (a2 : Option Nat) (a9 b3 : Nat) (b9 : List Value), v = .tuple #[.agg #[iV r0.N, iV r0.S, iV r0.T, sV a2 a9 b3], iV r1] ∧ N = [(eA a2 Zl r0.Arcs b9 58)] ∧ r0.Arcs.length = a9 ∧ a9 ≤ b3 ∧ b9.length = (b3 - a9) * 3 ∧ (a2 = none → b3 = 0)) := by
 unfold Z0c at H; refine Fnc.enter (vs := [.slice a4 a5 a3]) Tryz.func13 rfl rfl (Inv.refl w) ?_; refine sR Y2 rfl ?_; refine Vi Zk Ls ?_; intro b1; refine aN Za ?_; refine Zs ?_; obtain ⟨⟨r3, r4⟩, e5, H⟩ := Zp H; refine rG Y8 rfl ?_; refine Zb Za ?_; refine Zx Z9h Za (fun wc hwc => Z6o (b0 := b0) wc (b5.mono hwc) (hG.mono hwc) e5) ?_; rintro _ _ ⟨c0, n7, c8, j9, rfl, rfl, a6, a7, b6, a8⟩; refine Zb Za ?_; refine TO.extract Zc ?_; refine TO.extract Zc ?_; refine Vi Zk Ls ?_; intro c5; refine Wy Za Ze Ky Zk ?_; refine aN Za ?_; refine Zs ?_; refine sR Y2 rfl ?_; refine Zb Za ?_; refine TO.not Za ?_; refine dN ?_; refine Zz (aT [2, 4, 13] rfl) ?_; rcases Zw H with ⟨b7, H⟩ | ⟨b7, H⟩
 · refine Xc rfl b7 ?_; refine sR Y3 rfl ?_; refine Vh (t := 24) [iV 0, iV 0, iV 0, .slice none 0 0] [0, 1, 2, 3] Za (by simp only [Xz, setCells, Value.cells, List.toList_toArray, List.getD_cons_zero, List.getD_cons_succ, List.set_cons_zero, List.set_cons_succ]; rfl) (by kernel_rfl) ?_; refine Wy Za Xq Ky Zk ?_; refine aN Za ?_; refine T.ret ?_; refine Yh ?_; obtain ⟨rfl, rfl⟩ := ret2 H; exact Kv Za (Ka rfl Xb Zj rfl) (Res.tmp rfl) (Pick.none Zh) ⟨none, 0, 0, ([]), rfl, rfl, rfl, (Nat.le_refl _), (Ki 0 _), (fun _ => rfl)⟩
 ·
  refine Wk rfl (Bool.eq_false_iff.2 b7) ?_; refine T.skip ?_; refine Yw ?_; refine Zs ?_; refine Zs ?_; obtain ⟨c6, c4, H⟩ := Zp H; refine rG Y3 rfl ?_; refine Wf Za Xb Zj rfl ?_; refine Zx Z7e Za (fun wc hwc => Z6h (n0 := r3) wc (hwc.rs (f := Zl) (s := 3) (xs := r3.Arcs) (j := j9) (fun _ => rfl) Yg a6 a7 a8) c4) ?_; rintro _ _ ⟨rfl, rfl⟩; refine aN Za ?_; refine sR Y2 rfl ?_; refine Zb Za ?_; refine Zv Zn ?_; refine dN ?_; rcases Zw H with ⟨b8, H⟩ | ⟨b8, H⟩
  · refine Vm rfl b8 ?_; refine sR Y4 rfl ?_; refine Vh (t := 24) [iV 0, iV 0, iV 0, .slice none 0 0] [0, 1, 2, 3] Za (by simp only [Xz, setCells, Value.cells, List.toList_toArray, List.getD_cons_zero, List.getD_cons_succ, List.set_cons_zero, List.set_cons_succ]; rfl) (by kernel_rfl) ?_; refine Zb Za ?_; refine Wy Za Xq Ky Zk ?_; refine aN Za ?_; refine Zz (aT [2, 3] rfl) ?_; refine T.ret ?_; refine Yh ?_; obtain ⟨rfl, rfl⟩ := ret2 H; exact Kv Za (Ka rfl Xb Zj rfl) (Res.tmp rfl) (Pick.none Zh) ⟨none, 0, 0, ([]), rfl, rfl, rfl, (Nat.le_refl _), (Ki 0 _), (fun _ => rfl)⟩
  · refine Vg rfl b8 ?_; refine T.skip ?_; refine Yw ?_; refine sR Y3 rfl ?_; refine Wf Za Xb Zj rfl ?_; refine Wy Za Xq Ky Zk ?_; refine aN Za ?_; refine Zz (aT [2, 3] rfl) ?_; refine T.ret ?_; obtain ⟨rfl, rfl⟩ := ret2 H; exact Kv Za (Ka rfl Xb Zj rfl) (Res.tmp rfl) (Zg Xq Zh) ⟨c0, n7, c8, j9, rfl, rfl, a6, a7, b6, a8⟩
theorem Ri {s0 : Str} {want1 : Int} (w : World) (hG : GK Tryz.prog w []) {r0 : Bool} (H : Nt s0 want1 = some r0) : Fnc Tryz.prog 41 #[.string (bs s0), iV want1] w [] (fun v N => v = .bool r0 ∧ N = []) := by
 unfold Nt at H; refine Fnc.enter (vs := [.string (bs s0), iV want1]) Tryz.func41 rfl rfl (Inv.refl w) ?_; refine sR Y1 rfl ?_; refine aN Za ?_; refine Zs ?_; obtain ⟨⟨r8, r9⟩, a2, H⟩ := Zp H; refine rG Y9 rfl ?_; refine Zb Za ?_; refine TO.toB (p := s0) Za Un Ww Z2e ?_; intro b1 c2 j3 a9 a3 b3; refine Zx Z4a Za (fun wc hwc => Z3o (b0 := (ub s0)) wc (hwc.rs (f := (intC .u8)) (s := 1) (xs := (ub s0)) (j := j3) (fun _ => rfl) Zj rfl a3 Nu) (hG.mono hwc) a2) ?_; rintro _ _ ⟨a4, b5, c13, b6, rfl, rfl, a5, a6, a7, a8⟩; refine Zb Za ?_; refine TO.extract Zc ?_; refine TO.extract Zc ?_; refine Vi Zk Ls ?_; intro b7; refine Wy Za Ze Ky Zk ?_; refine aN Za ?_; refine Zz (aT [1, 6] rfl) ?_; refine sR Y4 rfl ?_; refine Zb Za ?_; refine Zb Za ?_; refine Zv Zn ?_; refine aN Za ?_; refine T.ret ?_; obtain rfl := ret1 H; exact Yd Za (Res.tmp rfl) Zh ⟨rfl, rfl⟩
theorem Z8r {a0 b1 : Net} {a9 a7 : Option Addr} {a6 a8 a5 a3 : Nat} (w : World) (a4 : RS w [] Zl 3 a9 a6 a8 a0.Arcs) (b3 : RS w [] Zl 3 a7 a5 a3 b1.Arcs) {r0 : Bool} (H : Z11 a0 b1 = some r0) : Fnc Tryz.prog 42 #[.agg #[iV a0.N, iV a0.S, iV a0.T, .slice a9 a6 a8], .agg #[iV b1.N, iV b1.S, iV b1.T, .slice a7 a5 a3]] w [] (fun v N => v = .bool r0 ∧ N = []) := by
 unfold Z11 at H; refine Fnc.enter (vs := [.agg #[iV a0.N, iV a0.S, iV a0.T, .slice a9 a6 a8], .agg #[iV b1.N, iV b1.S, iV b1.T, .slice a7 a5 a3]]) Tryz.func42 rfl rfl (Inv.refl w) ?_; refine sR Y3 rfl ?_; refine Ws Za ?_; intro b2; refine Ws Za ?_; intro b4; refine aN Za ?_; refine Zs ?_; refine Zs ?_; rcases Zw H with ⟨g6, H⟩ | ⟨g6, H⟩
 · refine rG Y28 rfl ?_; refine Zr Za Vf ?_; refine Zu Za Ys Yg rfl ?_; refine Zr Za Vf ?_; refine Zu Za Ys Zj rfl ?_; refine Zv Zn ?_; refine Zb Za ?_; refine Zm (t := 11) (b' := true) rfl (decide_eq_true g6) ?_; refine Zf Za ?_; refine Zf Za ?_; refine Zf Za ?_; refine Zf Za ?_; refine Zf Za ?_; refine Zy Zc ?_; refine Zb Za ?_; refine Zf Za ?_; refine Zf Za ?_; refine Zf Za ?_; refine Zf Za ?_; refine Zf Za ?_; refine Zy Zc ?_; refine Zb Za ?_; refine Zf Za ?_; refine Zf Za ?_; refine Zf Za ?_; refine Zf Za ?_; refine Zf Za ?_; refine Zf Za ?_; refine Zf Za ?_; refine Zy Zc ?_; refine dN ?_; refine Zz (aT [2, 3, 33] rfl) ?_; refine Xc rfl rfl ?_; refine sR Y1 rfl ?_; refine aN Za ?_; refine T.ret ?_; refine Yh ?_; obtain rfl := ret1 H; exact Yd Za (Res.tmp rfl) Zh ⟨rfl, rfl⟩
 ·
  rcases Zw H with ⟨g7, H⟩ | ⟨g7, H⟩
  · refine rG Y28 rfl ?_; refine Zr Za Vf ?_; refine Zu Za Ys Yg rfl ?_; refine Zr Za Vf ?_; refine Zu Za Ys Zj rfl ?_; refine Zv Zn ?_; refine Zb Za ?_; refine Zm (t := 11) (b' := false) rfl (decide_eq_false g6) ?_; refine Zr Za Up ?_; refine Zu Za Ys Yg rfl ?_; refine Zr Za Up ?_; refine Zu Za Ys Zj rfl ?_; refine Zv Zn ?_; refine Yc Zc ?_; refine Zb Za ?_; refine Zm (t := 18) (b' := true) rfl (decide_eq_true g7) ?_; refine Zf Za ?_; refine Zf Za ?_; refine Zf Za ?_; refine Zf Za ?_; refine Zf Za ?_; refine Zy Zc ?_; refine Zb Za ?_; refine Zf Za ?_; refine Zf Za ?_; refine Zf Za ?_; refine Zf Za ?_; refine Zf Za ?_; refine Zf Za ?_; refine Zf Za ?_; refine Zy Zc ?_; refine dN ?_; refine Zz (aT [2, 3, 33] rfl) ?_; refine Xc rfl rfl ?_; refine sR Y1 rfl ?_; refine aN Za ?_; refine T.ret ?_; refine Yh ?_; obtain rfl := ret1 H; exact Yd Za (Res.tmp rfl) Zh ⟨rfl, rfl⟩
  ·
   rcases Zw H with ⟨g8, H⟩ | ⟨g8, H⟩
   · refine rG Y28 rfl ?_; refine Zr Za Vf ?_; refine Zu Za Ys Yg rfl ?_; refine Zr Za Vf ?_; refine Zu Za Ys Zj rfl ?_; refine Zv Zn ?_; refine Zb Za ?_; refine Zm (t := 11) (b' := false) rfl (decide_eq_false g6) ?_; refine Zr Za Up ?_; refine Zu Za Ys Yg rfl ?_; refine Zr Za Up ?_; refine Zu Za Ys Zj rfl ?_; refine Zv Zn ?_; refine Yc Zc ?_; refine Zb Za ?_; refine Zm (t := 18) (b' := false) rfl (decide_eq_false g7) ?_; refine Zr Za Jd ?_; refine Zu Za Ys Yg rfl ?_; refine Zr Za Jd ?_; refine Zu Za Ys Zj rfl ?_; refine Zv Zn ?_; refine Yc Zc ?_; refine Zb Za ?_; refine Zm (t := 25) (b' := true) rfl (decide_eq_true g8) ?_; refine Zf Za ?_; refine Zf Za ?_; refine Zf Za ?_; refine Zf Za ?_; refine Zf Za ?_; refine Zf Za ?_; refine Zf Za ?_; refine Zy Zc ?_; refine dN ?_; refine Zz (aT [2, 3, 33] rfl) ?_; refine Xc rfl rfl ?_; refine sR Y1 rfl ?_; refine aN Za ?_; refine T.ret ?_; refine Yh ?_; obtain rfl := ret1 H; exact Yd Za (Res.tmp rfl) Zh ⟨rfl, rfl⟩
   ·
    refine rG Y28 rfl ?_; refine Zr Za Vf ?_; refine Zu Za Ys Yg rfl ?_; refine Zr Za Vf ?_; refine Zu Za Ys Zj rfl ?_; refine Zv Zn ?_; refine Zb Za ?_; refine Zm (t := 11) (b' := false) rfl (decide_eq_false g6) ?_; refine Zr Za Up ?_; refine Zu Za Ys Yg rfl ?_; refine Zr Za Up ?_; refine Zu Za Ys Zj rfl ?_; refine Zv Zn ?_; refine Yc Zc ?_; refine Zb Za ?_; refine Zm (t := 18) (b' := false) rfl (decide_eq_false g7) ?_; refine Zr Za Jd ?_; refine Zu Za Ys Yg rfl ?_; refine Zr Za Jd ?_; refine Zu Za Ys Zj rfl ?_; refine Zv Zn ?_; refine Yc Zc ?_; refine Zb Za ?_; refine Zm (t := 25) (b' := false) rfl (decide_eq_false g8) ?_; refine Zr Za Vp ?_; refine Zu Za Vv Yg rfl ?_; refine Wq (xs := a0.Arcs) a4.len Zc Wx ?_; refine Zr Za Vp ?_; refine Zu Za Vv Zj rfl ?_; refine Wq (xs := b1.Arcs) b3.len Zc Wx ?_; refine Zv Zn ?_; refine Yc Zc ?_; refine dN ?_; refine Zz (aT [2, 3, 33] rfl) ?_; rcases Zw H with ⟨g9, H⟩ | ⟨g9, H⟩
    · refine Vm rfl g9 ?_; refine sR Y1 rfl ?_; refine aN Za ?_; refine T.ret ?_; refine Yh ?_; obtain rfl := ret1 H; exact Yd Za (Res.tmp rfl) Zh ⟨rfl, rfl⟩
    ·
     refine Vg rfl g9 ?_; refine T.skip ?_; refine Yw ?_; refine Zs ?_; refine sR Y4 rfl ?_; refine Zr Za Vp ?_; refine Zu Za Vv Yg rfl ?_; refine Wq (xs := a0.Arcs) a4.len Zc Wx ?_; refine Zb Za ?_; refine dN ?_; refine Vs (fun (u16 : Unit) => Z1l = some r0) (fun (u16 : Unit) => []) (fun (u16 : Unit) => []) ?_ ?_
     ·
      refine T.block ?_; obtain ⟨c5, c6, b9⟩ := Zp H; refine Z13 (fun (b5 : Nat) (a2 : Int) => Wp (fun s => Rw a0 b1 s) b5 a2 = some c5) (fun (b5 : Nat) (a2 : Int) => [(2, pV b2), (3, pV b4), (36, iV (a0.Arcs.length : Int)), (37, iV a2)]) (fun (b5 : Nat) (a2 : Int) => [(eC b2 #[iV a0.N, iV a0.S, iV a0.T, .slice a9 a6 a8] 24), (eC b4 #[iV b1.N, iV b1.S, iV b1.T, .slice a7 a5 a3] 24)]) (fun (b5 : Nat) (a2 : Int) => b5) Kc 0 c6 (aF rfl) (Zg Zt (Zg Ze Zh)) ?_; rintro b5 a2 H; obtain ⟨c7, c8, rfl, H, b6⟩ := Nw H; have H : Rw a0 b1 a2 = some c8 := H; unfold Rw at H; refine sR Y1 rfl ?_; refine Zv Zn ?_; refine dS ?_; rcases Zw H with ⟨b7, H⟩ | ⟨b7, H⟩
      ·
       refine Vm rfl b7 ?_; refine T.skip ?_; refine Yw ?_; refine Zs ?_; refine T.block ?_; refine sR Y2 rfl ?_; refine Zb Za ?_; refine aN Za ?_; refine Zs ?_; obtain ⟨c0, c4, H⟩ := gd2 H; refine Gx 10 [0, 1, 2, 3, 4, 5, 6, 7, 8, 9] rfl Kz (by kernel_rfl) (by kernel_rfl) rfl (by kernel_rfl) ?_; refine Xv Za Vp ?_; refine Yr Za Vv Zj rfl ?_; refine TQ.move Za ?_; refine TQ.ixR a4 c0 Zc Wx Kj ?_; refine Z3t (cs := [iV ((a0.Arcs.getD a2.toNat default).fr), iV ((a0.Arcs.getD a2.toNat default).to), iV ((a0.Arcs.getD a2.toNat default).cap)]) default a4 c0 Zc Gc ?_; refine Xv Za Vp ?_; refine Yr Za Vv Yg rfl ?_; refine TQ.move Za ?_; refine TQ.ixR b3 c4 Zc Wx Kj ?_; refine Z3t (cs := [iV ((b1.Arcs.getD a2.toNat default).fr), iV ((b1.Arcs.getD a2.toNat default).to), iV ((b1.Arcs.getD a2.toNat default).cap)]) default b3 c4 Zc Gc ?_; refine TQ.tail [10] Wb ?_; refine TO.neS (us := [(a0.Arcs.getD a2.toNat default).fr, (a0.Arcs.getD a2.toNat default).to, (a0.Arcs.getD a2.toNat default).cap]) (ws := [(b1.Arcs.getD a2.toNat default).fr, (b1.Arcs.getD a2.toNat default).to, (b1.Arcs.getD a2.toNat default).cap]) [.i64, .i64, .i64] Z8b rr9 ?_; refine dN ?_; refine Zz (aT [2, 3, 36, 37, 50] rfl) ?_; rcases Zw H with ⟨b8, H⟩ | ⟨b8, H⟩
       · refine Xc rfl b8 ?_; refine sR Y1 rfl ?_; refine aN Za ?_; refine T.ret ?_; refine Xp ?_; refine Yh ?_; have H := Uu H b6 ▸ b9; refine Yh ?_; refine Xp ?_; refine Yh ?_; obtain rfl := ret1 H; exact Yd Za (Res.tmp rfl) Zh ⟨rfl, rfl⟩
       · refine Wk rfl (Bool.eq_false_iff.2 b8) ?_; refine T.skip ?_; refine Wu ?_; refine Yw ?_; obtain ⟨d0, H⟩ := Yv H; refine rG Y2 rfl ?_; refine Ks d0 Zc ?_; refine Zb Za ?_; refine Zq ?_; have H := La H b6; exact Z0x c7 (a2 + 1) H (Nat.lt_succ_self _) (aF rfl) (Zg Ze (Zg Ze Zh))
      · refine Vg rfl b7 ?_; refine T.exit ?_; refine Vy ?_; have H := Uu H b6 ▸ b9; refine Vy ?_; refine Gs ?_; exact Wd () H Ny Zh
     · rintro u16 H; unfold Z1l at H; refine sR Y1 rfl ?_; refine aN Za ?_; refine T.ret ?_; obtain rfl := ret1 H; exact Yd Za (Res.tmp rfl) Zh ⟨rfl, rfl⟩
theorem Z1w (w : World) (hG : GK Tryz.prog w []) {r0 : Bool} (H : Gq = some r0) : Fnc Tryz.prog 9 #[] w [] (fun v N => v = .bool r0 ∧ N = []) := by
 unfold Gq at H; refine Fnc.enter (vs := []) Tryz.func9 rfl rfl (Inv.refl w) ?_; refine sR Y1 rfl ?_; refine aN Za ?_; refine Zs ?_; obtain ⟨⟨r4, r5⟩, e6, H⟩ := Zp H; refine rG Y9 rfl ?_; refine Z07 [.int .u8 0, .int .u8 0, .int .u8 0, .int .u8 0, .int .u8 0, .int .u8 0, .int .u8 0, .int .u8 0, .int .u8 0, .int .u8 0, .int .u8 0, .int .u8 0, .int .u8 0, .int .u8 0, .int .u8 0, .int .u8 0, .int .u8 0, .int .u8 0, .int .u8 0, .int .u8 0, .int .u8 0, .int .u8 0, .int .u8 0, .int .u8 0, .int .u8 0, .int .u8 0, .int .u8 0, .int .u8 0, .int .u8 0] [0, 1, 2, 3, 4, 5, 6, 7, 8, 9, 10, 11, 12, 13, 14, 15, 16, 17, 18, 19, 20, 21, 22, 23, 24, 25, 26, 27, 28] Za Ww Jn Z4y Wb (by simp only [Xz, setCells, Value.cells, List.toList_toArray, List.getD_cons_zero, List.getD_cons_succ, List.set_cons_zero, List.set_cons_succ]; rfl) (by kernel_rfl) ?_; intro b1; refine TO.bbB Za Ww Z2e Ze ?_; intro d3; refine Zx Z4a Za (fun wc hwc => Z3o (b0 := [112, 32, 109, 97, 120, 32, 51, 32, 49, 10, 110, 32, 49, 32, 115, 10, 110, 32, 51, 32, 116, 10, 97, 32, 49, 32, 51, 32, 53]) wc (hwc.rs (f := (intC .u8)) (s := 1) (xs := [112, 32, 109, 97, 120, 32, 51, 32, 49, 10, 110, 32, 49, 32, 115, 10, 110, 32, 51, 32, 116, 10, 97, 32, 49, 32, 51, 32, 53]) (j := ([])) (fun _ => rfl) Zj rfl (Nat.le_refl _) Nu) (hG.mono hwc) e6) ?_; rintro _ _ ⟨d4, n8, c9, b8, rfl, rfl, a2, a3, b9, a4⟩; refine Zb Za ?_; refine TO.extract Zc ?_; refine TO.extract Zc ?_; refine Vi Zk Ls ?_; intro d5; refine Wy Za Ze Ky Zk ?_; refine aN Za ?_; refine Zs ?_; rcases Zw H with ⟨a5, H⟩ | ⟨a5, H⟩
 ·
  obtain ⟨d6, c0, H⟩ := Zp H; refine rG Y22 rfl ?_; refine Zb Za ?_; refine Zv Zn ?_; refine Zb Za ?_; refine Zm (t := 11) (b' := true) rfl (decide_eq_true a5) ?_; refine Wf Za Xb Zj rfl ?_; refine Vh (t := 58) [iV 0, iV 0, iV 0] [0, 1, 2] Za (by simp only [Xz, setCells, Value.cells, List.toList_toArray, List.getD_cons_zero, List.getD_cons_succ, List.set_cons_zero, List.set_cons_succ]; rfl) (by kernel_rfl) ?_; refine Z07 [iV 0, iV 0, iV 0] [0] Za Wx Kj Rh Wb (by simp only [Xz, setCells, Value.cells, List.toList_toArray, List.getD_cons_zero, List.getD_cons_succ, List.set_cons_zero, List.set_cons_succ]; rfl) (by kernel_rfl) ?_; intro d7; refine Vh (t := 24) [iV 0, iV 0, iV 0, .slice none 0 0] [0, 1, 2, 3] Za (by simp only [Xz, setCells, Value.cells, List.toList_toArray, List.getD_cons_zero, List.getD_cons_succ, List.set_cons_zero, List.set_cons_succ]; rfl) (by kernel_rfl) ?_; refine Zx Z6g Za (fun wc hwc => Z8r (a0 := r4) (b1 := (Net.mk 3 0 2 ([(Arc.mk 0 2 5)]))) wc (hwc.rs (f := Zl) (s := 3) (xs := r4.Arcs) (j := b8) (fun _ => rfl) mm2 a2 a3 a4) (hwc.rs (f := Zl) (s := 3) (xs := [(Arc.mk 0 2 5)]) (j := ([])) (fun _ => rfl) Zj rfl (Nat.le_refl _) Nu) c0) ?_; rintro _ _ ⟨rfl, rfl⟩; refine Zy Zc ?_; refine Zb Za ?_; refine TO.join [10, 11] [12, 13, 14, 15, 16, 17, 18, 19, 20, 21] rfl 20 (fun b3 => Z0k b3 = some r0) [(0, .bool false)] ?_ ?_
  ·
   rcases Zw H with ⟨a6, H⟩ | ⟨a6, H⟩
   · obtain ⟨c4, c5, H⟩ := Zp H; refine Zm (t := 18) (b' := true) rfl a6 ?_; refine Zx Z0i Za (fun wc hwc => Ri (s0 := ([112, 32, 109, 97, 120, 32, 51, 32, 49, 10, 110, 32, 49, 32, 115, 10, 110, 32, 51, 32, 116, 10] : Str)) (want1 := 70) wc (hG.mono hwc) c5) ?_; rintro _ _ ⟨rfl, rfl⟩; refine Zy Zc ?_; refine Zq ?_; exact Yp (b := c4) H (aF rfl)
   · refine Zm (t := 18) (b' := false) rfl (Bool.eq_false_iff.2 a6) ?_; refine Zf Za ?_; refine Yc Zc ?_; refine Zq ?_; exact Yp (b := false) H (aF rfl)
  ·
   rintro b3 H; unfold Z0k at H; refine Zb Za ?_; refine TO.join [13, 14] [15, 16, 17, 18, 19, 20, 21] rfl 23 (fun b5 => Z05 b5 = some r0) [(0, .bool false)] ?_ ?_
   ·
    rcases Zw H with ⟨a7, H⟩ | ⟨a7, H⟩
    · obtain ⟨c6, c7, H⟩ := Zp H; refine Zm (t := 21) (b' := true) rfl a7 ?_; refine Zx Z0i Za (fun wc hwc => Ri (s0 := ([112, 32, 109, 97, 120, 32, 49, 32, 48, 10, 110, 32, 49, 32, 115, 10, 110, 32, 49, 32, 116, 10] : Str)) (want1 := 10) wc (hG.mono hwc) c7) ?_; rintro _ _ ⟨rfl, rfl⟩; refine Zy Zc ?_; refine Zq ?_; exact Yp (b := c6) H (aF rfl)
    · refine Zm (t := 21) (b' := false) rfl (Bool.eq_false_iff.2 a7) ?_; refine Zf Za ?_; refine Yc Zc ?_; refine Zq ?_; exact Yp (b := false) H (aF rfl)
   ·
    rintro b5 H; unfold Z05 at H; refine Zb Za ?_; refine TO.join [16, 17] [18, 19, 20, 21] rfl 26 (fun b6 => Z0h b6 = some r0) [(0, .bool false)] ?_ ?_
    ·
     rcases Zw H with ⟨a8, H⟩ | ⟨a8, H⟩
     · obtain ⟨c8, d0, H⟩ := Zp H; refine Zm (t := 24) (b' := true) rfl a8 ?_; refine Zx Z0i Za (fun wc hwc => Ri (s0 := ([112, 32, 109, 97, 120, 32, 51, 32, 48, 10, 110, 32, 49, 32, 115, 10, 110, 32, 49, 32, 116, 10] : Str)) (want1 := 12) wc (hG.mono hwc) d0) ?_; rintro _ _ ⟨rfl, rfl⟩; refine Zy Zc ?_; refine Zq ?_; exact Yp (b := c8) H (aF rfl)
     · refine Zm (t := 24) (b' := false) rfl (Bool.eq_false_iff.2 a8) ?_; refine Zf Za ?_; refine Yc Zc ?_; refine Zq ?_; exact Yp (b := false) H (aF rfl)
    ·
     rintro b6 H; unfold Z0h at H; refine Zb Za ?_; refine TO.join [19, 20] [21] rfl 29 (fun b7 => Re b7 = some r0) [(0, .bool false)] ?_ ?_
     ·
      rcases Zw H with ⟨a9, H⟩ | ⟨a9, H⟩
      · obtain ⟨d1, d2, H⟩ := Zp H; refine Zm (t := 27) (b' := true) rfl a9 ?_; refine Zx Z0i Za (fun wc hwc => Ri (s0 := ([112, 32, 109, 97, 120, 32, 51, 32, 49, 10, 110, 32, 49, 32, 115, 10, 110, 32, 51, 32, 116, 10, 97, 32, 49, 32, 52, 32, 53, 10] : Str)) (want1 := 70) wc (hG.mono hwc) d2) ?_; rintro _ _ ⟨rfl, rfl⟩; refine Zy Zc ?_; refine Zq ?_; exact Yp (b := d1) H (aF rfl)
      · refine Zm (t := 27) (b' := false) rfl (Bool.eq_false_iff.2 a9) ?_; refine Zf Za ?_; refine Yc Zc ?_; refine Zq ?_; exact Yp (b := false) H (aF rfl)
     · rintro b7 H; unfold Re at H; refine aN Za ?_; refine T.ret ?_; obtain rfl := ret1 H; exact Yd Za (Res.tmp rfl) Zh ⟨rfl, rfl⟩
 · refine rG Y22 rfl ?_; refine Zb Za ?_; refine Zv Zn ?_; refine Zb Za ?_; refine Zm (t := 11) (b' := false) rfl (decide_eq_false a5) ?_; refine Zf Za ?_; refine Zf Za ?_; refine Zf Za ?_; refine Zf Za ?_; refine Zf Za ?_; refine Yc Zc ?_; refine Zb Za ?_; refine Zf Za ?_; refine Yc Zc ?_; refine Zb Za ?_; refine Zf Za ?_; refine Yc Zc ?_; refine Zb Za ?_; refine Zf Za ?_; refine Yc Zc ?_; refine Zb Za ?_; refine Zf Za ?_; refine Yc Zc ?_; refine aN Za ?_; refine Zz (aT [0] rfl) ?_; refine T.ret ?_; obtain rfl := ret1 H; exact Yd Za (Res.tmp rfl) Zh ⟨rfl, rfl⟩
end Go.Proofs.YtnppjbofdkokkaaGreatDoor.Ax
namespace Go.Proofs.YtnppjbofdkokkaaGreatDoor.Ax
open Go Go.Acq Go.RowKit Go.Proofs
set_option maxHeartbeats 8000000
set_option maxRecDepth 20000
theorem Z9r : Ya Tryz.prog 31 = true := by kernel_rfl
theorem Z38 : Ya Tryz.prog 32 = true := by kernel_rfl
theorem Z9z : Ya Tryz.prog 34 = true := by kernel_rfl
theorem Z40 : Ya Tryz.prog 35 = true := by kernel_rfl
theorem Z19 : Ya Tryz.prog 9 = true := by kernel_rfl
theorem Z8p : Lq Tryz.prog 3 = some .i64 := by kernel_rfl
theorem Z7f : (Tryz.prog.underlying 5).isSome = true := by kernel_rfl
theorem Z9e : Tryz.prog.underlying 4 = some .bool := by kernel_rfl
theorem Z7g (w : World) {s0 r0 : Str} {i1 : Int} (H : Z0v s0 i1 = some r0) : Fnc Tryz.prog 31 #[.string (bs s0), iV i1] w [] (fun v N => v = .string (bs r0) ∧ N = []) := by
 unfold Z0v at H; obtain ⟨g, H1⟩ := Yv H; clear H; injection H1 with H; subst H; exact Z85 Z61 Z7z s0 i1 g.1 g.2.1 g.2.2 w
theorem Z9m (w : World) {s0 s1 r0 : Str} (H : Z1f s0 s1 = some r0) : Fnc Tryz.prog 34 #[.string (bs s0), .string (bs s1)] w [] (fun v N => v = .string (bs r0) ∧ N = []) := by
 unfold Z1f at H; obtain ⟨g, H1⟩ := Yv H; clear H; injection H1 with H; subst H; exact Z93 Z8e (by kernel_rfl) s0 s1 g.1 g.2.1 g.2.2 w
theorem Z5m (w : World) {s0 s1 r0 : Str} (H : Z01 s0 s1 = some r0) : Fnc Tryz.prog 35 #[.string (bs s0), .string (bs s1)] w [] (fun v N => v = .string (bs r0) ∧ N = []) := by
 unfold Z01 at H; obtain ⟨g, H1⟩ := Yv H; clear H; injection H1 with H; subst H; exact Z9n Z5v (by kernel_rfl) s0 s1 g.2.1 g.2.2 w
theorem w_acequialaw27_DimacsNumbers {n0 noughts1 : Int} {s2 : Str} (w : World) (hG : GK Tryz.prog w []) {r0 : Bool} (H : Z06 n0 noughts1 s2 = some r0) : Fnc Tryz.prog 6 #[iV n0, .int .u8 noughts1, .string (bs s2)] w [] (fun v N => v = .bool r0 ∧ N = []) := by
 unfold Z06 at H; refine Fnc.enter (vs := [iV n0, .int .u8 noughts1, .string (bs s2)]) Tryz.func6 rfl rfl (Inv.refl w) ?_; refine sR Y1 rfl ?_; refine aN Za ?_; refine Zs ?_; refine sR Y3 rfl ?_; refine Zb Za ?_; refine Jg (p := s2) Zc Un ?_; refine Zv Zn ?_; refine dN ?_; rcases Zw H with ⟨g1, H⟩ | ⟨g1, H⟩
 · refine Vm rfl g1 ?_; refine Zs ?_; obtain ⟨r2, e3, H⟩ := Zp H; refine rG Y2 rfl ?_; refine Zx Z19 Za (fun wc hwc => Z1w  wc (hG.mono hwc) e3) ?_; rintro _ _ ⟨rfl, rfl⟩; refine aN Za ?_; refine T.ret ?_; refine Yh ?_; obtain rfl := ret1 H; exact Yd Za (Res.tmp rfl) Zh ⟨rfl, rfl⟩
 ·
  refine Vg rfl g1 ?_; refine T.skip ?_; refine Yw ?_; refine Zs ?_; refine sR Y2 rfl ?_; refine Zb Za ?_; refine Zv Zn ?_; refine dN ?_; refine Vs (fun (n7 : Int) => Gp noughts1 s2 n7 = some r0) (fun (n7 : Int) => [(0, iV n7), (1, .int .u8 noughts1), (2, .string (bs s2))]) (fun (n7 : Int) => []) ?_ ?_
  ·
   rcases Zw H with ⟨g4, H⟩ | ⟨g4, H⟩
   · refine Vm rfl g4 ?_; obtain ⟨g5, g6, H⟩ := gd2 H; refine rG Y4 rfl ?_; refine Zb Za ?_; refine Ks g5 Zc ?_; refine TO.negG g6 Za ?_; refine Xi Za ?_; refine Zq ?_; exact Wd (-(n0 + 1)) H (aF rfl) Zh
   · refine Vg rfl g4 ?_; refine T.skip ?_; exact Wd n0 H (aF rfl) Zh
  ·
   rintro n7 H; unfold Gp at H; refine Zs ?_; obtain ⟨g8, H⟩ := Yv H; obtain ⟨r9, f7, H⟩ := Zp H; obtain ⟨a3, f8, H⟩ := Zp H; obtain ⟨f9, H⟩ := Yv H; refine rG Y8 rfl ?_; refine Zb Za ?_; refine TO.rem Zc (by decide) ?_; refine Z5x Za Z7f Z8p (Rc g8.1 g8.2) ?_; refine Zx Z9r Za (fun wc hwc => Z7g (s0 := ([48] : Str)) (i1 := (noughts1.tmod 26)) wc  f7) ?_; rintro _ _ ⟨rfl, rfl⟩; refine Zb Za ?_; refine Zx Z38 Za (fun wc hwc => Z4i (i0 := n7) (i1 := 10) wc (hG.mono hwc) f8) ?_; rintro _ _ ⟨rfl, rfl⟩; refine Z2j (p := r9) (q := a3) f9 Zc ?_; refine aN Za ?_; refine Zz (aT [0, 2, 7] rfl) ?_; refine Zs ?_; obtain ⟨⟨a5, a4⟩, g0, H⟩ := Zp H; refine rG Y7 rfl ?_; refine Zb Za ?_; refine Zx Gd Za (fun wc hwc => Jr (s0 := (r9 ++ a3)) wc (hG.mono hwc) g0) ?_; rintro _ _ ⟨rfl, rfl⟩; refine Zb Za ?_; refine TO.extract Zc ?_; refine TO.extract Zc ?_; refine Xi Za ?_; refine aN Za ?_; refine Zs ?_; refine sR Y21 rfl ?_; refine Zb Za ?_; refine Zb Za ?_; refine Jg (p := (r9 ++ a3)) Zc Un ?_; refine Zv Zn ?_; refine TO.neb Zc Z9e ?_; refine Zb Za ?_; refine TO.join [6, 7, 8, 9, 10, 11, 12] [13, 14, 15, 16, 17, 18, 19, 20] rfl 50 (fun b6 => Gv s2 r9 a3 a5 a4 b6 = some r0) [(2, .string (bs s2)), (7, .string (bs (r9 ++ a3))), (8, iV a5), (9, .bool a4)] ?_ ?_
   ·
    rcases Zw H with ⟨b7, H⟩ | ⟨b7, H⟩
    · refine Zm (t := 43) (b' := true) rfl b7 ?_; refine Zf Za ?_; refine Zf Za ?_; refine Wl Za ?_; refine Wl Za ?_; refine Wl Za ?_; refine Zf Za ?_; refine Zy Zc ?_; refine Zq ?_; exact Yp (b := true) H (aF rfl)
    ·
     refine Zm (t := 43) (b' := false) rfl (Bool.eq_false_iff.2 b7) ?_; refine Zb Za ?_; refine Zb Za ?_; refine TO.join [8, 9, 10, 11] [12] rfl 49 (fun b8 => Gy s2 r9 a3 a5 a4 b8 = some r0) [(0, iV n7), (2, .string (bs s2)), (7, .string (bs (r9 ++ a3))), (34, .string (bs (r9 ++ a3))), (35, .tuple #[iV a5, .bool a4]), (33, .tuple #[iV a5, .bool a4]), (36, iV a5), (37, .bool a4), (8, iV a5), (9, .bool a4), (38, .bool a4), (39, .string (bs (r9 ++ a3))), (40, iV ((r9 ++ a3).length : Int)), (41, .bool (decide (((r9 ++ a3).length : Int) ≤ 19))), (42, .bool (!(a4 == (decide (((r9 ++ a3).length : Int) ≤ 19))))), (43, .bool false), (44, .bool a4)] ?_ ?_
     ·
      rcases Zw H with ⟨b9, H⟩ | ⟨b9, H⟩
      · refine Zm (t := 45) (b' := true) rfl b9 ?_; refine Zb Za ?_; refine Zb Za ?_; refine Zv Zn ?_; refine Zy Zc ?_; refine Zq ?_; exact Yp (b := (decide (a5 ≠ n7))) H (aF rfl)
      · refine Zm (t := 45) (b' := false) rfl (Bool.eq_false_iff.2 b9) ?_; refine Zf Za ?_; refine Zf Za ?_; refine Zf Za ?_; refine Yc Zc ?_; refine Zq ?_; exact Yp (b := false) H (aF rfl)
     · rintro b8 H; unfold Gy at H; refine Yc Zc ?_; refine Zq ?_; exact Yp (b := b8) H (aF rfl)
   ·
    rintro b6 H; unfold Gv at H; refine Zb Za ?_; refine TO.join [14, 15, 16, 17, 18, 19, 20] [] rfl 58 (fun e2 => Nd s2 r9 a3 e2 = some r0) [(2, .string (bs s2)), (7, .string (bs (r9 ++ a3)))] ?_ ?_
    ·
     rcases Zw H with ⟨c0, H⟩ | ⟨c0, H⟩
     · refine Zm (t := 51) (b' := true) rfl c0 ?_; refine Zf Za ?_; refine Zf Za ?_; refine Zf Za ?_; refine Wl Za ?_; refine Wl Za ?_; refine Zf Za ?_; refine Zy Zc ?_; refine Zq ?_; exact Yp (b := true) H (aF rfl)
     ·
      refine Zm (t := 51) (b' := false) rfl (Bool.eq_false_iff.2 c0) ?_; refine Zb Za ?_; refine TO.not Za ?_; refine Zb Za ?_; refine TO.join [17, 18, 19] [20] rfl 57 (fun c4 => Z0r s2 r9 a3 c4 = some r0) [(2, .string (bs s2)), (7, .string (bs (r9 ++ a3))), (8, iV a5), (9, .bool a4), (50, .bool b6), (51, .bool false), (52, .bool a4), (53, .bool (!a4))] ?_ ?_
      ·
       rcases Zw H with ⟨c5, H⟩ | ⟨c5, H⟩
       · refine Zm (t := 54) (b' := true) rfl c5 ?_; refine Zb Za ?_; refine Zv Zn ?_; refine Zy Zc ?_; refine Zq ?_; exact Yp (b := (decide (a5 ≠ 0))) H (aF rfl)
       · refine Zm (t := 54) (b' := false) rfl (Bool.eq_false_iff.2 c5) ?_; refine Zf Za ?_; refine Zf Za ?_; refine Yc Zc ?_; refine Zq ?_; exact Yp (b := false) H (aF rfl)
      · rintro c4 H; unfold Z0r at H; refine Yc Zc ?_; refine Zq ?_; exact Yp (b := c4) H (aF rfl)
    ·
     rintro e2 H; unfold Nd at H; refine dN ?_; rcases Zw H with ⟨c6, H⟩ | ⟨c6, H⟩
     · refine Xc rfl c6 ?_; refine sR Y1 rfl ?_; refine aN Za ?_; refine T.ret ?_; refine Yh ?_; obtain rfl := ret1 H; exact Yd Za (Res.tmp rfl) Zh ⟨rfl, rfl⟩
     ·
      refine Wk rfl (Bool.eq_false_iff.2 c6) ?_; refine T.skip ?_; refine Yw ?_; refine Zs ?_; obtain ⟨⟨c7, e4⟩, g2, H⟩ := Zp H; refine rG Y7 rfl ?_; refine Zb Za ?_; refine Zx Gd Za (fun wc hwc => Jr (s0 := s2) wc (hG.mono hwc) g2) ?_; rintro _ _ ⟨rfl, rfl⟩; refine Zb Za ?_; refine TO.extract Zc ?_; refine TO.extract Zc ?_; refine Xi Za ?_; refine aN Za ?_; refine Zs ?_; refine Vs (fun (a2 : Bool) => Nf s2 r9 a3 c7 e4 a2 = some r0) (fun (a2 : Bool) => [(2, .string (bs s2)), (7, .string (bs (r9 ++ a3))), (10, iV c7), (11, .bool e4), (12, .bool a2)]) (fun (a2 : Bool) => []) ?_ ?_
      ·
       rcases Zw H with ⟨c8, H⟩ | ⟨c8, H⟩
       · obtain ⟨e5, g3, H⟩ := Zp H; refine rG Y9 rfl ?_; refine Zb Za ?_; refine Jg (p := s2) Zc Un ?_; refine Zv Zn ?_; refine Zb Za ?_; refine Zm (t := 67) (b' := true) rfl (decide_eq_true c8) ?_; refine Zb Za ?_; refine Zx Z9z Za (fun wc hwc => Z9m (s0 := s2) (s1 := ([48, 49, 50, 51, 52, 53, 54, 55, 56, 57] : Str)) wc  g3) ?_; rintro _ _ ⟨rfl, rfl⟩; refine Wv (p := e5) (q := ([] : Str)) Zc ?_; refine Zy Zc ?_; refine Xi Za ?_; refine Zq ?_; exact Wd (decide (e5 = ([] : Str))) H (aF rfl) Zh
       · refine rG Y9 rfl ?_; refine Zb Za ?_; refine Jg (p := s2) Zc Un ?_; refine Zv Zn ?_; refine Zb Za ?_; refine Zm (t := 67) (b' := false) rfl (decide_eq_false c8) ?_; refine Zf Za ?_; refine Zf Za ?_; refine Zf Za ?_; refine Yc Zc ?_; refine Xi Za ?_; refine Zq ?_; exact Wd false H (aF rfl) Zh
      ·
       rintro a2 H; unfold Nf at H; refine Zs ?_; refine Zs ?_; rcases Zw H with ⟨a8, H⟩ | ⟨a8, H⟩
       ·
        rcases Zw H with ⟨b5, H⟩ | ⟨b5, H⟩
        · refine rG Y17 rfl ?_; refine Zb Za ?_; refine Zb Za ?_; refine Zm (t := 73) (b' := true) rfl a8 ?_; refine Zb Za ?_; refine TO.not Za ?_; refine Zb Za ?_; refine Zm (t := 76) (b' := true) rfl b5 ?_; refine Zf Za ?_; refine Zf Za ?_; refine Zy Zc ?_; refine Zb Za ?_; refine Zf Za ?_; refine Zf Za ?_; refine Zf Za ?_; refine Zf Za ?_; refine Zf Za ?_; refine Zf Za ?_; refine Zy Zc ?_; refine Zy Zc ?_; refine dN ?_; refine Zz (aT [2, 7, 11, 12, 88] rfl) ?_; refine Xc rfl rfl ?_; refine sR Y1 rfl ?_; refine aN Za ?_; refine T.ret ?_; refine Yh ?_; obtain rfl := ret1 H; exact Yd Za (Res.tmp rfl) Zh ⟨rfl, rfl⟩
        ·
         rcases Zw H with ⟨d0, H⟩ | ⟨d0, H⟩
         · refine rG Y17 rfl ?_; refine Zb Za ?_; refine Zb Za ?_; refine Zm (t := 73) (b' := true) rfl a8 ?_; refine Zb Za ?_; refine TO.not Za ?_; refine Zb Za ?_; refine Zm (t := 76) (b' := false) rfl (Bool.eq_false_iff.2 b5) ?_; refine Zb Za ?_; refine Zv Zn ?_; refine Yc Zc ?_; refine Zb Za ?_; refine Zm (t := 80) (b' := true) rfl (decide_eq_true d0) ?_; refine Zf Za ?_; refine Zf Za ?_; refine Zf Za ?_; refine Zf Za ?_; refine Zf Za ?_; refine Zf Za ?_; refine Zy Zc ?_; refine Zy Zc ?_; refine dN ?_; refine Zz (aT [2, 7, 11, 12, 88] rfl) ?_; refine Xc rfl rfl ?_; refine sR Y1 rfl ?_; refine aN Za ?_; refine T.ret ?_; refine Yh ?_; obtain rfl := ret1 H; exact Yd Za (Res.tmp rfl) Zh ⟨rfl, rfl⟩
         ·
          obtain ⟨g7, g9, H⟩ := Zp H; obtain ⟨h0, h1, H⟩ := Zp H; obtain ⟨h2, h3, H⟩ := Zp H; refine rG Y17 rfl ?_; refine Zb Za ?_; refine Zb Za ?_; refine Zm (t := 73) (b' := true) rfl a8 ?_; refine Zb Za ?_; refine TO.not Za ?_; refine Zb Za ?_; refine Zm (t := 76) (b' := false) rfl (Bool.eq_false_iff.2 b5) ?_; refine Zb Za ?_; refine Zv Zn ?_; refine Yc Zc ?_; refine Zb Za ?_; refine Zm (t := 80) (b' := false) rfl (decide_eq_false d0) ?_; refine Zb Za ?_; refine Zx Z40 Za (fun wc hwc => Z5m (s0 := s2) (s1 := ([48] : Str)) wc  g9) ?_; rintro _ _ ⟨rfl, rfl⟩; refine Zb Za ?_; refine Zx Z38 Za (fun wc hwc => Z4i (i0 := c7) (i1 := 10) wc (hG.mono hwc) h1) ?_; rintro _ _ ⟨rfl, rfl⟩; refine Zx Z40 Za (fun wc hwc => Z5m (s0 := h0) (s1 := ([48] : Str)) wc  h3) ?_; rintro _ _ ⟨rfl, rfl⟩; refine TO.neT (p := g7) (q := h2) Zc ?_; refine Yc Zc ?_; refine Zy Zc ?_; refine dN ?_; refine Zz (aT [2, 7, 11, 12, 88] rfl) ?_; rcases Zw H with ⟨d1, H⟩ | ⟨d1, H⟩
          · refine Vm rfl d1 ?_; refine sR Y1 rfl ?_; refine aN Za ?_; refine T.ret ?_; refine Yh ?_; obtain rfl := ret1 H; exact Yd Za (Res.tmp rfl) Zh ⟨rfl, rfl⟩
          ·
           refine Vg rfl d1 ?_; refine T.skip ?_; refine Yw ?_; refine Zs ?_; obtain ⟨h4, H⟩ := Yv H; obtain ⟨⟨i8, a9⟩, h5, H⟩ := Zp H; refine rG Y8 rfl ?_; refine Zb Za ?_; refine Z2j (p := ([45] : Str)) (q := (r9 ++ a3)) h4 Zc ?_; refine Zx Gd Za (fun wc hwc => Jr (s0 := (([45] : Str) ++ (r9 ++ a3))) wc (hG.mono hwc) h5) ?_; rintro _ _ ⟨rfl, rfl⟩; refine Zb Za ?_; refine TO.extract Zc ?_; refine TO.extract Zc ?_; refine Xi Za ?_; refine aN Za ?_; refine Zz (aT [2, 11, 12, 14] rfl) ?_; refine Zs ?_; obtain ⟨⟨i9, a6⟩, h6, H⟩ := Zp H; refine rG Y6 rfl ?_; refine Zx Gd Za (fun wc hwc => Jr (s0 := ([57, 50, 50, 51, 51, 55, 50, 48, 51, 54, 56, 53, 52, 55, 55, 53, 56, 48, 56] : Str)) wc (hG.mono hwc) h6) ?_; rintro _ _ ⟨rfl, rfl⟩; refine Zb Za ?_; refine TO.extract Zc ?_; refine TO.extract Zc ?_; refine Xi Za ?_; refine aN Za ?_; refine sR Y22 rfl ?_; refine Zb Za ?_; refine Zb Za ?_; refine TO.join [2, 3, 4] [5, 6, 7, 8, 9, 10, 11, 12, 13, 14, 15, 16, 17, 18, 19, 20, 21] rfl 103 (fun e6 => Kp s2 a9 a6 e6 = some r0) [(2, .string (bs s2)), (14, .bool a9), (16, .bool a6)] ?_ ?_
           ·
            rcases Zw H with ⟨d2, H⟩ | ⟨d2, H⟩
            · refine Zm (t := 100) (b' := true) rfl d2 ?_; refine Zf Za ?_; refine Zf Za ?_; refine Zy Zc ?_; refine Zq ?_; exact Yp (b := true) H (aF rfl)
            · refine Zm (t := 100) (b' := false) rfl (Bool.eq_false_iff.2 d2) ?_; refine Zb Za ?_; refine TO.not Za ?_; refine Yc Zc ?_; refine Zq ?_; exact Yp (b := (!a2)) H (aF rfl)
           ·
            rintro e6 H; unfold Kp at H; refine Zb Za ?_; refine TO.join [6, 7, 8, 9] [10, 11, 12, 13, 14, 15, 16, 17, 18, 19, 20, 21] rfl 108 (fun e7 => Gr a9 a6 e7 = some r0) [(14, .bool a9), (16, .bool a6)] ?_ ?_
            ·
             rcases Zw H with ⟨d3, H⟩ | ⟨d3, H⟩
             · refine Zm (t := 104) (b' := true) rfl d3 ?_; refine Zf Za ?_; refine Zf Za ?_; refine Zf Za ?_; refine Zy Zc ?_; refine Zq ?_; exact Yp (b := true) H (aF rfl)
             · refine Zm (t := 104) (b' := false) rfl (Bool.eq_false_iff.2 d3) ?_; refine Zb Za ?_; refine Jg (p := s2) Zc Un ?_; refine Zv Zn ?_; refine Yc Zc ?_; refine Zq ?_; exact Yp (b := (decide (19 ≤ (s2.length : Int)))) H (aF rfl)
            ·
             rintro e7 H; unfold Gr at H; refine Zb Za ?_; refine TO.join [11, 12, 13] [14, 15, 16, 17, 18, 19, 20, 21] rfl 112 (fun e8 => Li a6 e8 = some r0) [(16, .bool a6)] ?_ ?_
             ·
              rcases Zw H with ⟨d4, H⟩ | ⟨d4, H⟩
              · refine Zm (t := 109) (b' := true) rfl d4 ?_; refine Zb Za ?_; refine TO.not Za ?_; refine Zy Zc ?_; refine Zq ?_; exact Yp (b := (!a9)) H (aF rfl)
              · refine Zm (t := 109) (b' := false) rfl (Bool.eq_false_iff.2 d4) ?_; refine Zf Za ?_; refine Zf Za ?_; refine Yc Zc ?_; refine Zq ?_; exact Yp (b := false) H (aF rfl)
             ·
              rintro e8 H; unfold Li at H; refine Zb Za ?_; refine TO.join [15, 16, 17] [18, 19, 20, 21] rfl 116 (fun e9 => Lp e9 = some r0) [] ?_ ?_
              ·
               rcases Zw H with ⟨d5, H⟩ | ⟨d5, H⟩
               · refine Zm (t := 113) (b' := true) rfl d5 ?_; refine Zb Za ?_; refine TO.not Za ?_; refine Zy Zc ?_; refine Zq ?_; exact Yp (b := (!a6)) H (aF rfl)
               · refine Zm (t := 113) (b' := false) rfl (Bool.eq_false_iff.2 d5) ?_; refine Zf Za ?_; refine Zf Za ?_; refine Yc Zc ?_; refine Zq ?_; exact Yp (b := false) H (aF rfl)
              ·
               rintro e9 H; unfold Lp at H; refine Zb Za ?_; refine TO.join [19, 20] [21] rfl 119 (fun f0 => Z0e f0 = some r0) [] ?_ ?_
               ·
                rcases Zw H with ⟨d6, H⟩ | ⟨d6, H⟩
                · obtain ⟨h7, h8, H⟩ := Zp H; refine Zm (t := 117) (b' := true) rfl d6 ?_; refine Zx Z19 Za (fun wc hwc => Z1w  wc (hG.mono hwc) h8) ?_; rintro _ _ ⟨rfl, rfl⟩; refine Zy Zc ?_; refine Zq ?_; exact Yp (b := h7) H (aF rfl)
                · refine Zm (t := 117) (b' := false) rfl (Bool.eq_false_iff.2 d6) ?_; refine Zf Za ?_; refine Yc Zc ?_; refine Zq ?_; exact Yp (b := false) H (aF rfl)
               · rintro f0 H; unfold Z0e at H; refine aN Za ?_; refine T.ret ?_; obtain rfl := ret1 H; exact Yd Za (Res.tmp rfl) Zh ⟨rfl, rfl⟩
       ·
        refine rG Y17 rfl ?_; refine Zb Za ?_; refine Zb Za ?_; refine Zm (t := 73) (b' := false) rfl (Bool.eq_false_iff.2 a8) ?_; refine Zf Za ?_; refine Zf Za ?_; refine Zf Za ?_; refine Wl Za ?_; refine Wl Za ?_; refine Zf Za ?_; refine Zf Za ?_; refine Wl Za ?_; refine Wl Za ?_; refine Wl Za ?_; refine Wl Za ?_; refine Wl Za ?_; refine Wl Za ?_; refine Zf Za ?_; refine Yc Zc ?_; refine dN ?_; refine Zz (aT [2, 7, 11, 12, 88] rfl) ?_; refine Wk rfl rfl ?_; refine T.skip ?_; refine Yw ?_; refine Zs ?_; obtain ⟨h9, H⟩ := Yv H; obtain ⟨⟨j0, b3⟩, i4, H⟩ := Zp H; refine rG Y8 rfl ?_; refine Zb Za ?_; refine Z2j (p := ([45] : Str)) (q := (r9 ++ a3)) h9 Zc ?_; refine Zx Gd Za (fun wc hwc => Jr (s0 := (([45] : Str) ++ (r9 ++ a3))) wc (hG.mono hwc) i4) ?_; rintro _ _ ⟨rfl, rfl⟩; refine Zb Za ?_; refine TO.extract Zc ?_; refine TO.extract Zc ?_; refine Xi Za ?_; refine aN Za ?_; refine Zz (aT [2, 11, 12, 14] rfl) ?_; refine Zs ?_; obtain ⟨⟨j1, a7⟩, i5, H⟩ := Zp H; refine rG Y6 rfl ?_; refine Zx Gd Za (fun wc hwc => Jr (s0 := ([57, 50, 50, 51, 51, 55, 50, 48, 51, 54, 56, 53, 52, 55, 55, 53, 56, 48, 56] : Str)) wc (hG.mono hwc) i5) ?_; rintro _ _ ⟨rfl, rfl⟩; refine Zb Za ?_; refine TO.extract Zc ?_; refine TO.extract Zc ?_; refine Xi Za ?_; refine aN Za ?_; refine sR Y22 rfl ?_; refine Zb Za ?_; refine Zb Za ?_; refine TO.join [2, 3, 4] [5, 6, 7, 8, 9, 10, 11, 12, 13, 14, 15, 16, 17, 18, 19, 20, 21] rfl 103 (fun f2 => Lw s2 b3 a7 f2 = some r0) [(2, .string (bs s2)), (14, .bool b3), (16, .bool a7)] ?_ ?_
        ·
         rcases Zw H with ⟨d7, H⟩ | ⟨d7, H⟩
         · refine Zm (t := 100) (b' := true) rfl d7 ?_; refine Zf Za ?_; refine Zf Za ?_; refine Zy Zc ?_; refine Zq ?_; exact Yp (b := true) H (aF rfl)
         · refine Zm (t := 100) (b' := false) rfl (Bool.eq_false_iff.2 d7) ?_; refine Zb Za ?_; refine TO.not Za ?_; refine Yc Zc ?_; refine Zq ?_; exact Yp (b := (!a2)) H (aF rfl)
        ·
         rintro f2 H; unfold Lw at H; refine Zb Za ?_; refine TO.join [6, 7, 8, 9] [10, 11, 12, 13, 14, 15, 16, 17, 18, 19, 20, 21] rfl 108 (fun f3 => Ru b3 a7 f3 = some r0) [(14, .bool b3), (16, .bool a7)] ?_ ?_
         ·
          rcases Zw H with ⟨d8, H⟩ | ⟨d8, H⟩
          · refine Zm (t := 104) (b' := true) rfl d8 ?_; refine Zf Za ?_; refine Zf Za ?_; refine Zf Za ?_; refine Zy Zc ?_; refine Zq ?_; exact Yp (b := true) H (aF rfl)
          · refine Zm (t := 104) (b' := false) rfl (Bool.eq_false_iff.2 d8) ?_; refine Zb Za ?_; refine Jg (p := s2) Zc Un ?_; refine Zv Zn ?_; refine Yc Zc ?_; refine Zq ?_; exact Yp (b := (decide (19 ≤ (s2.length : Int)))) H (aF rfl)
         ·
          rintro f3 H; unfold Ru at H; refine Zb Za ?_; refine TO.join [11, 12, 13] [14, 15, 16, 17, 18, 19, 20, 21] rfl 112 (fun f4 => Rs a7 f4 = some r0) [(16, .bool a7)] ?_ ?_
          ·
           rcases Zw H with ⟨d9, H⟩ | ⟨d9, H⟩
           · refine Zm (t := 109) (b' := true) rfl d9 ?_; refine Zb Za ?_; refine TO.not Za ?_; refine Zy Zc ?_; refine Zq ?_; exact Yp (b := (!b3)) H (aF rfl)
           · refine Zm (t := 109) (b' := false) rfl (Bool.eq_false_iff.2 d9) ?_; refine Zf Za ?_; refine Zf Za ?_; refine Yc Zc ?_; refine Zq ?_; exact Yp (b := false) H (aF rfl)
          ·
           rintro f4 H; unfold Rs at H; refine Zb Za ?_; refine TO.join [15, 16, 17] [18, 19, 20, 21] rfl 116 (fun f5 => Z0m f5 = some r0) [] ?_ ?_
           ·
            rcases Zw H with ⟨e0, H⟩ | ⟨e0, H⟩
            · refine Zm (t := 113) (b' := true) rfl e0 ?_; refine Zb Za ?_; refine TO.not Za ?_; refine Zy Zc ?_; refine Zq ?_; exact Yp (b := (!a7)) H (aF rfl)
            · refine Zm (t := 113) (b' := false) rfl (Bool.eq_false_iff.2 e0) ?_; refine Zf Za ?_; refine Zf Za ?_; refine Yc Zc ?_; refine Zq ?_; exact Yp (b := false) H (aF rfl)
           ·
            rintro f5 H; unfold Z0m at H; refine Zb Za ?_; refine TO.join [19, 20] [21] rfl 119 (fun f6 => Z0f f6 = some r0) [] ?_ ?_
            ·
             rcases Zw H with ⟨e1, H⟩ | ⟨e1, H⟩
             · obtain ⟨i6, i7, H⟩ := Zp H; refine Zm (t := 117) (b' := true) rfl e1 ?_; refine Zx Z19 Za (fun wc hwc => Z1w  wc (hG.mono hwc) i7) ?_; rintro _ _ ⟨rfl, rfl⟩; refine Zy Zc ?_; refine Zq ?_; exact Yp (b := i6) H (aF rfl)
             · refine Zm (t := 117) (b' := false) rfl (Bool.eq_false_iff.2 e1) ?_; refine Zf Za ?_; refine Yc Zc ?_; refine Zq ?_; exact Yp (b := false) H (aF rfl)
            · rintro f6 H; unfold Z0f at H; refine aN Za ?_; refine T.ret ?_; obtain rfl := ret1 H; exact Yd Za (Res.tmp rfl) Zh ⟨rfl, rfl⟩
end Go.Proofs.YtnppjbofdkokkaaGreatDoor.Ax
namespace Go.Acq
open Go
def Um (a : Arc) (v : Nat) : Nat := if a.fr = a.to then 0 else if a.fr = v ∨ a.to = v then 1 else 0
def Wg (al : List Arc) (v : Nat) : Nat → Nat
  | 0 => 0
  | k + 1 => Wg al v k + Um (al.getD k default) v
def Yk (al : List Arc) : Nat → Nat
  | 0 => 0
  | v + 1 => Yk al v + Wg al v al.length
def Yx (a : Arc) (s : Bool) : Int := if s then a.to else a.fr
def Zd (al : List Arc) (i : Nat) (s : Bool) : Nat := Yk al (Yx (al.getD i default) s).toNat + Wg al (Yx (al.getD i default) s).toNat i
def Np (n : Nat) (al : List Arc) : Prop := ∀ i, i < al.length → ∀ s, 0 ≤ Yx (al.getD i default) s ∧ Yx (al.getD i default) s < n
theorem lset {α : Type} (xs : List α) (i j : Nat) (v d : α) : (xs.set i v).getD j d = if i = j ∧ i < xs.length then v else xs.getD j d := by
 rw [List.getD_eq_getElem?_getD, List.getD_eq_getElem?_getD, List.getElem?_set]
 split
 ·
  rename_i h; subst h
  split
  · rename_i h2; simp [h2]
  · rename_i h2; simp [h2]
 · rename_i h; simp [h]
theorem Jc {α : Type} {xs : List α} {i j : Nat} {v d : α} (h : i ≠ j) : (xs.set i v).getD j d = xs.getD j d := by
 rw [lset, if_neg (fun e => h e.1)]
theorem Z21 {α : Type} {xs : List α} {i : Nat} {v d : α} (h : i < xs.length) : (xs.set i v).getD i d = v := by
 rw [lset, if_pos ⟨rfl, h⟩]
theorem hit_le (a : Arc) (v : Nat) : Um a v ≤ 1 := by unfold Um; split; omega; split <;> omega
theorem cnt_mono {al : List Arc} {v i j : Nat} (h : i ≤ j) : Wg al v i ≤ Wg al v j := by
 induction h with
 | refl => exact Nat.le_refl _
 | step _ ih => exact Nat.le_trans ih (Nat.le_add_right _ _)
theorem Z0z {al : List Arc} {u v : Nat} (h : u ≤ v) : Yk al u ≤ Yk al v := by
 induction h with
 | refl => exact Nat.le_refl _
 | step _ ih => exact Nat.le_trans ih (Nat.le_add_right _ _)
theorem hit_vtx {a : Arc} {s : Bool} (h : a.fr ≠ a.to) (h0 : 0 ≤ Yx a s) : Um a (Yx a s).toNat = 1 := by
 unfold Um; rw [if_neg h, if_pos]
 cases s
 · left; simp only [Yx] at h0 ⊢; simp only [Bool.false_eq_true, if_false] at h0 ⊢; omega
 · right; simp only [Yx] at h0 ⊢; simp only [if_true] at h0 ⊢; omega
theorem Lx {al : List Arc} {i j : Nat} {s : Bool} (hij : i < j) (h : (al.getD i default).fr ≠ (al.getD i default).to) (h0 : 0 ≤ Yx (al.getD i default) s) :
    Wg al (Yx (al.getD i default) s).toNat i < Wg al (Yx (al.getD i default) s).toNat j := by
  have h1 := cnt_mono (al := al) (v := (Yx (al.getD i default) s).toNat) (i := i + 1) (j := j) hij
  have h2 := hit_vtx h h0
  simp only [Wg] at h1
  omega
theorem pos_lt {al : List Arc} {n i : Nat} {s : Bool} (hi : i < al.length) (h : (al.getD i default).fr ≠ (al.getD i default).to) (he : Np n al) : Zd al i s < Yk al n := by
 have h1 := Lx (s := s) hi h (he i hi s).1
 have h2 := Z0z (al := al) (u := (Yx (al.getD i default) s).toNat + 1) (v := n) (by have := he i hi s; omega)
 simp only [Yk] at h2
 unfold Zd; omega
theorem Z22 {al : List Arc} {n i j : Nat} {s t : Bool} (he : Np n al) (hi : i < al.length) (hj : j < al.length) (h : (al.getD i default).fr ≠ (al.getD i default).to) (g : (al.getD j default).fr ≠ (al.getD j default).to)
    (e : Zd al i s = Zd al j t) : i = j ∧ s = t := by
  have hi1 := Lx (s := s) hi h (he i hi s).1
  have hj1 := Lx (s := t) hj g (he j hj t).1
  have hv : (Yx (al.getD i default) s).toNat = (Yx (al.getD j default) t).toNat := by
    rcases Nat.lt_trichotomy (Yx (al.getD i default) s).toNat (Yx (al.getD j default) t).toNat with h1 | h1 | h1
    · have := Z0z (al := al) (u := (Yx (al.getD i default) s).toNat + 1) h1
      simp only [Yk] at this
      unfold Zd at e; omega
    · exact h1
    · have := Z0z (al := al) (u := (Yx (al.getD j default) t).toNat + 1) h1
      simp only [Yk] at this
      unfold Zd at e; omega
  have hij : i = j := by
    rcases Nat.lt_trichotomy i j with h1 | h1 | h1
    · have h2 := Lx (s := s) h1 h (he i hi s).1
      unfold Zd at e; rw [hv] at e h2; omega
    · exact h1
    · have h2 := Lx (s := t) h1 g (he j hj t).1
      unfold Zd at e; rw [hv] at e; omega
  refine ⟨hij, ?_⟩
  subst hij
  have h1 := (he i hi s).1
  have h2 := (he i hi t).1
  cases s <;> cases t <;> first | rfl | (simp only [Yx, Bool.false_eq_true, if_false, if_true] at hv h1 h2; omega)
theorem Z4v {al : List Arc} {v r : Nat} : ∀ {k : Nat}, r < Wg al v k → ∃ i, i < k ∧ Wg al v i = r ∧ Um (al.getD i default) v = 1
 | 0, h => by simp [Wg] at h
 | k + 1, h => by
  by_cases h1 : r < Wg al v k
  · obtain ⟨i, h2, h3⟩ := Z4v h1; exact ⟨i, by omega, h3⟩
  ·
   have := hit_le (al.getD k default) v
   simp only [Wg] at h
   exact ⟨k, by omega, by omega, by omega⟩
theorem Z3a {al : List Arc} {p : Nat} : ∀ {n : Nat}, p < Yk al n → ∃ v, v < n ∧ Yk al v ≤ p ∧ p < Yk al (v + 1)
 | 0, h => by simp [Yk] at h
 | n + 1, h => by
  by_cases h1 : p < Yk al n
  · obtain ⟨v, h2, h3⟩ := Z3a h1; exact ⟨v, by omega, h3⟩
  · exact ⟨n, by omega, by omega, h⟩
theorem pos_surj {al : List Arc} {n p : Nat} (h : p < Yk al n) : ∃ i s, i < al.length ∧ (al.getD i default).fr ≠ (al.getD i default).to ∧ Zd al i s = p ∧ 0 ≤ Yx (al.getD i default) s ∧ Yx (al.getD i default) s < n ∧
    Yk al (Yx (al.getD i default) s).toNat ≤ p ∧ p < Yk al ((Yx (al.getD i default) s).toNat + 1) := by
  obtain ⟨v, hv, h1, h2⟩ := Z3a h
  simp only [Yk] at h2
  obtain ⟨i, hi, h3, h4⟩ := Z4v (al := al) (v := v) (r := p - Yk al v) (k := al.length) (by omega)
  unfold Um at h4
  split at h4
  · omega
  · rename_i hne
    split at h4
    · rename_i ho
      rcases ho with ho | ho
      · refine ⟨i, false, hi, hne, ?_, ?_, ?_, ?_, ?_⟩ <;> simp only [Zd, Yx, Bool.false_eq_true, if_false, ho, Int.toNat_natCast, Yk] <;> omega
      · refine ⟨i, true, hi, hne, ?_, ?_, ?_, ?_, ?_⟩ <;> simp only [Zd, Yx, if_true, ho, Int.toNat_natCast, Yk] <;> omega
    · omega
def CsrAt (al : List Arc) (hs rs cs aa : List Int) (bs : List Bool) (k : Nat) : Prop :=
  ∀ i, i < k → (al.getD i default).fr ≠ (al.getD i default).to → ∀ s,
    hs.getD (Zd al i s) 0 = Yx (al.getD i default) (!s) ∧ rs.getD (Zd al i s) 0 = Zd al i (!s) ∧ cs.getD (Zd al i s) 0 = (if s then 0 else (al.getD i default).cap) ∧
    aa.getD (Zd al i s) 0 = i ∧ bs.getD (Zd al i s) false = s
structure CsrOK (al : List Arc) (n : Nat) (fs hs rs cs aa : List Int) (bs : List Bool) : Prop where
  lf : fs.length = n + 1
  lh : hs.length = Yk al n
  lr : rs.length = Yk al n
  lc : cs.length = Yk al n
  la : aa.length = Yk al n
  lb : bs.length = Yk al n
  hf : ∀ v, v ≤ n → fs.getD v 0 = Yk al v
  hat : CsrAt al hs rs cs aa bs al.length
theorem CsrAt.skip {al : List Arc} {hs rs cs aa : List Int} {bs : List Bool} {k : Nat} (h : CsrAt al hs rs cs aa bs k) (e : (al.getD k default).fr = (al.getD k default).to) : CsrAt al hs rs cs aa bs (k + 1) := by
 intro i hi hne s
 rcases Nat.lt_succ_iff_lt_or_eq.1 hi with h1 | h1
 · exact h i h1 hne s
 · subst h1; exact absurd e hne
theorem Jj {α : Type} {xs : List α} {p q j : Nat} {u v d : α} (hp : p < xs.length) (hq : q < xs.length) (hpq : p ≠ q) :
    ((xs.set p u).set q v).getD j d = if j = p then u else if j = q then v else xs.getD j d := by
  rw [lset, lset]
  by_cases h1 : j = p
  · subst h1; rw [if_pos rfl, if_neg (fun e => hpq e.1.symm), if_pos ⟨rfl, hp⟩]
  · rw [if_neg h1]
    by_cases h2 : j = q
    · subst h2; rw [if_pos rfl, if_pos ⟨rfl, by simpa using hq⟩]
    · rw [if_neg h2, if_neg (fun e => h2 e.1.symm), if_neg (fun e => h1 e.1.symm)]
theorem CsrAt.put {al : List Arc} {n : Nat} {hs rs cs aa : List Int} {bs : List Bool} {k : Nat} (h : CsrAt al hs rs cs aa bs k) (he : Np n al) (hk : k < al.length) (hne : (al.getD k default).fr ≠ (al.getD k default).to)
    (lh : hs.length = Yk al n) (lr : rs.length = Yk al n) (lc : cs.length = Yk al n) (la : aa.length = Yk al n) (lb : bs.length = Yk al n) :
    CsrAt al ((hs.set (Zd al k false) (al.getD k default).to).set (Zd al k true) (al.getD k default).fr) ((rs.set (Zd al k false) (Zd al k true)).set (Zd al k true) (Zd al k false))
      ((cs.set (Zd al k false) (al.getD k default).cap).set (Zd al k true) 0) ((aa.set (Zd al k false) k).set (Zd al k true) k) ((bs.set (Zd al k false) false).set (Zd al k true) true) (k + 1) := by
  have hp : Zd al k false < Yk al n := pos_lt hk hne he
  have hq : Zd al k true < Yk al n := pos_lt hk hne he
  have hpq : Zd al k false ≠ Zd al k true := fun e => by have := (Z22 he hk hk hne hne e).2; cases this
  intro i hi hni s
  have hil : i < al.length := by omega
  rw [Jj (by omega) (by omega) hpq, Jj (by omega) (by omega) hpq, Jj (by omega) (by omega) hpq, Jj (by omega) (by omega) hpq, Jj (by omega) (by omega) hpq]
  by_cases hik : i = k
  · subst hik
    cases s
    · simp [Yx]
    · simp [Yx, hpq.symm]
  · have h1 : Zd al i s ≠ Zd al k false := fun e => hik (Z22 he hil hk hni hne e).1
    have h2 : Zd al i s ≠ Zd al k true := fun e => hik (Z22 he hil hk hni hne e).1
    simp only [if_neg h1, if_neg h2]
    exact h i (by omega) hni s
def Counted (al : List Arc) (m k : Nat) (fs : List Int) : Prop := fs.length = m + 1 ∧ fs.getD 0 0 = 0 ∧ ∀ v : Int, 0 ≤ v → v < m → fs.getD (v + 1).toNat 0 = Wg al v.toNat k
def Summed (al : List Arc) (m k : Nat) (fs : List Int) : Prop := fs.length = m + 1 ∧ (∀ u, u ≤ k → fs.getD u 0 = Yk al u) ∧ ∀ u, k ≤ u → u < m → fs.getD (u + 1) 0 = Wg al u al.length
theorem Counted.skip {al : List Arc} {m k : Nat} {fs : List Int} (h : Counted al m k fs) (e : (al.getD k default).fr = (al.getD k default).to) : Counted al m (k + 1) fs :=
 ⟨h.1, h.2.1, fun v h0 h1 => by rw [h.2.2 v h0 h1]; simp only [Wg, Um, if_pos e, Nat.add_zero]⟩
theorem Counted.put {al : List Arc} {m k : Nat} {fs : List Int} (h : Counted al m k fs) (he : Np m al) (hk : k < al.length) (hne : (al.getD k default).fr ≠ (al.getD k default).to) :
    Counted al m (k + 1) ((fs.set ((al.getD k default).fr + 1).toNat (fs.getD ((al.getD k default).fr + 1).toNat 0 + 1)).set ((al.getD k default).to + 1).toNat
      ((fs.set ((al.getD k default).fr + 1).toNat (fs.getD ((al.getD k default).fr + 1).toNat 0 + 1)).getD ((al.getD k default).to + 1).toNat 0 + 1)) := by
  have e0 := he k hk false
  have e1 := he k hk true
  simp only [Yx, Bool.false_eq_true, if_false, if_true] at e0 e1
  obtain ⟨hl, hz, hv⟩ := h
  refine ⟨by simpa using hl, ?_, ?_⟩
  · rw [Jc (by omega), Jc (by omega)]; exact hz
  · intro v h0 h1
    have hvv := hv v h0 h1
    rw [Jc (i := ((al.getD k default).fr + 1).toNat) (j := ((al.getD k default).to + 1).toNat) (by omega), Jj (by omega) (by omega) (by omega)]
    simp only [Wg, Um, if_neg hne]
    by_cases a1 : v = (al.getD k default).fr
    · rw [if_pos (by omega), if_pos (by omega), ← a1, hvv]; omega
    · rw [if_neg (by omega)]
      by_cases a2 : v = (al.getD k default).to
      · rw [if_pos (by omega), if_pos (by omega), ← a2, hvv]; omega
      · rw [if_neg (by omega), if_neg (by omega), hvv]; omega
theorem Summed.put {al : List Arc} {m k : Nat} {fs : List Int} (h : Summed al m k fs) (hk : k < m) {i : Nat} (hi : i = k + 1) : Summed al m (k + 1) (fs.set i (fs.getD i 0 + fs.getD k 0)) := by
 subst hi
 obtain ⟨hl, h1, h2⟩ := h
 refine ⟨by simpa using hl, fun u hu => ?_, fun u h3 h4 => ?_⟩
 ·
  by_cases e : u = k + 1
  · subst e; rw [Z21 (by omega), h1 k (Nat.le_refl _), h2 k (Nat.le_refl _) hk]; simp [Yk]; omega
  · rw [Jc (by omega)]; exact h1 u (by omega)
 · rw [Jc (by omega)]; exact h2 u (by omega) h4
def MakeAt (al : List Arc) (m k : Nat) (nx hs rs cs aa : List Int) (bs : List Bool) : Prop :=
  (nx.length = m + 1 ∧ hs.length = Yk al m ∧ rs.length = Yk al m ∧ cs.length = Yk al m ∧ aa.length = Yk al m ∧ bs.length = Yk al m) ∧
  CsrAt al hs rs cs aa bs k ∧ ∀ v : Int, 0 ≤ v → v < m → nx.getD v.toNat 0 = Yk al v.toNat + Wg al v.toNat k
theorem MakeAt.skip {al : List Arc} {m k : Nat} {nx hs rs cs aa : List Int} {bs : List Bool} (h : MakeAt al m k nx hs rs cs aa bs) (e : (al.getD k default).fr = (al.getD k default).to) : MakeAt al m (k + 1) nx hs rs cs aa bs :=
 ⟨h.1, h.2.1.skip e, fun v h0 h1 => by rw [h.2.2 v h0 h1]; simp only [Wg, Um, if_pos e, Nat.add_zero]⟩
theorem MakeAt.at {al : List Arc} {m k : Nat} {nx hs rs cs aa : List Int} {bs : List Bool} (h : MakeAt al m k nx hs rs cs aa bs) (he : Np m al) (hk : k < al.length) (s : Bool) : nx.getD (Yx (al.getD k default) s).toNat 0 = (Zd al k s : Nat) := by
 rw [h.2.2 _ (he k hk s).1 (he k hk s).2]; simp only [Zd]; omega
theorem MakeAt.put {al : List Arc} {m k : Nat} {nx hs rs cs aa : List Int} {bs : List Bool} (h : MakeAt al m k nx hs rs cs aa bs) (he : Np m al) (hk : k < al.length) (hne : (al.getD k default).fr ≠ (al.getD k default).to) :
    MakeAt al m (k + 1) ((nx.set (al.getD k default).fr.toNat ((Zd al k false : Nat) + 1)).set (al.getD k default).to.toNat ((Zd al k true : Nat) + 1))
      ((hs.set (Zd al k false) (al.getD k default).to).set (Zd al k true) (al.getD k default).fr) ((rs.set (Zd al k false) (Zd al k true)).set (Zd al k true) (Zd al k false))
      ((cs.set (Zd al k false) (al.getD k default).cap).set (Zd al k true) 0) ((aa.set (Zd al k false) k).set (Zd al k true) k) ((bs.set (Zd al k false) false).set (Zd al k true) true) := by
  have g0 := h.at he hk false
  have g1 := h.at he hk true
  obtain ⟨⟨l0, l1, l2, l3, l4, l5⟩, hA, hv⟩ := h
  have e0 := he k hk false
  have e1 := he k hk true
  simp only [Yx, Bool.false_eq_true, if_false, if_true] at e0 e1 g0 g1
  refine ⟨⟨by simpa using l0, by simpa using l1, by simpa using l2, by simpa using l3, by simpa using l4, by simpa using l5⟩, hA.put he hk hne l1 l2 l3 l4 l5, fun v h0 h1 => ?_⟩
  have hvv := hv v h0 h1
  rw [Jj (by omega) (by omega) (by omega)]
  simp only [Wg, Um, if_neg hne]
  by_cases a1 : v = (al.getD k default).fr
  · rw [if_pos (by omega), if_pos (by omega), ← g0, ← a1, hvv]; omega
  · rw [if_neg (by omega)]
    by_cases a2 : v = (al.getD k default).to
    · rw [if_pos (by omega), if_pos (by omega), ← g1, ← a2, hvv]; omega
    · rw [if_neg (by omega), if_neg (by omega), hvv]; omega
theorem MakeAt.done {al : List Arc} {m : Nat} {fs nx hs rs cs aa : List Int} {bs : List Bool} (h : MakeAt al m al.length nx hs rs cs aa bs) (hl : fs.length = m + 1) (hf : ∀ u, u ≤ m → fs.getD u 0 = Yk al u) : CsrOK al m fs hs rs cs aa bs :=
 ⟨hl, h.1.2.1, h.1.2.2.1, h.1.2.2.2.1, h.1.2.2.2.2.1, h.1.2.2.2.2.2, hf, h.2.1⟩
end Go.Acq
namespace Go.Acq
open Go
def SomeAt (m : Nat) (ol : List Arc) : Prop := ∀ a, a ∈ ol → endsB m a = true ∧ 0 ≤ a.cap ∧ a.cap < 1125899906842624
theorem SomeAt.put {m : Nat} {ol : List Arc} {a : Arc} (h : SomeAt m ol) (h1 : 0 ≤ a.fr ∧ a.fr < m) (h2 : 0 ≤ a.to ∧ a.to < m) (h3 : 0 ≤ a.cap ∧ a.cap < 1125899906842624) : SomeAt m (ol ++ [a]) := by
 intro b hb
 rcases List.mem_append.1 hb with hb | hb
 · exact h b hb
 ·
  simp only [List.mem_singleton] at hb
  subst hb
  exact ⟨by simp [endsB, Z1y, h1, h2], h3⟩
def WithinAt (al : List Arc) (n k : Nat) (fl : List Int) : Prop := fl.length = n ∧
  (∀ i, i < k → 0 ≤ fl.getD i 0 ∧ fl.getD i 0 ≤ (al.getD i default).cap ∧ ((al.getD i default).fr = (al.getD i default).to → fl.getD i 0 = 0)) ∧ ∀ i, k ≤ i → fl.getD i 0 = 0
theorem WithinAt.skip {al : List Arc} {n k : Nat} {fl : List Int} (h : WithinAt al n k fl) (hc : 0 ≤ (al.getD k default).cap) : WithinAt al n (k + 1) fl := by
 refine ⟨h.1, fun i hi => ?_, fun i hi => h.2.2 i (by omega)⟩
 rcases Nat.lt_succ_iff_lt_or_eq.1 hi with h1 | h1
 · exact h.2.1 i h1
 · subst h1; have := h.2.2 i (Nat.le_refl _); rw [this]; exact ⟨Int.le_refl _, hc, fun _ => rfl⟩
theorem WithinAt.put {al : List Arc} {n k : Nat} {fl : List Int} {v : Int} (h : WithinAt al n k fl) (hk : k < n) (h0 : 0 ≤ v) (h1 : v ≤ (al.getD k default).cap) (hne : (al.getD k default).fr ≠ (al.getD k default).to) : WithinAt al n (k + 1) (fl.set k v) := by
 refine ⟨by simpa using h.1, fun i hi => ?_, fun i hi => by rw [Jc (by omega)]; exact h.2.2 i (by omega)⟩
 by_cases e : i = k
 · subst e; rw [Z21 (by rw [h.1]; exact hk)]; exact ⟨h0, h1, fun e => absurd e hne⟩
 · rw [Jc (by omega)]; exact h.2.1 i (by omega)
def resOK (aa cs : List Int) (bs : List Bool) (fl : List Int) (j : Nat) : Prop := aa.getD j 0 < fl.length ∧ (bs.getD j false = true ∨ (0 ≤ fl.getD (aa.getD j 0).toNat 0 ∧ fl.getD (aa.getD j 0).toNat 0 ≤ cs.getD j 0))
def resV (aa cs : List Int) (bs : List Bool) (fl : List Int) (j : Nat) : Int := if bs.getD j false = true then fl.getD (aa.getD j 0).toNat 0 else cs.getD j 0 - fl.getD (aa.getD j 0).toNat 0
def ResAt (aa cs : List Int) (bs : List Bool) (fl : List Int) (L k : Nat) (rl : List Int) : Prop := rl.length = L ∧ ∀ j, j < k → resOK aa cs bs fl j ∧ rl.getD j 0 = resV aa cs bs fl j
theorem ResAt.put {aa cs : List Int} {bs : List Bool} {fl : List Int} {L k : Nat} {rl : List Int} {v : Int} (h : ResAt aa cs bs fl L k rl) (hk : k < L) (h1 : resOK aa cs bs fl k) (h2 : v = resV aa cs bs fl k) : ResAt aa cs bs fl L (k + 1) (rl.set k v) := by
 refine ⟨by simpa using h.1, fun j hj => ?_⟩
 by_cases e : j = k
 · subst e; rw [Z21 (by rw [h.1]; exact hk)]; exact ⟨h1, h2⟩
 · rw [Jc (by omega)]; exact h.2 j (by omega)
end Go.Acq
namespace Go.Acq
open Go
def turn (a : Arc) : Arc := ⟨a.to, a.fr, a.cap⟩
theorem Z76 (al : List Arc) (i : Nat) : (al.map turn).getD i default = turn (al.getD i default) := by
 rw [List.getD_eq_getElem?_getD, List.getD_eq_getElem?_getD, List.getElem?_map]
 cases al[i]? <;> rfl
theorem SomeAt.turn {m : Nat} {ol : List Arc} (h : SomeAt m ol) : SomeAt m (ol.map turn) := by
 intro a ha
 obtain ⟨b, hb, rfl⟩ := List.mem_map.1 ha
 obtain ⟨h1, h2⟩ := h b hb
 simp only [endsB, Bool.and_eq_true] at h1
 exact ⟨by simp only [endsB, Acq.turn, Bool.and_eq_true]; exact ⟨h1.2, h1.1⟩, h2⟩
theorem WithinAt.turn {al : List Arc} {n k : Nat} {fl : List Int} (h : WithinAt al n k fl) : WithinAt (al.map turn) n k fl :=
 ⟨h.1, fun i hi => by rw [Z76]; exact ⟨(h.2.1 i hi).1, (h.2.1 i hi).2.1, fun e => (h.2.1 i hi).2.2 e.symm⟩, h.2.2⟩
theorem CsrOK.place {al : List Arc} {m : Nat} {fs hs rs cs aa : List Int} {bs : List Bool} (h : CsrOK al m fs hs rs cs aa bs) {j : Nat} (hj : j < Yk al m) :
    ∃ i s, i < al.length ∧ (al.getD i default).fr ≠ (al.getD i default).to ∧ Zd al i s = j ∧ hs.getD j 0 = Yx (al.getD i default) (!s) ∧ rs.getD j 0 = Zd al i (!s) ∧ cs.getD j 0 = (if s then 0 else (al.getD i default).cap) ∧ aa.getD j 0 = i ∧ bs.getD j false = s := by
  obtain ⟨i, s, hi, hne, hp, _⟩ := pos_surj hj
  have := h.hat i hi hne s
  rw [hp] at this
  exact ⟨i, s, hi, hne, hp, this⟩
end Go.Acq
namespace Go.Acq
open Go
theorem ok_eq {α : Type} {m : Option α} {v : α} (h : Ok m (fun a => a = v)) : m = some v := by obtain ⟨a, h1, h2⟩ := h; rw [h1, h2]
theorem Nr {α : Type} {m : Option α} {v : α} {Q : α → Prop} (h : m = some v) (q : Q v) : Ok m Q := ⟨v, h, q⟩
end Go.Acq
namespace Go.Acq
open Go
end Go.Acq
namespace Go.Acq
open Go
def ex (al : List Arc) (f : List Int) (v : Int) : Nat → Int
  | 0 => 0
  | k + 1 => ex al f v k - (if (al.getD k default).fr = v then f.getD k 0 else 0) + (if (al.getD k default).to = v then f.getD k 0 else 0)
def part (al : List Arc) (f : List Int) (j : Int) : Nat → Int
  | 0 => 0
  | k + 1 => part al f j k - (if (al.getD k default).fr < j then f.getD k 0 else 0) + (if (al.getD k default).to < j then f.getD k 0 else 0)
end Go.Acq
namespace Go.Acq
open Go Go.Lib
theorem bs_getD (x : Str) (i : Nat) : (bs x).get! i = x.getD i 0 := by
 by_cases h : i < x.length
 · rw [Z5r x i h, List.getD_eq_getElem?_getD, List.getElem?_eq_getElem h]; rfl
 ·
  rw [List.getD_eq_getElem?_getD, List.getElem?_eq_none (by omega)]
  simp [ByteArray.get!, bs, h]; rfl
theorem Z80 (x : Str) (i : Nat) (h : i < x.length) (ha : 128 ≤ (x.getD i 0).toNat) : ∃ r k, Utf8.decode (bs x) i = (r, k) ∧ 128 ≤ r ∧ 1 ≤ k ∧ ∀ j, j < k → i + j < x.length ∧ 128 ≤ (x.getD (i + j) 0).toNat := by
 have h0 : ∀ j, j < 1 → i + j < x.length ∧ 128 ≤ (x.getD (i + j) 0).toNat := fun j hj => by
  obtain rfl : j = 0 := by omega
  exact ⟨h, ha⟩
 have hc : ∀ j, (decide (i + j < (bs x).size) && ((x.getD (i + j) 0).toNat / 64 == 2)) = true → i + j < x.length ∧ 128 ≤ (x.getD (i + j) 0).toNat := fun j hj => by
  simp only [Bool.and_eq_true, decide_eq_true_eq, beq_iff_eq, bs_size] at hj
  omega
 unfold Utf8.decode
 simp only [bs_getD, Nat.add_zero]
 rw [if_neg (by omega)]
 split
 ·
  rename_i h1
  rw [Bool.and_eq_true] at h1
  split
  ·
   refine ⟨_, _, rfl, by assumption, by omega, fun j hj => ?_⟩
   rcases (by omega : j = 0 ∨ j = 1) with rfl | rfl
   · exact h0 0 (by omega)
   · exact hc 1 h1.2
  · exact ⟨_, _, rfl, by decide, by omega, h0⟩
 ·
  split
  ·
   rename_i h1
   rw [Bool.and_eq_true, Bool.and_eq_true] at h1
   split
   ·
    rename_i h2
    rw [Bool.and_eq_true, decide_eq_true_eq] at h2
    refine ⟨_, _, rfl, by omega, by omega, fun j hj => ?_⟩
    rcases (by omega : j = 0 ∨ j = 1 ∨ j = 2) with rfl | rfl | rfl
    · exact h0 0 (by omega)
    · exact hc 1 h1.1.2
    · exact hc 2 h1.2
   · exact ⟨_, _, rfl, by decide, by omega, h0⟩
  ·
   split
   ·
    rename_i h1
    rw [Bool.and_eq_true, Bool.and_eq_true, Bool.and_eq_true] at h1
    split
    ·
     rename_i h2
     rw [Bool.and_eq_true, decide_eq_true_eq] at h2
     refine ⟨_, _, rfl, by omega, by omega, fun j hj => ?_⟩
     rcases (by omega : j = 0 ∨ j = 1 ∨ j = 2 ∨ j = 3) with rfl | rfl | rfl | rfl
     · exact h0 0 (by omega)
     · exact hc 1 h1.1.1.2
     · exact hc 2 h1.1.2
     · exact hc 3 h1.2
    · exact ⟨_, _, rfl, by decide, by omega, h0⟩
   · exact ⟨_, _, rfl, by decide, by omega, h0⟩
theorem getD_of {l : Str} {i : Nat} {c : UInt8} (h : l[i]? = some c) : l.getD i 0 = c := by rw [List.getD_eq_getElem?_getD, h]; rfl
theorem anyT_any {p : Nat → Bool} (hp : ∀ r, 128 ≤ r → p r = true) (l : Str) : Lb p l = l.any (fun b => p b.toNat) := by
 rw [← Z5d]
 have key : ∀ (f Zd : Nat), l.length ≤ Zd + f → decide (0 ≤ idxFuncFrom p true (bs l) f Zd) = (l.drop Zd).any (fun b => p b.toNat) := by
  intro f
  induction f with
  | zero => intro Zd hf; rw [List.drop_eq_nil_of_le (by omega)]; rfl
  | succ f ih =>
   intro Zd hf
   by_cases hlt : Zd < l.length
   ·
    obtain ⟨c, hc⟩ := Z36 hlt
    rw [idxFuncFrom, if_pos (by rw [bs_size]; exact hlt), Z2q hc, List.any_cons]
    by_cases ha : c.toNat < 128
    ·
     rw [Z2x l Zd c hc ha]
     by_cases hq : p c.toNat = true
     · rw [if_pos hq, hq, Bool.true_or]; exact decide_eq_true (by omega)
     ·
      rw [if_neg hq, Bool.eq_false_iff.2 hq, Bool.false_or]
      exact ih (Zd + 1) (by omega)
    ·
     obtain ⟨r, k, hd, hr, hk, hj⟩ := Z80 l Zd hlt (by rw [getD_of hc]; omega)
     rw [hd, if_pos (hp r hr), hp _ (by omega), Bool.true_or]
     exact decide_eq_true (by omega)
   · rw [idxFuncFrom_end _ _ _ _ _ (by rw [bs_size]; exact hlt), List.drop_eq_nil_of_le (by omega)]; rfl
 unfold idxFunc
 rw [bs_size, key l.length 0 (by omega), List.drop_zero]
def Yy (b : UInt8) : Bool := decide (48 ≤ b.toNat ∧ b.toNat ≤ 57)
def Yo (acc : Nat) (l : Str) : Nat := l.foldl (fun a b => a * 10 + (b.toNat - 48)) acc
theorem Z0w (acc : Nat) : Yo acc [] = acc := rfl
theorem Kk (acc : Nat) (b : UInt8) (l : Str) : Yo acc (b :: l) = Yo (acc * 10 + (b.toNat - 48)) l := by
 unfold Yo; rw [List.foldl_cons]
theorem Z95 (l : Str) : ∀ (acc : Nat), l.all Yy = true → (acc + 1) * 10 ^ l.length ≤ 18446744073709551616 → parseUintM 18446744073709551615 acc l = .ok (Yo acc l) := by
 induction l with
 | nil => intro acc _ _; rfl
 | cons b l ih =>
  intro acc h hb
  rw [List.all_cons, Bool.and_eq_true] at h
  have h1 : 48 ≤ b.toNat ∧ b.toNat ≤ 57 := of_decide_eq_true h.1
  rw [List.length_cons, Nat.pow_succ] at hb
  have hp : 1 ≤ 10 ^ l.length := Nat.one_le_pow _ _ (by omega)
  have h2 : (acc * 10 + (b.toNat - 48) + 1) * 10 ^ l.length ≤ 18446744073709551616 := by
   refine Nat.le_trans ?_ hb
   rw [Nat.mul_comm (10 ^ l.length) 10, ← Nat.mul_assoc]
   exact Nat.mul_le_mul_right _ (by omega)
  have h3 : acc * 10 + (b.toNat - 48) + 1 ≤ 18446744073709551616 := Nat.le_trans (by have := Nat.mul_le_mul_left (acc * 10 + (b.toNat - 48) + 1) hp; omega) h2
  rw [parseUintM, if_pos h1, if_neg (by omega), if_neg (by omega)]
  exact ih _ h.2 h2
def Wj (s : Str) : Int × Bool := if s.all Yy = true ∧ s ≠ [] ∧ s.length ≤ 19 ∧ Yo 0 s < 9223372036854775808 then ((Yo 0 s : Int), true) else (0, false)
theorem Z7l {s : Str} (h : s.all Yy = true) (h0 : s ≠ []) (h1 : s.length ≤ 19) : Lh s = if Yo 0 s < 9223372036854775808 then ((Yo 0 s : Int), true) else (9223372036854775807, false) := by
 obtain ⟨c, r, rfl⟩ := List.exists_cons_of_ne_nil h0
 have hc : 48 ≤ c.toNat ∧ c.toNat ≤ 57 := by rw [List.all_cons, Bool.and_eq_true] at h; exact of_decide_eq_true h.1
 have hp : parseUintB 64 (c :: r) = .ok (Yo 0 (c :: r)) := by
  unfold parseUintB
  rw [if_neg h0]
  refine Z95 _ 0 h ?_
  have : (10 : Nat) ^ (c :: r).length ≤ 10 ^ 19 := Nat.pow_le_pow_right (by omega) h1
  omega
 unfold Lh
 rw [parseIntB_plain 64 c r (by omega) (by omega), hp]
 simp only [signlessC]
 by_cases hv : Yo 0 (c :: r) < 9223372036854775808
 · rw [if_pos hv, if_neg (by omega)]
 ·
  rw [if_neg hv, if_pos (by omega)]
  simp only
  rw [intSat_other 64 c r (by omega)]; rfl
theorem Z5p : ∀ (f u : Nat), (Xn f u).all Yy = true
 | 0, u => rfl
 | f + 1, u => by
  have key : ∀ v, v < 10 → Yy (UInt8.ofNat (48 + v)) = true := fun v hv => by
   refine decide_eq_true ?_
   rw [UInt8.toNat_ofNat']
   omega
  rw [Xn]
  split
  · rw [List.all_cons, key u (by omega)]; rfl
  · rw [List.all_append, Z5p f, List.all_cons, key _ (by omega)]; rfl
theorem valD_app (l : Str) (acc : Nat) (b : UInt8) : Yo acc (l ++ [b]) = Yo acc l * 10 + (b.toNat - 48) := by
 unfold Yo; rw [List.foldl_append]; rfl
theorem Z3p : ∀ (f u : Nat), u < 10 ^ f → Yo 0 (Xn f u) = u
 | 0, u, h => by simp at h; subst h; rfl
 | f + 1, u, h => by
  have key : ∀ v, v < 10 → (UInt8.ofNat (48 + v)).toNat - 48 = v := fun v hv => by rw [UInt8.toNat_ofNat']; omega
  rw [Xn]
  split
  · rw [Kk, Z0w, key u (by omega)]; omega
  · rw [valD_app, Z3p f (u / 10) (by rw [Nat.pow_succ] at h; omega), key _ (by omega)]; omega
theorem Z57 : ∀ (f u : Nat), u < 10 ^ f → 1 ≤ f → 1 ≤ (Xn f u).length ∧ (Xn f u).length ≤ f
 | 0, u, _, h => by omega
 | f + 1, u, h, _ => by
  rw [Xn]
  split
  · simp
  ·
   rename_i hu
   rw [List.length_append, List.length_singleton]
   have h2 : u / 10 < 10 ^ f := by rw [Nat.pow_succ] at h; omega
   cases f with
   | zero => simp at h; omega
   | succ f => have := Z57 (f + 1) (u / 10) h2 (by omega); omega
theorem Z47 : ∀ (f u : Nat), u < 10 ^ (f + 1) → Xn (f + 2) u = Xn (f + 1) u
 | 0, u, h => by
  have h2 : u < 10 := by simpa using h
  rw [Xn, if_pos h2, Xn, if_pos h2]
 | f + 1, u, h => by
  by_cases hu : u < 10
  · rw [Xn, if_pos hu, Xn, if_pos hu]
  ·
   rw [Xn, if_neg hu, Z47 f (u / 10) (by rw [Nat.pow_succ] at h; omega)]
   conv => rhs; rw [Xn, if_neg hu]
theorem Z23 {n : Int} (h0 : 0 ≤ n) (h1 : n ≤ 9223372036854775807) : Xl n = Xn 19 n.toNat ∧ (Xl n).all Yy = true ∧ Xl n ≠ [] ∧ (Xl n).length ≤ 19 ∧ Yo 0 (Xl n) = n.toNat := by
 have e19 : (10 : Nat) ^ 19 = 10000000000000000000 := by decide
 have e : Xl n = Xn 19 n.toNat := by
  unfold Xl
  rw [if_neg (by omega)]
  exact Z47 18 n.toNat (by rw [show 18 + 1 = 19 from rfl, e19]; omega)
 have hl := Z57 19 n.toNat (by rw [e19]; omega) (by omega)
 refine ⟨e, by rw [e]; exact Z5p _ _, fun h => ?_, by rw [e]; exact hl.2, by rw [e]; exact Z3p 19 _ (by rw [e19]; omega)⟩
 rw [e] at h
 rw [h] at hl
 simp at hl
end Go.Acq
namespace Go.Acq
open Go
end Go.Acq
namespace Go.Acq
open Go
theorem Z3l (x : Nat) : Jk x = decide (x < 48 ∨ 57 < x) := by
 unfold Jk Nh
 by_cases h1 : x < 48
 · rw [if_pos (by omega), decide_eq_true (by omega : x < 48 ∨ 57 < x)]; rfl
 ·
  rw [if_neg (by omega)]
  by_cases h2 : 57 < x
  · rw [decide_eq_true (by omega : (57 : Int) < x), decide_eq_true (by omega : x < 48 ∨ 57 < x)]; rfl
  · rw [decide_eq_false (by omega : ¬ (57 : Int) < x), decide_eq_false (by omega : ¬(x < 48 ∨ 57 < x))]; rfl
theorem any_dig (l : Str) : l.any (fun b => Jk b.toNat) = !(l.all Yy) := by
 induction l with
 | nil => rfl
 | cons b l ih =>
  rw [List.any_cons, List.all_cons, ih, Z3l, Bool.not_and]
  congr 1
  unfold Yy
  by_cases h : 48 ≤ b.toNat ∧ b.toNat ≤ 57
  · rw [decide_eq_true h, decide_eq_false (by omega : ¬(b.toNat < 48 ∨ 57 < b.toNat))]; rfl
  · rw [decide_eq_false h, decide_eq_true (by omega : b.toNat < 48 ∨ 57 < b.toNat)]; rfl
theorem Rq (s : Str) : Vw s = some (Wj s) := by
 unfold Vw
 by_cases h1 : 19 < s.length
 ·
  rw [if_pos (by omega)]
  unfold Gl Wj
  rw [if_pos rfl, if_neg (by omega)]
 ·
  rw [if_neg (by omega)]
  unfold Rn Gl
  rw [anyT_any (fun r h => by rw [Z3l]; exact decide_eq_true (by omega)), any_dig, Option.bind_some]
  by_cases h2 : s.all Yy = true
  ·
   rw [h2, if_neg (by simp)]
   unfold Rf
   rw [gd_pos ⟨by omega, rfl, rfl⟩, Option.bind_some]
   by_cases h3 : s = []
   · subst h3; rfl
   ·
    rw [Z7l h2 h3 (by omega)]
    unfold Wj
    by_cases h4 : Yo 0 s < 9223372036854775808
    · rw [if_pos h4, if_pos ⟨h2, h3, by omega, h4⟩]; rfl
    · rw [if_neg h4, if_neg (fun h => h4 h.2.2.2)]; rfl
  ·
   rw [Bool.eq_false_iff.2 h2, if_pos (by simp)]
   unfold Wj
   rw [if_neg (fun h => h2 h.1)]
theorem Z7n (s : Str) : 0 ≤ (Wj s).1 ∧ (Wj s).1 ≤ 9223372036854775807 := by
 unfold Wj
 split
 · rename_i h; simp only; omega
 · simp
end Go.Acq
namespace Go.Acq
open Go
set_option maxRecDepth 100000 in
theorem Z44 : Gq = some true := by decide +kernel
theorem Z0b (l : Str) : ∀ acc, Yo acc l = acc * 10 ^ l.length + Yo 0 l := by
 induction l with
 | nil => intro acc; simp [Z0w]
 | cons b l ih =>
  intro acc
  rw [Kk, Kk, ih, ih (0 * 10 + (b.toNat - 48)), List.length_cons, Nat.pow_succ]
  rw [Nat.zero_mul, Nat.zero_add, Nat.add_mul, Nat.mul_comm (10 ^ l.length) 10, ← Nat.mul_assoc, Nat.add_assoc]
theorem Rz (l : Str) (h : l.all Yy = true) : Yo 0 l < 10 ^ l.length := by
 induction l with
 | nil => simp [Z0w]
 | cons b l ih =>
  rw [List.all_cons, Bool.and_eq_true] at h
  have hb : 48 ≤ b.toNat ∧ b.toNat ≤ 57 := of_decide_eq_true h.1
  have := ih h.2
  rw [Kk, Z0b, List.length_cons, Nat.pow_succ, Nat.zero_mul, Nat.zero_add]
  have h3 : (b.toNat - 48) * 10 ^ l.length ≤ 9 * 10 ^ l.length := Nat.mul_le_mul_right _ (by omega)
  omega
theorem Z3m : ∀ (a b : Str), a.length = b.length → a.all Yy = true → b.all Yy = true → Yo 0 a = Yo 0 b → a = b
 | [], [], _, _, _, _ => rfl
 | [], _ :: _, h, _, _, _ => by simp at h
 | _ :: _, [], h, _, _, _ => by simp at h
 | x :: a, y :: b, h, ha, hb, hv => by
  rw [List.all_cons, Bool.and_eq_true] at ha hb
  have hx : 48 ≤ x.toNat ∧ x.toNat ≤ 57 := of_decide_eq_true ha.1
  have hy : 48 ≤ y.toNat ∧ y.toNat ≤ 57 := of_decide_eq_true hb.1
  have hl : a.length = b.length := by simpa using h
  have h1 := Rz a ha.2
  have h2 := Rz b hb.2
  rw [Kk, Z0b, Kk, Z0b (l := b), hl, Nat.zero_mul, Nat.zero_add, Nat.zero_add] at hv
  rw [hl] at h1
  have hq : x.toNat - 48 = y.toNat - 48 := by
   have e1 : ((x.toNat - 48) * 10 ^ b.length + Yo 0 a) / 10 ^ b.length = x.toNat - 48 := by
    rw [Nat.add_comm, Nat.add_mul_div_right _ _ (by omega), Nat.div_eq_of_lt h1, Nat.zero_add]
   have e2 : ((y.toNat - 48) * 10 ^ b.length + Yo 0 b) / 10 ^ b.length = y.toNat - 48 := by
    rw [Nat.add_comm, Nat.add_mul_div_right _ _ (by omega), Nat.div_eq_of_lt h2, Nat.zero_add]
   rw [← e1, hv, e2]
  have hxy : x = y := UInt8.toNat_inj.1 (by omega)
  rw [hq] at hv
  rw [hxy, Z3m a b hl ha.2 hb.2 (by omega)]
theorem valD_ge (b : UInt8) (l : Str) (h : (b :: l).all Yy = true) (hb : b ≠ 48) : 10 ^ l.length ≤ Yo 0 (b :: l) := by
 rw [List.all_cons, Bool.and_eq_true] at h
 have h1 : 48 ≤ b.toNat ∧ b.toNat ≤ 57 := of_decide_eq_true h.1
 have h2 : b.toNat ≠ 48 := fun e => hb (UInt8.toNat_inj.1 e)
 rw [Kk, Z0b, Nat.zero_mul, Nat.zero_add]
 have : 1 * 10 ^ l.length ≤ (b.toNat - 48) * 10 ^ l.length := Nat.mul_le_mul_right _ (by omega)
 omega
def bare (l : Str) : Prop := ∀ b r, l = b :: r → b ≠ 48
theorem bare_eq {a b : Str} (ha : bare a) (hb : bare b) (h1 : a.all Yy = true) (h2 : b.all Yy = true) (hv : Yo 0 a = Yo 0 b) : a = b := by
 have key : ∀ a b : Str, bare b → a.all Yy = true → b.all Yy = true → Yo 0 a = Yo 0 b → ¬ a.length < b.length := by
  intro a b hb h1 h2 hv hlt
  cases b with
  | nil => simp at hlt
  | cons c r =>
   have h3 := valD_ge c r h2 (hb c r rfl)
   have h4 := Rz a h1
   have h5 : (10 : Nat) ^ a.length ≤ 10 ^ r.length := Nat.pow_le_pow_right (by omega) (by rw [List.length_cons] at hlt; omega)
   omega
 have := key a b hb h1 h2 hv
 have := key b a ha h2 h1 hv.symm
 exact Z3m a b (by omega) h1 h2 hv
theorem trim0 : ∀ l : Str, l.all Yy = true → bare (Lib.trimLeftS l [48]) ∧ (Lib.trimLeftS l [48]).all Yy = true ∧ Yo 0 (Lib.trimLeftS l [48]) = Yo 0 l
 | [], _ => ⟨fun b r h => by simp [Lib.trimLeftS] at h, rfl, rfl⟩
 | b :: l, h => by
  have hh := h
  rw [List.all_cons, Bool.and_eq_true] at h
  unfold Lib.trimLeftS
  rw [List.dropWhile_cons]
  by_cases hb : b = 48
  ·
   subst hb
   rw [if_pos (by simp)]
   obtain ⟨h1, h2, h3⟩ := trim0 l h.2
   exact ⟨h1, h2, by rw [Kk]; exact h3⟩
  ·
   rw [if_neg (by simpa using hb)]
   exact ⟨fun c r e => by injection e with e1 e2; rw [← e1]; exact hb, hh, rfl⟩
abbrev tenD : Str := [48, 49, 50, 51, 52, 53, 54, 55, 56, 57]
theorem ten_dig (b : UInt8) : tenD.contains b = Yy b := by
 by_cases h : 48 ≤ b.toNat ∧ b.toNat ≤ 57
 ·
  rw [show Yy b = true from decide_eq_true h]
  have hc : b.toNat = 48 ∨ b.toNat = 49 ∨ b.toNat = 50 ∨ b.toNat = 51 ∨ b.toNat = 52 ∨ b.toNat = 53 ∨ b.toNat = 54 ∨ b.toNat = 55 ∨ b.toNat = 56 ∨ b.toNat = 57 := by omega
  have hi : ∀ c : UInt8, b.toNat = c.toNat → b = c := fun c e => UInt8.toNat_inj.1 e
  rcases hc with e | e | e | e | e | e | e | e | e | e
  · rw [hi 48 e]; rfl
  · rw [hi 49 e]; rfl
  · rw [hi 50 e]; rfl
  · rw [hi 51 e]; rfl
  · rw [hi 52 e]; rfl
  · rw [hi 53 e]; rfl
  · rw [hi 54 e]; rfl
  · rw [hi 55 e]; rfl
  · rw [hi 56 e]; rfl
  · rw [hi 57 e]; rfl
 ·
  rw [show Yy b = false from decide_eq_false h]
  cases hc : tenD.contains b with
  | false => rfl
  | true =>
   exfalso
   have hm := List.contains_iff_mem.1 hc
   simp only [tenD, List.mem_cons, List.not_mem_nil, or_false] at hm
   rcases hm with rfl | rfl | rfl | rfl | rfl | rfl | rfl | rfl | rfl | rfl <;> exact h (by decide)
theorem dw_nil {p : UInt8 → Bool} : ∀ l : Str, l.dropWhile p = [] ↔ ∀ b ∈ l, p b = true
 | [] => by simp
 | c :: l => by
  rw [List.dropWhile_cons]
  by_cases h : p c = true
  · rw [if_pos h, dw_nil l]; simp [h]
  · rw [if_neg h]; simp [h]
theorem Z0l {p : UInt8 → Bool} {b : UInt8} : ∀ l : Str, (b ∈ l.dropWhile p → b ∈ l) ∧ (b ∈ l → p b = true ∨ b ∈ l.dropWhile p)
 | [] => by simp
 | c :: l => by
  rw [List.dropWhile_cons]
  by_cases h : p c = true
  ·
   rw [if_pos h]
   refine ⟨fun hm => .tail _ ((Z0l l).1 hm), fun hm => ?_⟩
   rcases List.mem_cons.1 hm with rfl | hm
   · exact .inl h
   · exact (Z0l l).2 hm
  · rw [if_neg h]; exact ⟨fun hm => hm, fun hm => .inr hm⟩
theorem trim_ten (s : Str) : Lib.trimS s tenD = [] ↔ s.all Yy = true := by
 have hp : (fun b => tenD.contains b) = Yy := funext ten_dig
 unfold Lib.trimS Lib.trimLeftS Lib.trimRightS
 rw [hp, dw_nil, List.all_eq_true]
 constructor
 ·
  intro h b hb
  rcases (Z0l (p := Yy) s.reverse).2 (List.mem_reverse.2 hb) with h1 | h1
  · exact h1
  · exact h b (List.mem_reverse.2 h1)
 ·
  intro h b hb
  exact h b (List.mem_reverse.1 ((Z0l s.reverse).1 (List.mem_reverse.1 hb)))
theorem Z3h : ∀ k, (Lib.repeatL [48] k).all Yy = true ∧ (Lib.repeatL [48] k).length = k
 | 0 => ⟨rfl, rfl⟩
 | k + 1 => by
  obtain ⟨h1, h2⟩ := Z3h k
  refine ⟨?_, ?_⟩
  ·
   show ([48] ++ Lib.repeatL [48] k).all Yy = true
   rw [List.all_append, h1]; rfl
  ·
   show ([48] ++ Lib.repeatL [48] k).length = k + 1
   rw [List.length_append, h2, List.length_singleton]; omega
theorem Z4s (l : Str) : ∀ k, Yo 0 (Lib.repeatL [48] k ++ l) = Yo 0 l
 | 0 => rfl
 | k + 1 => by
  show Yo 0 (([48] ++ Lib.repeatL [48] k) ++ l) = _
  rw [List.append_assoc, List.singleton_append, Kk]
  exact Z4s l k
theorem numT_yes {s : Str} (h : (Wj s).2 = true) : s.all Yy = true ∧ s ≠ [] ∧ s.length ≤ 19 ∧ (Wj s).1 = Yo 0 s := by
 unfold Wj at h ⊢
 by_cases hc : s.all Yy = true ∧ s ≠ [] ∧ s.length ≤ 19 ∧ Yo 0 s < 9223372036854775808
 · rw [if_pos hc]; exact ⟨hc.1, hc.2.1, hc.2.2.1, rfl⟩
 · rw [if_neg hc] at h; cases h
theorem p_end {s : Str} {is below above dg : Bool} (h1 : below = false) (h2 : above = false) (h3 : is = true ∨ dg = false ∨ 19 ≤ (s.length : Int)) :
    Ok (Kp s below above (if is = true then true else !dg)) (fun a => a = true) := by
  subst h1; subst h2
  have aw : Ok (Gr false false true) (fun a => a = true) := by
    unfold Gr
    refine Ok.ite.2 ⟨fun _ => ?_, fun h => absurd rfl h⟩
    unfold Li
    refine Ok.ite.2 ⟨fun _ => ?_, fun h => absurd rfl h⟩
    unfold Lp
    refine Ok.ite.2 ⟨fun _ => ?_, fun h => absurd rfl h⟩
    exact Ok.bind.2 (Nr Z44 (Ok.some.2 rfl))
  unfold Kp
  refine Ok.ite.2 ⟨fun _ => aw, fun h => ?_⟩
  have hd : 19 ≤ (s.length : Int) := by
    rcases h3 with h3 | h3 | h3
    · rw [if_pos h3] at h; exact absurd rfl h
    · subst h3; exact absurd (by cases is <;> rfl) h
    · exact h3
  rw [decide_eq_true hd]
  exact aw
theorem j12_eq : Lw = Kp := rfl
theorem p_tail {n : Int} {s z : Str} (hn : 0 ≤ n) (hn2 : n ≤ 9223372036854775807) (hz : z.length ≤ 25) (hs : s.length ≤ 30) : Ok (Nd s z (Xl n) false) (fun a => a = true) := by
  unfold Nd
  refine Ok.ite.2 ⟨(fun h => by cases h), fun _ => ?_⟩
  refine Ok.bind.2 (Nr (Rq _) ?_)
  obtain ⟨y, is, hy⟩ : ∃ y is, Wj s = (y, is) := ⟨_, _, rfl⟩
  rw [hy]
  obtain ⟨-, t2, t3, t4, t5⟩ := Z23 hn hn2
  have hyes : is = true → s.all Yy = true ∧ s ≠ [] ∧ s.length ≤ 19 ∧ y = Yo 0 s := fun h => by
    have := numT_yes (s := s) (by rw [hy]; exact h)
    rw [hy] at this; exact this
  have hys : 0 ≤ y ∧ y ≤ 9223372036854775807 := by have := Z7n s; rw [hy] at this; exact this
  have hbel : (Wj ([45] ++ (z ++ Xl n))).2 = false := by
    unfold Wj
    rw [if_neg]
    rintro ⟨h, -⟩
    rw [List.all_append, Bool.and_eq_true] at h
    exact absurd h.1 (by decide)
  have habo : Wj [57, 50, 50, 51, 51, 55, 50, 48, 51, 54, 56, 53, 52, 55, 55, 53, 56, 48, 56] = (0, false) := by decide +kernel
  have key : ∀ dg : Bool, (dg = true ↔ s.all Yy = true ∧ s ≠ []) → Ok (Nf s z (Xl n) y is dg) (fun a => a = true) := by
    intro dg hdg
    have fin : is = true ∨ dg = false ∨ 19 ≤ (s.length : Int) := by
      cases hd : dg with
      | false => exact .inr (.inl rfl)
      | true =>
        by_cases hl : 19 ≤ (s.length : Int)
        · exact .inr (.inr hl)
        · left
          obtain ⟨h1, h2⟩ := hdg.1 hd
          have h3 := Rz s h1
          have h4 : (10 : Nat) ^ s.length ≤ 10 ^ 18 := Nat.pow_le_pow_right (by omega) (by omega)
          have h5 : Wj s = ((Yo 0 s : Int), true) := by unfold Wj; rw [if_pos ⟨h1, h2, by omega, by omega⟩]
          rw [hy] at h5; injection h5
    have last : Ok (gd (slok (([45] : Str) ++ (z ++ Xl n)).length) <| Option.bind (Vw (([45] : Str) ++ (z ++ Xl n))) fun (r44, r45) => Option.bind (Vw ([57, 50, 50, 51, 51, 55, 50, 48, 51, 54, 56, 53, 52, 55, 55, 53, 56, 48, 56] : Str)) fun (r47, r48) =>
        if is = true then Kp s r45 r48 true else Kp s r45 r48 (!dg)) (fun a => a = true) := by
      refine Ok.gd.2 ⟨by rw [List.length_append, List.length_append, List.length_singleton]; omega, ?_⟩
      refine Ok.bind.2 (Nr (Rq _) ?_)
      obtain ⟨b1, b2, hb⟩ : ∃ b1 b2, Wj ([45] ++ (z ++ Xl n)) = (b1, b2) := ⟨_, _, rfl⟩
      rw [hb] at hbel ⊢
      refine Ok.bind.2 (Nr (Rq _) ?_)
      rw [habo]
      have := p_end (s := s) (is := is) (dg := dg) (below := b2) (above := false) hbel rfl fin
      cases is <;> exact this
    unfold Nf
    refine Ok.ite.2 ⟨fun his => ?_, fun _ => by rw [j12_eq]; exact last⟩
    obtain ⟨h1, h2, h3, h4⟩ := hyes his
    have hd : dg = true := hdg.2 ⟨h1, h2⟩
    refine Ok.ite.2 ⟨fun h => absurd h (by rw [hd]; decide), fun _ => ?_⟩
    refine Ok.ite.2 ⟨fun h => absurd h (by omega), fun _ => ?_⟩
    obtain ⟨-, u2, u3, u4, u5⟩ := Z23 hys.1 hys.2
    refine Ok.bind.2 (Ok.gd.2 ⟨⟨by omega, by decide, by decide⟩, Ok.some.2 ?_⟩)
    refine Ok.bind.2 (Ok.gd.2 ⟨⟨⟨by omega, by omega⟩, rfl⟩, Ok.some.2 ?_⟩)
    refine Ok.bind.2 (Ok.gd.2 ⟨⟨by omega, by decide, by decide⟩, Ok.some.2 ?_⟩)
    obtain ⟨a1, a2, a3⟩ := trim0 s h1
    obtain ⟨c1, c2, c3⟩ := trim0 (Xl y) u2
    refine Ok.ite.2 ⟨fun h => absurd (bare_eq a1 c1 a2 c2 (by rw [a3, c3, u5]; omega)) h, fun _ => last⟩
  refine Ok.ite.2 ⟨fun hl => ?_, fun hl => ?_⟩
  · refine Ok.bind.2 (Ok.gd.2 ⟨⟨by omega, by decide, by decide⟩, Ok.some.2 ?_⟩)
    refine key _ ?_
    rw [decide_eq_true_eq, trim_ten]
    exact ⟨fun h => ⟨h, fun e => by rw [e] at hl; simp at hl⟩, fun h => h.1⟩
  · refine key _ ⟨(fun h => by cases h), fun h => ?_⟩
    cases s with
    | nil => exact absurd rfl h.2
    | cons b l => rw [List.length_cons] at hl; omega
theorem p_j1 {n noughts : Int} {s : Str} (hn : 0 ≤ n) (hn2 : n ≤ 9223372036854775807) (hk : u8ok noughts) (hs : s.length ≤ 30) : Ok (Gp noughts s n) (fun a => a = true) := by
 have e : noughts.tmod 26 = noughts % 26 := Int.tmod_eq_emod_of_nonneg hk.1
 unfold Gp
 rw [e]
 have hk2 := hk.1
 obtain ⟨k, hkk⟩ : ∃ k, (noughts % 26).toNat = k := ⟨_, rfl⟩
 refine Ok.gd.2 ⟨⟨by omega, by omega⟩, ?_⟩
 refine Ok.bind.2 (Ok.gd.2 ⟨⟨by omega, by omega, by rw [List.length_singleton]; omega⟩, Ok.some.2 ?_⟩)
 refine Ok.bind.2 (Ok.gd.2 ⟨⟨⟨by omega, by omega⟩, rfl⟩, Ok.some.2 ?_⟩)
 rw [hkk]
 obtain ⟨z1, z2⟩ := Z3h k
 obtain ⟨-, t2, t3, t4, t5⟩ := Z23 hn hn2
 have hz : (Lib.repeatL [48] k).length ≤ 25 := by omega
 refine Ok.gd.2 ⟨by rw [List.length_append]; omega, ?_⟩
 refine Ok.bind.2 (Nr (Rq _) ?_)
 have hnum : Wj (Lib.repeatL [48] k ++ Xl n) = if (Lib.repeatL [48] k ++ Xl n).length ≤ 19 then (n, true) else (0, false) := by
  have hv := Z4s (Xl n) k
  unfold Wj
  by_cases hl : (Lib.repeatL [48] k ++ Xl n).length ≤ 19
  · rw [if_pos hl, if_pos ⟨by rw [List.all_append, z1, t2]; rfl, fun h => t3 (List.append_eq_nil_iff.1 h).2, hl, by rw [hv, t5]; omega⟩, hv, t5, Int.toNat_of_nonneg hn]
  · rw [if_neg hl, if_neg (fun h => hl h.2.2.1)]
 rw [hnum]
 have tail := p_tail (n := n) (s := s) (z := Lib.repeatL [48] k) hn hn2 hz hs
 by_cases hl : (Lib.repeatL [48] k ++ Xl n).length ≤ 19
 ·
  rw [if_pos hl]
  refine Ok.ite.2 ⟨fun h => absurd h (by rw [decide_eq_true (by omega)]; decide), fun _ => ?_⟩
  refine Ok.ite.2 ⟨fun _ => ?_, fun h => absurd rfl h⟩
  rw [decide_eq_false (fun h => h rfl)]
  unfold Gy Gv
  refine Ok.ite.2 ⟨(fun h => by cases h), fun _ => ?_⟩
  refine Ok.ite.2 ⟨(fun h => by cases h), fun _ => ?_⟩
  exact tail
 ·
  rw [if_neg hl]
  refine Ok.ite.2 ⟨fun h => absurd h (by rw [decide_eq_false (by omega)]; decide), fun _ => ?_⟩
  refine Ok.ite.2 ⟨(fun h => by cases h), fun _ => ?_⟩
  unfold Gy Gv
  refine Ok.ite.2 ⟨(fun h => by cases h), fun _ => ?_⟩
  refine Ok.ite.2 ⟨fun _ => ?_, fun h => absurd rfl h⟩
  rw [decide_eq_false (fun h => h rfl)]
  exact tail
theorem p_DimacsNumbers {n : Int} {noughts : Int} {s : Str} (hn : i64ok n) (hk : u8ok noughts) (hs : s.length ≤ 9223372036854775807) : Z06 n noughts s = some true := by
 refine ok_eq ?_
 have h1 := hn.1
 have h2 := hn.2
 unfold Z06
 refine Ok.ite.2 ⟨fun _ => Ok.bind.2 (Nr Z44 (Ok.some.2 rfl)), fun hl => ?_⟩
 refine Ok.ite.2 ⟨fun hneg => ?_, fun hneg => p_j1 (by omega) (by omega) hk (by omega)⟩
 refine Ok.gd.2 ⟨⟨by omega, by omega⟩, Ok.gd.2 ⟨⟨by omega, by omega⟩, p_j1 (by omega) (by omega) hk (by omega)⟩⟩
end Go.Acq
