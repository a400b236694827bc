/- Texts of this claim, one behind the other. -/
import Derived.Test.YtgafnhfbeiofnaaGreatA1
import Derived.Test.YtgafnhfbeiofnaaGreatA2
import Derived.Test.YtgafnhfbeiofnaaGreatChecked
import Derived.Test.YtgafnhfbeiofnaaGreatA3
set_option linter.unusedVariables false
set_option linter.unusedSimpArgs false
namespace Go.Proofs.YtgafnhfbeiofnaaGreat.Ax
open Go Go.Acq Go.RowKit Go.Proofs
set_option maxHeartbeats 8000000
set_option maxRecDepth 20000
abbrev iC := intC .i64
abbrev eA {α : Type} (o : Option Nat) (f : α → List Value) (x : List α) (j : List Value) (t : TypeId) : Option Nat × Obj := (o, .cells (arr f x j).toArray t)
abbrev eI (o : Option Nat) (x : List Int) (j : List Value) (t : TypeId) : Option Nat × Obj := (o, .cells (arr (intC .i64) x j).toArray t)
abbrev eC (b : Nat) (c : Array Value) (t : TypeId) : Option Nat × Obj := (some b, .cells c t)
abbrev iV (x : Int) : Value := .int .i64 x
abbrev sV (a : Option Nat) (b c : Nat) : Value := .slice (sb a) b c
abbrev nV (a b c : Nat) : Value := .slice (some ⟨a, 0, none⟩) b c
abbrev pV (a : Nat) : Value := .pointer (some ⟨a, 0, none⟩)
theorem gd2 {p q : Prop} [Decidable p] [Decidable q] {α : Type} {x : Option α} {r : α} (h : gd p (gd q x) = some r) : p ∧ q ∧ x = some r := have ⟨a, h⟩ := Yb h; ⟨a, Yb h⟩
theorem gd3 {p q s : Prop} [Decidable p] [Decidable q] [Decidable s] {α : Type} {x : Option α} {r : α} (h : gd p (gd q (gd s x)) = some r) : p ∧ q ∧ s ∧ x = some r := have ⟨a, h⟩ := Yb h; ⟨a, gd2 h⟩
theorem gd4 {p q s t : Prop} [Decidable p] [Decidable q] [Decidable s] [Decidable t] {α : Type} {x : Option α} {r : α} (h : gd p (gd q (gd s (gd t x))) = some r) : p ∧ q ∧ s ∧ t ∧ x = some r := have ⟨a, h⟩ := Yb h; ⟨a, gd3 h⟩
theorem dN {C : Cx} {ops : Array Oper} {Q : Exit → Act → World → Prop} {E : Env} {H : Heap} {y : Code} (h : T C y Q E H) : TO C ops (Exit.then (y.wpIn (FW C.ρ) 0 C.P Q) Q) [] E H := h
theorem dS {C : Cx} {ops : Array Oper} {Q : Exit → Act → World → Prop} {E : Env} {H : Heap} {x y : Code} (h : T C x (Exit.then (y.wpIn (FW C.ρ) 0 C.P Q) Q) E H) : TO C ops (Exit.then ((Code.seq x y).wpIn (FW C.ρ) 0 C.P Q) Q) [] E H := dN (Zo h)
theorem rG {C : Cx} {ops : Array Oper} {Q : Exit → Act → World → Prop} {E : Env} {H : Heap} {id : Nat} (l : List Nat) (hl : List.range ops.size = l) (h : TO C ops Q l E H) : T C (.region id ops false) Q E H := Z38 hl h
theorem sR {C : Cx} {ops : Array Oper} {Q : Exit → Act → World → Prop} {E : Env} {H : Heap} {id : Nat} {y : Code} (l : List Nat) (hl : List.range ops.size = l) (h : TO C ops (Exit.then (y.wpIn (FW C.ρ) 0 C.P Q) Q) l E H) : T C (.seq (.region id ops false) y) Q E H := Zo (Z38 hl h)
theorem aN {C : Cx} {ops : Array Oper} {Q : Exit → Act → World → Prop} {E : Env} {H : Heap} {y : Code} {i d : Nat} {ty : TypeId} {pos : String} {af : Array Edge} {g : Option (Nat × Bool)} {x : Operand} {v : Value} (q : ops[i]? = some ⟨some d, .assign x, ty, pos, af, g⟩ ∧ Zg ops E g = true ∧ Nat.ble (d + 1) C.n = true ∧ ev E x = some v) (k : T C y Q ((d, v) :: E) H) : TO C ops (Exit.then (y.wpIn (FW C.ρ) 0 C.P Q) Q) [i] E H := have ⟨ho, hg, hd, hx⟩ := q; TO.val ho hg hd (by simp) (fun a w hf _ => by simp [execOp, hf.ev hx]) (dN k)
inductive TkI : Option Nat × Obj → Heap → Heap → Prop
  | head (p : Option Nat × Obj) (l : Heap) : TkI p (p :: l) l
  | tail {p q : Option Nat × Obj} {l r : Heap} (h : TkI p l r) : TkI p (q :: l) (q :: r)
inductive PkI : Heap → Heap → Prop
  | refl (H : Heap) : PkI H H
  | nil (H : Heap) : PkI [] H
  | none {o : Obj} {T H : Heap} (h : PkI T H) : PkI ((none, o) :: T) H
  | cons {p : Option Nat × Obj} {T H R : Heap} (h : TkI p H R) (k : PkI T R) : PkI (p :: T) H
theorem tkI {p : Option Nat × Obj} {H R : Heap} (h : TkI p H R) : Take p H R := by
  induction h with
  | head => exact Take.head _ _
  | tail _ ih => exact Take.tail ih
theorem Ws {T H : Heap} (h : PkI T H) : Pick T H := by
  induction h with
  | refl H => exact Ya H
  | nil H => exact Zf
  | none _ ih => exact Pick.none ih
  | cons h _ ih => exact Zc (tkI h) ih
abbrev rV (l : List Nat) (x : Value) : Sp := ⟨l, false, [], relV x⟩
def pkE : List Nat → Env → Option Env
  | [], _ => some []
  | t :: l, E => match find E t with
    | none => none
    | some v => match pkE l E with
      | none => none
      | some L => some ((t, v) :: L)
theorem aT {E : Env} : ∀ (l : List Nat) {L : Env}, pkE l E = some L → AllF L E
  | [], L, h => by injection h with h; subst h; exact Js
  | t :: l, L, h => by
    simp only [pkE] at h
    split at h
    · cases h
    · rename_i v hv
      split at h
      · cases h
      · rename_i L' hL
        injection h with h
        subst h
        exact Z3h hv (aT l hL)
theorem aF {L E : Env} (h : pkE (L.map Prod.fst) E = some L) : AllF L E := aT _ h
abbrev Y1 : List Nat := [0]
abbrev Y2 : List Nat := [0, 1]
abbrev Y3 : List Nat := [0, 1, 2]
abbrev Y4 : List Nat := [0, 1, 2, 3]
abbrev Y5 : List Nat := [0, 1, 2, 3, 4]
abbrev Y6 : List Nat := [0, 1, 2, 3, 4, 5]
abbrev Y7 : List Nat := [0, 1, 2, 3, 4, 5, 6]
abbrev Y8 : List Nat := [0, 1, 2, 3, 4, 5, 6, 7]
abbrev Y9 : List Nat := [0, 1, 2, 3, 4, 5, 6, 7, 8]
abbrev Y10 : List Nat := [0, 1, 2, 3, 4, 5, 6, 7, 8, 9]
abbrev Y11 : List Nat := [0, 1, 2, 3, 4, 5, 6, 7, 8, 9, 10]
abbrev Y12 : List Nat := [0, 1, 2, 3, 4, 5, 6, 7, 8, 9, 10, 11]
abbrev Y13 : List Nat := [0, 1, 2, 3, 4, 5, 6, 7, 8, 9, 10, 11, 12]
abbrev Y14 : List Nat := [0, 1, 2, 3, 4, 5, 6, 7, 8, 9, 10, 11, 12, 13]
abbrev Y18 : List Nat := [0, 1, 2, 3, 4, 5, 6, 7, 8, 9, 10, 11, 12, 13, 14, 15, 16, 17]
abbrev Y22 : List Nat := [0, 1, 2, 3, 4, 5, 6, 7, 8, 9, 10, 11, 12, 13, 14, 15, 16, 17, 18, 19, 20, 21]
abbrev Y25 : List Nat := [0, 1, 2, 3, 4, 5, 6, 7, 8, 9, 10, 11, 12, 13, 14, 15, 16, 17, 18, 19, 20, 21, 22, 23, 24]
theorem Vm : Tryz.prog.follows .mixedOrders = true := by kernel_rfl
theorem Yz : Xu Tryz.prog 24 4 = true := by kernel_rfl
theorem Us : Xu Tryz.prog 55 3 = true := by kernel_rfl
theorem Kn : Xu Tryz.prog 78 2 = true := by kernel_rfl
theorem Z3g : Xu Tryz.prog 79 12 = true := by kernel_rfl
theorem Z5g : Xi Tryz.prog 55 = some 24 := by kernel_rfl
theorem Z13 : Yn Tryz.prog 115 = true := by kernel_rfl
theorem Gn : Yn Tryz.prog 14 = true := by kernel_rfl
theorem Z4t : Yn Tryz.prog 27 = true := by kernel_rfl
theorem Z4k : Yn Tryz.prog 41 = true := by kernel_rfl
theorem Z3m : Yn Tryz.prog 42 = true := by kernel_rfl
theorem Z64 : Yn Tryz.prog 43 = true := by kernel_rfl
theorem Uh : Yn Tryz.prog 44 = true := by kernel_rfl
theorem Z1j : Yn Tryz.prog 45 = true := by kernel_rfl
theorem Z4c : Yn Tryz.prog 46 = true := by kernel_rfl
theorem Z5b : Yn Tryz.prog 47 = true := by kernel_rfl
theorem Z5x : Yn Tryz.prog 48 = true := by kernel_rfl
theorem Z45 : Yn Tryz.prog 49 = true := by kernel_rfl
theorem Z20 : Yn Tryz.prog 75 = true := by kernel_rfl
theorem Z29 : Yn Tryz.prog 76 = true := by kernel_rfl
theorem Z1k : Yn Tryz.prog 77 = true := by kernel_rfl
theorem Wl : Xd Tryz.prog 24 0 = some 0 := by kernel_rfl
theorem Ub : Xd Tryz.prog 24 1 = some 1 := by kernel_rfl
theorem Ur : Xd Tryz.prog 24 2 = some 2 := by kernel_rfl
theorem Wz : Xd Tryz.prog 24 3 = some 3 := by kernel_rfl
theorem Jr : Xd Tryz.prog 55 0 = some 0 := by kernel_rfl
theorem Lf : Xd Tryz.prog 55 1 = some 1 := by kernel_rfl
theorem Kf : Xd Tryz.prog 55 2 = some 2 := by kernel_rfl
theorem Ks : Xd Tryz.prog 78 0 = some 0 := by kernel_rfl
theorem Kq : Xd Tryz.prog 78 1 = some 1 := by kernel_rfl
theorem Xw : Zr Tryz.prog 22 = some 55 := by kernel_rfl
theorem Z3k : Zq Tryz.prog 22 = some 1 := by kernel_rfl
theorem Z0o : Zq Tryz.prog 24 = some 4 := by kernel_rfl
theorem Xb : Zq Tryz.prog 3 = some 1 := by kernel_rfl
theorem Wr : Zq Tryz.prog 55 = some 3 := by kernel_rfl
theorem Jn : Zq Tryz.prog 78 = some 2 := by kernel_rfl
theorem Z4j : Zq Tryz.prog 79 = some 12 := by kernel_rfl
theorem Jl : Tryz.prog.underlying 79 = some (.array 6 78) := by kernel_rfl
theorem Z24 : Yr Tryz.prog 107 = true := by kernel_rfl
theorem Vp : Yr Tryz.prog 2 = true := by kernel_rfl
theorem Vd : Yr Tryz.prog 22 = true := by kernel_rfl
theorem Ux : Yr Tryz.prog 26 = true := by kernel_rfl
theorem Zx : Yr Tryz.prog 3 = true := by kernel_rfl
theorem Kw : Yr Tryz.prog 76 = true := by kernel_rfl
theorem Z1o : Yl Tryz.prog 24 = some (.agg #[iV 0, iV 0, iV 0, .slice none 0 0]) := by kernel_rfl
theorem Kt : Yl Tryz.prog 55 = some (.agg #[iV 0, iV 0, iV 0]) := by kernel_rfl
theorem Je : Yl Tryz.prog 78 = some (.agg #[.nilFunc, iV 0]) := by kernel_rfl
theorem Z4l : Yl Tryz.prog 79 = some (.agg #[.nilFunc, iV 0, .nilFunc, iV 0, .nilFunc, iV 0, .nilFunc, iV 0, .nilFunc, iV 0, .nilFunc, iV 0]) := by kernel_rfl
theorem Z3i : ElemT Tryz.prog 22 55 3 24 (.agg #[iV 0, iV 0, iV 0]) := ⟨Xw, Wr, Z5g, Kt, rfl⟩
theorem Jt {x0 n1 : Int} (w : World) {r0 : Int} (H : Ud x0 n1 = some r0) : Fnc Tryz.prog 14 #[iV x0, iV n1] w [] (fun v N => v = iV r0 ∧ N = []) := by
 unfold Ud at H; refine Yx (vs := [iV x0, iV n1]) Tryz.func14 rfl rfl (Inv.refl w) ?_; refine sR Y1 rfl ?_; refine aN Za ?_; refine Zo ?_; refine sR Y2 rfl ?_; refine Zb Za ?_; refine Zn Zl ?_; refine dN ?_; rcases Zs H with ⟨g1, H⟩ | ⟨g1, H⟩
 · refine Xp rfl g1 ?_; refine sR Y1 rfl ?_; refine aN Za ?_; refine T.ret ?_; refine Yi ?_; obtain rfl := ret1 H; exact Zw Za (Res.tmp rfl) Zf ⟨rfl, rfl⟩
 · refine Xo rfl g1 ?_; refine T.skip ?_; refine Yh ?_; obtain ⟨g2, g3, g4, H⟩ := gd3 H; refine sR Y8 rfl ?_; refine Zb Za ?_; refine Zb Za ?_; refine TO.rem Zd g2 ?_; refine Zb Za ?_; refine Xr g3 Zd ?_; refine Zb Za ?_; refine TO.rem Zd g4 ?_; refine aN Za ?_; refine Zp (aT [4] rfl) ?_; refine T.ret ?_; obtain rfl := ret1 H; exact Zw Za (Res.tmp rfl) Zf ⟨rfl, rfl⟩
theorem Z57 {n0 : Net} {verts1 arcs2 : Int} {a7 : Option Addr} {a9 a6 : Nat} (w : World) (a5 : RS w [] Yk 3 a7 a9 a6 n0.Arcs) {r0 : Net} (H : Jv n0 verts1 arcs2 = some r0) : Fnc Tryz.prog 5 #[.agg #[iV n0.N, iV n0.S, iV n0.T, .slice a7 a9 a6], iV verts1, iV arcs2] w [] (fun v N => ∃ (d4 : Option Nat) (g2 g3 : Nat) (j0 : List Value), v = .agg #[iV r0.N, iV r0.S, iV r0.T, sV d4 g2 g3] ∧ N = [(eA d4 Yk r0.Arcs j0 55)] ∧ r0.Arcs.length = g2 ∧ g2 ≤ g3 ∧ j0.length = (g3 - g2) * 3 ∧ (d4 = none → g3 = 0)) := by
 unfold Jv at H; refine Yx (vs := [.agg #[iV n0.N, iV n0.S, iV n0.T, .slice a7 a9 a6], iV verts1, iV arcs2]) Tryz.func5 rfl rfl (Inv.refl w) ?_; refine sR Y2 rfl ?_; refine Xj Za ?_; intro b1; refine Wh Ym Z1o ?_; intro b3; refine dN ?_; refine Zo ?_; obtain ⟨g5, H⟩ := Yb H; obtain ⟨r6, e7, H⟩ := Zu H; obtain ⟨g8, H⟩ := Yb H; refine rG Y9 rfl ?_; refine Zk Za Wl ?_; refine Zm Za Zx Wb rfl ?_; refine Zb Za ?_; refine Nh g5 Zd ?_; refine Yj Gn Za (fun wc hwc => Jt (x0 := n0.N) (n1 := (verts1 - 1)) wc  e7) ?_; rintro _ _ ⟨rfl, rfl⟩; refine Xr g8 Zd ?_; refine Wd (t := 24) [iV 0, iV 0, iV 0, .slice none 0 0] [0, 1, 2, 3] Za (by simp only [Xh, setCells, Value.cells, List.toList_toArray, List.getD_cons_zero, List.getD_cons_succ, List.set_cons_zero, List.set_cons_succ]; rfl) (by kernel_rfl) ?_; refine Wh Ym Z1o ?_; intro b9; refine Wc Za Ze Z0o Ym ?_; refine dN ?_; refine Zp (aT [2, 3, 6, 7] rfl) ?_; refine Zo ?_; obtain ⟨b5, j7, H⟩ := Zu H; refine rG Y7 rfl ?_; refine Zk Za Ub ?_; refine Zm Za Zx mm2 rfl ?_; refine Zk Za Wl ?_; refine Zm Za Zx Zj rfl ?_; refine Yj Gn Za (fun wc hwc => Jt (x0 := n0.S) (n1 := (2 + r6)) wc  j7) ?_; rintro _ _ ⟨rfl, rfl⟩; refine Zk Za Ub ?_; refine Jg (cs' := [iV (2 + r6), iV b5, iV 0, .slice none 0 0]) Za Ze Xb Ym ?_; refine dS ?_; obtain ⟨j1, j8, H⟩ := Zu H; refine rG Y7 rfl ?_; refine Zk Za Ur ?_; refine Zm Za Zx mm2 rfl ?_; refine Zk Za Wl ?_; refine Zm Za Zx Zj rfl ?_; refine Yj Gn Za (fun wc hwc => Jt (x0 := n0.T) (n1 := (2 + r6)) wc  j8) ?_; rintro _ _ ⟨rfl, rfl⟩; refine Zk Za Ur ?_; refine Jg (cs' := [iV (2 + r6), iV b5, iV j1, .slice none 0 0]) Za Ze Xb Ym ?_; refine dN ?_; refine Zp (aT [2, 3, 6, 7] rfl) ?_; refine Zo ?_; refine sR Y5 rfl ?_; refine Zk Za Ub ?_; refine Zm Za Zx Zj rfl ?_; refine Zk Za Ur ?_; refine Zm Za Zx Zj rfl ?_; refine Zn Zl ?_; refine dN ?_; refine Wn (fun (b7 : Int) => Jo n0 arcs2 r6 b5 b7 = some r0) (fun (b7 : Int) => [(2, iV arcs2), (3, pV b1), (6, pV b3), (7, pV b9)]) (fun (b7 : Int) => [(eC b1 #[iV n0.N, iV n0.S, iV n0.T, .slice a7 a9 a6] 24), (eC b3 #[iV 0, iV 0, iV 0, .slice none 0 0] 24), (eC b9 #[iV (2 + r6), iV b5, iV b7, .slice none 0 0] 24)]) ?_ ?_
 ·
  rcases Zs H with ⟨g9, H⟩ | ⟨g9, H⟩
  · refine Xp rfl g9 ?_; obtain ⟨j9, k1, H⟩ := gd2 H; refine rG Y8 rfl ?_; refine Zk Za Ub ?_; refine Zm Za Zx Zj rfl ?_; refine Xr j9 Zd ?_; refine Zk Za Wl ?_; refine Zm Za Zx Zj rfl ?_; refine TO.rem Zd k1 ?_; refine Zk Za Ur ?_; refine Jg (cs' := [iV (2 + r6), iV b5, iV ((b5 + 1).tmod (2 + r6)), .slice none 0 0]) Za Ze Xb Ym ?_; refine Zi ?_; exact Xe ((b5 + 1).tmod (2 + r6)) H (aF rfl) (Zc Xk (Zc Zt (Zc Ze Zf)))
  · refine Xo rfl g9 ?_; refine T.skip ?_; exact Xe j1 H (aF rfl) (Zc Xk (Zc Zt (Zc Ze Zf)))
 ·
  rintro b7 H; unfold Jo at H; refine Zo ?_; obtain ⟨g4, H⟩ := Yb H; refine sR Y10 rfl ?_; refine Zk Za Wz ?_; refine Zm Za Vd Zj rfl ?_; refine Zk Za Wz ?_; refine Zm Za Vd Zj rfl ?_; refine Xv (xs := n0.Arcs) a5.len Zd Xw ?_; refine Zb Za ?_; refine TO.min2 Zd ?_; refine TO.slH (xs := n0.Arcs) a5.len a5.cap g4 Zd Xw Wr ?_; refine Xv (xs := (n0.Arcs.take (min (n0.Arcs.length : Int) arcs2).toNat)) ((RS.take a5 g4).len) Zd Xw ?_; refine Zb Za ?_; refine dN ?_; refine Zp (aT [6, 7, 49, 50, 51] rfl) ?_; refine Rg (fun (a3 : List Arc) (n55 d3 : Nat) (b0 : Option Nat) (e1 : List Value) => Ld r6 b5 b7 a3 = some r0 ∧ a3.length = n55 ∧ n55 ≤ d3 ∧ e1.length = (d3 - n55) * 3 ∧ (b0 = none → d3 = 0)) (fun (a3 : List Arc) (n55 d3 : Nat) (b0 : Option Nat) (e1 : List Value) => [(6, pV b3), (7, pV b9)]) (fun (a3 : List Arc) (n55 d3 : Nat) (b0 : Option Nat) (e1 : List Value) => [(eC b3 #[iV 0, iV 0, iV 0, .slice none 0 0] 24), (eC b9 #[iV (2 + r6), iV b5, iV b7, sV b0 n55 d3] 24), (eA b0 Yk a3 e1 55)]) ?_ ?_
  ·
   refine T.block ?_; obtain ⟨k2, e3, k3⟩ := Zu H; refine Z2q (fun (e2 : Nat) (a2 : List Arc) (b6 c22 : Nat) (a4 : Option Nat) (d1 : List Value) (a8 : Int) => Yu (fun s => Jy n0 arcs2 r6 s.1 s.2) e2 (a2, a8) = some k2 ∧ a2.length = b6 ∧ b6 ≤ c22 ∧ d1.length = (c22 - b6) * 3 ∧ (a4 = none → c22 = 0)) (fun (e2 : Nat) (a2 : List Arc) (b6 c22 : Nat) (a4 : Option Nat) (d1 : List Value) (a8 : Int) => [(6, pV b3), (7, pV b9), (49, .slice a7 ((min (n0.Arcs.length : Int) arcs2).toNat) a6), (50, iV ((n0.Arcs.take (min (n0.Arcs.length : Int) arcs2).toNat).length : Int)), (51, iV a8)]) (fun (e2 : Nat) (a2 : List Arc) (b6 c22 : Nat) (a4 : Option Nat) (d1 : List Value) (a8 : Int) => [(eC b3 #[iV 0, iV 0, iV 0, .slice none 0 0] 24), (eC b9 #[iV (2 + r6), iV b5, iV b7, sV a4 b6 c22] 24), (eA a4 Yk a2 d1 55)]) (fun (e2 : Nat) (a2 : List Arc) (b6 c22 : Nat) (a4 : Option Nat) (d1 : List Value) (a8 : Int) => e2) Xc ([]) 0 0 none ([]) 0 ⟨e3, rfl, (Nat.le_refl _), (Vg 0 _), (fun _ => rfl)⟩ (aF rfl) (Zc Zt (Zc Zt (Pick.none Zf))) ?_; rintro e2 a2 b6 c22 a4 d1 a8 ⟨H, d5, e4, e5, e6⟩; obtain ⟨k4, j2, rfl, H, j3⟩ := Vb H; have H : Jy n0 arcs2 r6 a2 a8 = some j2 := H; unfold Jy at H; refine sR Y1 rfl ?_; refine Zn Zl ?_; refine dS ?_; rcases Zs H with ⟨h0, H⟩ | ⟨h0, H⟩
   ·
    refine Xp rfl h0 ?_; refine T.skip ?_; refine Yh ?_; refine Zo ?_; refine T.block ?_; obtain ⟨j4, H⟩ := Yb H; refine sR Y4 rfl ?_; refine Xz (RS.take a5 g4) j4 Zd Xw Wr ?_; refine Kj (cs := [iV (((n0.Arcs.take (min (n0.Arcs.length : Int) arcs2).toNat).getD a8.toNat default).fr), iV (((n0.Arcs.take (min (n0.Arcs.length : Int) arcs2).toNat).getD a8.toNat default).to), iV (((n0.Arcs.take (min (n0.Arcs.length : Int) arcs2).toNat).getD a8.toNat default).cap)]) default (RS.take a5 g4) j4 Zd Us ?_; refine Wh Ym Kt ?_; intro h1; refine Wc Za Ze Wr Ym ?_; refine dN ?_; refine sR Y3 rfl ?_; refine Zk Za Kf ?_; refine Zm Za Vp Zj rfl ?_; refine aN Za ?_; refine Zo ?_; refine sR Y2 rfl ?_; refine Zb Za ?_; refine Zn Zl ?_; refine dN ?_; refine Wn (fun (d2 : Int) => Kz n0 arcs2 r6 a2 a8 d2 = some j2) (fun (d2 : Int) => [(6, pV b3), (7, pV b9), (9, pV h1), (10, iV d2), (49, .slice a7 ((min (n0.Arcs.length : Int) arcs2).toNat) a6), (50, iV ((n0.Arcs.take (min (n0.Arcs.length : Int) arcs2).toNat).length : Int)), (51, iV a8)]) (fun (d2 : Int) => [(eC b3 #[iV 0, iV 0, iV 0, .slice none 0 0] 24), (eC b9 #[iV (2 + r6), iV b5, iV b7, sV a4 b6 c22] 24), (eA a4 Yk a2 d1 55), (eC h1 #[iV (((n0.Arcs.take (min (n0.Arcs.length : Int) arcs2).toNat).getD a8.toNat default).fr), iV (((n0.Arcs.take (min (n0.Arcs.length : Int) arcs2).toNat).getD a8.toNat default).to), iV (((n0.Arcs.take (min (n0.Arcs.length : Int) arcs2).toNat).getD a8.toNat default).cap)] 55)]) ?_ ?_
    ·
     rcases Zs H with ⟨h2, H⟩ | ⟨h2, H⟩
     · refine Xp rfl h2 ?_; obtain ⟨k5, k6, H⟩ := gd2 H; refine rG Y4 rfl ?_; refine Zb Za ?_; refine Xr k5 Zd ?_; refine TO.negG k6 Za ?_; refine Yq Za ?_; refine Zi ?_; exact Xe (-((((n0.Arcs.take (min (n0.Arcs.length : Int) arcs2).toNat).getD a8.toNat default).cap) + 1)) H (aF rfl) (Zc Zt (Zc Zt (Zc Zt (Zc Ze Zf))))
     · refine Xo rfl h2 ?_; refine T.skip ?_; exact Xe (((n0.Arcs.take (min (n0.Arcs.length : Int) arcs2).toNat).getD a8.toNat default).cap) H (aF rfl) (Zc Zt (Zc Zt (Zc Zt (Zc Ze Zf))))
    ·
     rintro d2 H; unfold Kz at H; obtain ⟨g6, k7, H⟩ := Zu H; obtain ⟨g7, k8, H⟩ := Zu H; obtain ⟨k9, H⟩ := Yb H; apply Z2s [rV [] _, rV [0] _, rV [] _, rV [2] _, rV [] _, rV [4] _, rV [3, 5] _, rV [] _, rV [7] _, rV [] _, rV [9] _, rV [8, 10] _, rV [] _, rV [12] _, rV [6, 11, 13] _, ⟨[14], false, [], fun _ v e => ∃ (e8 : Nat), v = nV e8 1 1 ∧ e = [(eA (some e8) Yk ([(Arc.mk g6 g7 (d2.tmod 1125899906842624))]) ([]) 55)]⟩] [62, 63, 64, 65, 66, 67, 68, 69, 70, 71, 72, 73, 74, 75, 76, 77] 16 (HRk [[]]) [[]] [] [(eC b3 #[iV 0, iV 0, iV 0, .slice none 0 0] 24), (eC b9 #[iV (2 + r6), iV b5, iV b7, sV a4 b6 c22] 24), (eA a4 Yk a2 d1 55), (eC h1 #[iV (((n0.Arcs.take (min (n0.Arcs.length : Int) arcs2).toNat).getD a8.toNat default).fr), iV (((n0.Arcs.take (min (n0.Arcs.length : Int) arcs2).toNat).getD a8.toNat default).to), iV (((n0.Arcs.take (min (n0.Arcs.length : Int) arcs2).toNat).getD a8.toNat default).cap)] 55)]
     · exact Vm
     · exact rfl
     · kernel_rfl
     · kernel_rfl
     · kernel_rfl
     · exact rfl
     · exact rfl
     · exact rfl
     · exact rfl
     · exact Ws (by repeat constructor)
     ·
      refine ⟨?_, ?_, ?_, ?_, ?_, ?_, ?_, ?_, ?_, ?_, ?_, ?_, ?_, ?_, ?_, ?_, trivial⟩
      · rintro vs es Es Hx -; refine Zv (D := []) rfl ?_; refine Zk Za Wz ?_; refine Zi ?_; exact Yc rfl ⟨rfl, rfl⟩ (Ya _) rfl
      · rintro vs es Es Hx ⟨⟨e9, h3⟩, -⟩; refine Zv (D := [(62, vs 0)]) rfl ?_; rw [e9]; refine Zm Za Vd Wb rfl ?_; refine Zi ?_; exact Yc rfl ⟨rfl, rfl⟩ (Ya _) (by show [(62, vs 0)] = _; rw [e9])
      · rintro vs es Es Hx -; refine Zv (D := []) rfl ?_; refine Zk Za Jr ?_; refine Zi ?_; exact Yc rfl ⟨rfl, rfl⟩ (Ya _) rfl
      · rintro vs es Es Hx ⟨⟨f0, e3⟩, -⟩; refine Zv (D := [(64, vs 2)]) rfl ?_; rw [f0]; refine Zm Za Zx mm3 rfl ?_; refine Zi ?_; exact Yc rfl ⟨rfl, rfl⟩ (Ya _) (by show [(64, vs 2)] = _; rw [f0])
      · rintro vs es Es Hx -; refine Zv (D := []) rfl ?_; refine Zk Za Wl ?_; refine Zi ?_; exact Yc rfl ⟨rfl, rfl⟩ (Ya _) rfl
      · rintro vs es Es Hx ⟨⟨f2, h4⟩, -⟩; refine Zv (D := [(66, vs 4)]) rfl ?_; rw [f2]; refine Zm Za Zx Wb rfl ?_; refine Zi ?_; exact Yc rfl ⟨rfl, rfl⟩ (Ya _) (by show [(66, vs 4)] = _; rw [f2])
      · rintro vs es Es Hx ⟨⟨f3, h5⟩, ⟨f4, h6⟩, -⟩; refine Zv (D := [(65, vs 3), (67, vs 5)]) rfl ?_; rw [f3, f4]; refine Yj Gn Za (fun wc hwc => Jt (x0 := ((n0.Arcs.take (min (n0.Arcs.length : Int) arcs2).toNat).getD a8.toNat default).fr) (n1 := (2 + r6)) wc  k7) ?_; rintro _ _ ⟨rfl, rfl⟩; refine Zi ?_; exact Yc rfl ⟨rfl, rfl⟩ (Ya _) (by show [(65, vs 3), (67, vs 5)] = _; rw [f3, f4])
      · rintro vs es Es Hx -; refine Zv (D := []) rfl ?_; refine Zk Za Lf ?_; refine Zi ?_; exact Yc rfl ⟨rfl, rfl⟩ (Ya _) rfl
      · rintro vs es Es Hx ⟨⟨f5, h7⟩, -⟩; refine Zv (D := [(69, vs 7)]) rfl ?_; rw [f5]; refine Zm Za Zx mm3 rfl ?_; refine Zi ?_; exact Yc rfl ⟨rfl, rfl⟩ (Ya _) (by show [(69, vs 7)] = _; rw [f5])
      · rintro vs es Es Hx -; refine Zv (D := []) rfl ?_; refine Zk Za Wl ?_; refine Zi ?_; exact Yc rfl ⟨rfl, rfl⟩ (Ya _) rfl
      · rintro vs es Es Hx ⟨⟨f6, h8⟩, -⟩; refine Zv (D := [(71, vs 9)]) rfl ?_; rw [f6]; refine Zm Za Zx Wb rfl ?_; refine Zi ?_; exact Yc rfl ⟨rfl, rfl⟩ (Ya _) (by show [(71, vs 9)] = _; rw [f6])
      · rintro vs es Es Hx ⟨⟨f7, h9⟩, ⟨b8, d6⟩, -⟩; refine Zv (D := [(70, vs 8), (72, vs 10)]) rfl ?_; rw [f7, b8]; refine Yj Gn Za (fun wc hwc => Jt (x0 := ((n0.Arcs.take (min (n0.Arcs.length : Int) arcs2).toNat).getD a8.toNat default).to) (n1 := (2 + r6)) wc  k8) ?_; rintro _ _ ⟨rfl, rfl⟩; refine Zi ?_; exact Yc rfl ⟨rfl, rfl⟩ (Ya _) (by show [(70, vs 8), (72, vs 10)] = _; rw [f7, b8])
      · rintro vs es Es Hx -; refine Zv (D := []) rfl ?_; refine Zb Za ?_; refine Zi ?_; exact Yc rfl ⟨rfl, rfl⟩ (Ya _) rfl
      · rintro vs es Es Hx ⟨⟨c3, d7⟩, -⟩; refine Zv (D := [(74, vs 12)]) rfl ?_; rw [c3]; refine TO.rem Zd (by decide) ?_; refine Zi ?_; exact Yc rfl ⟨rfl, rfl⟩ (Ya _) (by show [(74, vs 12)] = _; rw [c3])
      · rintro vs es Es Hx ⟨⟨f8, i0⟩, ⟨c4, d8⟩, ⟨c9, d9⟩, -⟩; refine Zv (D := [(68, vs 6), (73, vs 11), (75, vs 13)]) rfl ?_; rw [f8, c4, c9]; refine Wd (t := 55) [iV 0, iV 0, iV 0] [0, 1, 2] Za (by simp only [Xh, setCells, Value.cells, List.toList_toArray, List.getD_cons_zero, List.getD_cons_succ, List.set_cons_zero, List.set_cons_succ]; rfl) (by kernel_rfl) ?_; refine Zi ?_; exact Yc rfl ⟨rfl, rfl⟩ (Ya _) (by show [(68, vs 6), (73, vs 11), (75, vs 13)] = _; rw [f8, c4, c9])
      · rintro vs es Es Hx ⟨⟨d0, e0⟩, -⟩; refine Zv (D := [(76, vs 14)]) rfl ?_; rw [d0]; refine Gm [iV 0, iV 0, iV 0] [0] Za Xw Wr Kt rr2 (by simp only [Xh, setCells, Value.cells, List.toList_toArray, List.getD_cons_zero, List.getD_cons_succ, List.set_cons_zero, List.set_cons_succ]; rfl) (by kernel_rfl) ?_; intro e8; refine Zi ?_; exact Yc rfl ⟨e8, rfl, rfl⟩ (Ws (by repeat constructor)) (by show [(76, vs 14)] = _; rw [d0])
     · rintro vs es hb ⟨⟨e9, h3⟩, ⟨j5, j6⟩, ⟨f0, e3⟩, ⟨f3, h5⟩, ⟨f2, h4⟩, ⟨f4, h6⟩, ⟨f8, i0⟩, ⟨f5, h7⟩, ⟨f7, h9⟩, ⟨f6, h8⟩, ⟨b8, d6⟩, ⟨c4, d8⟩, ⟨c3, d7⟩, ⟨c9, d9⟩, ⟨d0, e0⟩, ⟨e8, f9, g0⟩, -⟩ hHR; obtain rfl : hb = [] := hHR; refine Zv (D := [(62, vs 0), (63, vs 1), (64, vs 2), (65, vs 3), (66, vs 4), (67, vs 5), (68, vs 6), (69, vs 7), (70, vs 8), (71, vs 9), (72, vs 10), (73, vs 11), (74, vs 12), (75, vs 13), (76, vs 14), (77, vs 15)]) rfl ?_; refine Kl (H := _ ++ (_ ++ (es 0 ++ (es 1 ++ (es 2 ++ (es 3 ++ (es 4 ++ (es 5 ++ (es 6 ++ (es 7 ++ (es 8 ++ (es 9 ++ (es 10 ++ (es 11 ++ (es 12 ++ (es 13 ++ (es 14 ++ (es 15 ++ ([]))))))))))))))))))) rfl ?_; rw [h3, j6, e3, h5, h4, h6, i0, h7, h9, h8, d6, d8, d7, d9, e0, g0]; rw [e9, j5, f0, f3, f2, f4, f8, f5, f7, f6, b8, c4, c3, c9, d0, f9]; clear f9 d0 c9 c3 c4 b8 f6 f7 f5 f8 f4 f2 f3 f0 j5 e9 h3 j6 e3 h5 h4 h6 i0 h7 h9 h8 d6 d8 d7 d9 e0 g0; refine TO.app (f := Yk) (s := 3) (xs := a2) (ob := a4) (j := d1) (ys := [(Arc.mk g6 g7 (d2.tmod 1125899906842624))]) (fun _ => rfl) (fun _ => rfl) Z3i k9 Zd Xk d5 e4 e5 e6 (fun wc hwc => (hwc.rs (f := Yk) (s := 3) (xs := [(Arc.mk g6 g7 (d2.tmod 1125899906842624))]) (j := ([])) (fun _ => rfl) mm4 rfl (Nat.le_refl _) Up)) ?_; intro g1 c47 l0 i2 i4 i5; refine Zk Za Wz ?_; refine Jg (cs' := [iV (2 + r6), iV b5, iV b7, sV g1 (b6 + 1) c47]) Za Xk Z3k Ym ?_; refine Zi ?_; refine Xf ?_; refine Yh ?_; refine Zp (aT [6, 7, 49, 50, 51] rfl) ?_; obtain ⟨l1, H⟩ := Yb H; refine rG Y2 rfl ?_; refine Xr l1 Zd ?_; refine Zb Za ?_; refine Zi ?_; have H := Wm H j3; exact Z0x k4 (a2 ++ ([(Arc.mk g6 g7 (d2.tmod 1125899906842624))])) (b6 + 1) c47 g1 l0 (a8 + 1) ⟨H, (Kk d5 rfl), i2, i4, i5⟩ (Nat.lt_succ_self _) (aF rfl) (Zc Xk (Zc Ze (Zc Ze Zf)))
   · refine Xo rfl h0 ?_; refine T.exit ?_; refine Xg ?_; have H := Wg H j3 ▸ k3; refine Xg ?_; refine Ww ?_; exact Z12 a2 b6 c22 a4 d1 ⟨H, d5, e4, e5, e6⟩ (aF rfl) (Zc Ze (Zc Ze (Zc Ze Zf)))
  · rintro a3 n55 d3 b0 e1 ⟨H, i6, i7, i8, i9⟩; unfold Ld at H; refine sR Y2 rfl ?_; refine Yp Za Yz Wb rfl ?_; refine Wc Za Ze Z0o Ym ?_; refine dN ?_; refine T.ret ?_; obtain rfl := ret1 H; exact Zw Za (Lr rfl Yz Zj rfl) (Zc Xk Zf) ⟨b0, n55, d3, e1, rfl, rfl, i6, i7, i8, i9⟩
theorem Z5n (w : World) (H : Lu = some ()) : Fnc Tryz.prog 45 #[.func (.func 46) #[] #[]] w [] (fun v N => ∃ (a2 : Nat), v = .func (.func 75) #[] #[pV a2] ∧ N = [(eC a2 #[.func (.func 46) #[] #[]] 107)]) := by
 unfold Lu at H; refine Yx (vs := [.func (.func 46) #[] #[]]) Tryz.func45 rfl rfl (Inv.refl w) ?_; refine sR Y2 rfl ?_; refine TO.box Za ?_; intro b1; refine aN Za ?_; refine sR Y2 rfl ?_; refine TO.makeFunc Zd ?_; refine aN Za ?_; refine T.ret ?_; exact Zw Za (Res.tmp rfl) (Zc Ze Zf) ⟨b1, rfl, rfl⟩
theorem Z3q (w : World) (H : Lv = some ()) : Fnc Tryz.prog 45 #[.func (.func 47) #[] #[]] w [] (fun v N => ∃ (a2 : Nat), v = .func (.func 75) #[] #[pV a2] ∧ N = [(eC a2 #[.func (.func 47) #[] #[]] 107)]) := by
 unfold Lv at H; refine Yx (vs := [.func (.func 47) #[] #[]]) Tryz.func45 rfl rfl (Inv.refl w) ?_; refine sR Y2 rfl ?_; refine TO.box Za ?_; intro b1; refine aN Za ?_; refine sR Y2 rfl ?_; refine TO.makeFunc Zd ?_; refine aN Za ?_; refine T.ret ?_; exact Zw Za (Res.tmp rfl) (Zc Ze Zf) ⟨b1, rfl, rfl⟩
theorem Z4d (w : World) (H : La = some ()) : Fnc Tryz.prog 27 #[] w [] (fun v N => ∃ (a2 a3 : Nat), v = .agg #[.func (.func 41) #[] #[], iV 10, .func (.func 42) #[] #[], iV 11, .func (.func 43) #[] #[], iV 12, .func (.func 75) #[] #[pV a2], iV 13, .func (.func 75) #[] #[pV a3], iV 14, .func (.func 48) #[] #[], iV 15] ∧ N = [(eC a2 #[.func (.func 46) #[] #[]] 107), (eC a3 #[.func (.func 47) #[] #[]] 107)]) := by
 unfold La at H; refine Yx (vs := []) Tryz.func27 rfl rfl (Inv.refl w) ?_; refine sR Y1 rfl ?_; refine Wh Ym Z4l ?_; intro b1; refine dS ?_; obtain ⟨⟨⟩, e3, H⟩ := Zu H; obtain ⟨⟨⟩, e6, H⟩ := Zu H; refine rG Y10 rfl ?_; refine Wd (t := 78) [.nilFunc, iV 0] [0, 1] Za (by simp only [Xh, setCells, Value.cells, List.toList_toArray, List.getD_cons_zero, List.getD_cons_succ, List.set_cons_zero, List.set_cons_succ]; rfl) (by kernel_rfl) ?_; refine Wd (t := 78) [.nilFunc, iV 0] [0, 1] Za (by simp only [Xh, setCells, Value.cells, List.toList_toArray, List.getD_cons_zero, List.getD_cons_succ, List.set_cons_zero, List.set_cons_succ]; rfl) (by kernel_rfl) ?_; refine Wd (t := 78) [.nilFunc, iV 0] [0, 1] Za (by simp only [Xh, setCells, Value.cells, List.toList_toArray, List.getD_cons_zero, List.getD_cons_succ, List.set_cons_zero, List.set_cons_succ]; rfl) (by kernel_rfl) ?_; refine Yj Z1j Za (fun wc hwc => Z5n  wc  e3) ?_; rintro _ _ ⟨b4, rfl, rfl⟩; refine Wd (t := 78) [.nilFunc, iV 0] [0, 1] Za (by simp only [Xh, setCells, Value.cells, List.toList_toArray, List.getD_cons_zero, List.getD_cons_succ, List.set_cons_zero, List.set_cons_succ]; rfl) (by kernel_rfl) ?_; refine Yj Z1j Za (fun wc hwc => Z3q  wc  e6) ?_; rintro _ _ ⟨b7, rfl, rfl⟩; refine Wd (t := 78) [.nilFunc, iV 0] [0, 1] Za (by simp only [Xh, setCells, Value.cells, List.toList_toArray, List.getD_cons_zero, List.getD_cons_succ, List.set_cons_zero, List.set_cons_succ]; rfl) (by kernel_rfl) ?_; refine Wd (t := 78) [.nilFunc, iV 0] [0, 1] Za (by simp only [Xh, setCells, Value.cells, List.toList_toArray, List.getD_cons_zero, List.getD_cons_succ, List.set_cons_zero, List.set_cons_succ]; rfl) (by kernel_rfl) ?_; refine Wd (t := 79) [.nilFunc, iV 0, .nilFunc, iV 0, .nilFunc, iV 0, .nilFunc, iV 0, .nilFunc, iV 0, .nilFunc, iV 0] [0, 2, 4, 6, 8, 10] Za (by simp only [Xh, setCells, Value.cells, List.toList_toArray, List.getD_cons_zero, List.getD_cons_succ, List.set_cons_zero, List.set_cons_succ]; rfl) (by kernel_rfl) ?_; refine Wc Za Xk Z4j Ym ?_; refine dN ?_; refine Zp (aT [0] rfl) ?_; refine T.ret ?_; exact Zw Za (Lr rfl Z3g Zj rfl) (Zc Xk (Zc Zt Zf)) ⟨b4, b7, rfl, rfl⟩
theorem Z4b {n0 : Net} {a4 : Option Addr} {a2 a3 : Nat} (w : World) (a5 : RS w [] Yk 3 a4 a2 a3 n0.Arcs) {r0 : Bool} (H : Lj n0 = some r0) : Fnc Tryz.prog 41 #[.agg #[iV n0.N, iV n0.S, iV n0.T, .slice a4 a2 a3]] w [] (fun v N => v = .bool r0 ∧ N = []) := by
 unfold Lj at H; refine Yx (vs := [.agg #[iV n0.N, iV n0.S, iV n0.T, .slice a4 a2 a3]]) Tryz.func41 rfl rfl (Inv.refl w) ?_; refine sR Y2 rfl ?_; refine Xj Za ?_; intro b1; refine aN Za ?_; refine Zo ?_; rcases Zs H with ⟨g3, H⟩ | ⟨g3, H⟩
 · refine rG Y9 rfl ?_; refine Zk Za Wl ?_; refine Zm Za Zx Zj rfl ?_; refine Zn Zl ?_; refine Zb Za ?_; refine Zy (t := 6) (b' := true) rfl (decide_eq_true g3) ?_; refine Zk Za Wl ?_; refine Zm Za Zx Zj rfl ?_; refine Zn Zl ?_; refine Yv Zd ?_; refine aN Za ?_; refine Zp (aT [2] rfl) ?_; refine T.ret ?_; obtain rfl := ret1 H; exact Zw Za (Res.tmp rfl) Zf ⟨rfl, rfl⟩
 · refine rG Y9 rfl ?_; refine Zk Za Wl ?_; refine Zm Za Zx Zj rfl ?_; refine Zn Zl ?_; refine Zb Za ?_; refine Zy (t := 6) (b' := false) rfl (decide_eq_false g3) ?_; refine Zh Za ?_; refine Zh Za ?_; refine Zh Za ?_; refine Yw Zd ?_; refine aN Za ?_; refine Zp (aT [2] rfl) ?_; refine T.ret ?_; obtain rfl := ret1 H; exact Zw Za (Res.tmp rfl) Zf ⟨rfl, rfl⟩
theorem Z44 {n0 : Net} {a4 : Option Addr} {a2 a3 : Nat} (w : World) (a5 : RS w [] Yk 3 a4 a2 a3 n0.Arcs) {r0 : Bool} (H : Le n0 = some r0) : Fnc Tryz.prog 42 #[.agg #[iV n0.N, iV n0.S, iV n0.T, .slice a4 a2 a3]] w [] (fun v N => v = .bool r0 ∧ N = []) := by
 unfold Le at H; refine Yx (vs := [.agg #[iV n0.N, iV n0.S, iV n0.T, .slice a4 a2 a3]]) Tryz.func42 rfl rfl (Inv.refl w) ?_; refine sR Y2 rfl ?_; refine Xj Za ?_; intro b1; refine aN Za ?_; refine sR Y5 rfl ?_; refine Zk Za Wz ?_; refine Zm Za Vd Zj rfl ?_; refine Xv (xs := n0.Arcs) a5.len Zd Xw ?_; refine Zn Zl ?_; refine aN Za ?_; refine T.ret ?_; obtain rfl := ret1 H; exact Zw Za (Res.tmp rfl) Zf ⟨rfl, rfl⟩
theorem Um {n0 : Net} {v1 : Int} {a4 : Option Addr} {a2 a3 : Nat} (w : World) (a5 : RS w [] Yk 3 a4 a2 a3 n0.Arcs) {r0 : Bool} (H : Uq n0 v1 = some r0) : Fnc Tryz.prog 44 #[.agg #[iV n0.N, iV n0.S, iV n0.T, .slice a4 a2 a3], iV v1] w [] (fun v N => v = .bool r0 ∧ N = []) := by
 unfold Uq at H; refine Yx (vs := [.agg #[iV n0.N, iV n0.S, iV n0.T, .slice a4 a2 a3], iV v1]) Tryz.func44 rfl rfl (Inv.refl w) ?_; refine sR Y2 rfl ?_; refine Xj Za ?_; intro b1; refine aN Za ?_; refine Zo ?_; rcases Zs H with ⟨g3, H⟩ | ⟨g3, H⟩
 · refine rG Y9 rfl ?_; refine Zb Za ?_; refine Zn Zl ?_; refine Zb Za ?_; refine Zy (t := 7) (b' := true) rfl (decide_eq_true g3) ?_; refine Zb Za ?_; refine Zk Za Wl ?_; refine Zm Za Zx Zj rfl ?_; refine Zn Zl ?_; refine Yv Zd ?_; refine aN Za ?_; refine Zp (aT [4] rfl) ?_; refine T.ret ?_; obtain rfl := ret1 H; exact Zw Za (Res.tmp rfl) Zf ⟨rfl, rfl⟩
 · refine rG Y9 rfl ?_; refine Zb Za ?_; refine Zn Zl ?_; refine Zb Za ?_; refine Zy (t := 7) (b' := false) rfl (decide_eq_false g3) ?_; refine Zh Za ?_; refine Zh Za ?_; refine Zh Za ?_; refine Zh Za ?_; refine Yw Zd ?_; refine aN Za ?_; refine Zp (aT [4] rfl) ?_; refine T.ret ?_; obtain rfl := ret1 H; exact Zw Za (Res.tmp rfl) Zf ⟨rfl, rfl⟩
theorem Z3v {n0 : Net} {a5 : Option Addr} {a3 a4 : Nat} (w : World) (a2 : RS w [] Yk 3 a5 a3 a4 n0.Arcs) {r0 : Bool} (H : Lm n0 = some r0) : Fnc Tryz.prog 43 #[.agg #[iV n0.N, iV n0.S, iV n0.T, .slice a5 a3 a4]] w [] (fun v N => v = .bool r0 ∧ N = []) := by
 unfold Lm at H; refine Yx (vs := [.agg #[iV n0.N, iV n0.S, iV n0.T, .slice a5 a3 a4]]) Tryz.func43 rfl rfl (Inv.refl w) ?_; refine sR Y2 rfl ?_; refine Xj Za ?_; intro b1; refine aN Za ?_; refine Zo ?_; obtain ⟨r3, e4, H⟩ := Zu H; rcases Zs H with ⟨g5, H⟩ | ⟨g5, H⟩
 ·
  obtain ⟨r6, e7, H⟩ := Zu H; rcases Zs H with ⟨g8, H⟩ | ⟨g8, H⟩
  · refine rG Y18 rfl ?_; refine Yp Za Yz Zj rfl ?_; refine Zk Za Ub ?_; refine Zm Za Zx Zj rfl ?_; refine Yj Uh Za (fun wc hwc => Um (n0 := n0) (v1 := n0.S) wc (a2.mono hwc) e4) ?_; rintro _ _ ⟨rfl, rfl⟩; refine Zb Za ?_; refine Zy (t := 7) (b' := true) rfl g5 ?_; refine Yp Za Yz Zj rfl ?_; refine Zk Za Ur ?_; refine Zm Za Zx Zj rfl ?_; refine Yj Uh Za (fun wc hwc => Um (n0 := n0) (v1 := n0.T) wc (a2.mono hwc) e7) ?_; rintro _ _ ⟨rfl, rfl⟩; refine Yv Zd ?_; refine Zb Za ?_; refine Zy (t := 13) (b' := true) rfl g8 ?_; refine Zk Za Ub ?_; refine Zm Za Zx Zj rfl ?_; refine Zk Za Ur ?_; refine Zm Za Zx Zj rfl ?_; refine Zn Zl ?_; refine Yv Zd ?_; refine aN Za ?_; refine Zp (aT [2] rfl) ?_; refine T.ret ?_; obtain rfl := ret1 H; exact Zw Za (Res.tmp rfl) Zf ⟨rfl, rfl⟩
  · refine rG Y18 rfl ?_; refine Yp Za Yz Zj rfl ?_; refine Zk Za Ub ?_; refine Zm Za Zx Zj rfl ?_; refine Yj Uh Za (fun wc hwc => Um (n0 := n0) (v1 := n0.S) wc (a2.mono hwc) e4) ?_; rintro _ _ ⟨rfl, rfl⟩; refine Zb Za ?_; refine Zy (t := 7) (b' := true) rfl g5 ?_; refine Yp Za Yz Zj rfl ?_; refine Zk Za Ur ?_; refine Zm Za Zx Zj rfl ?_; refine Yj Uh Za (fun wc hwc => Um (n0 := n0) (v1 := n0.T) wc (a2.mono hwc) e7) ?_; rintro _ _ ⟨rfl, rfl⟩; refine Yv Zd ?_; refine Zb Za ?_; refine Zy (t := 13) (b' := false) rfl (Bool.eq_false_iff.2 g8) ?_; refine Zh Za ?_; refine Zh Za ?_; refine Zh Za ?_; refine Zh Za ?_; refine Zh Za ?_; refine Yw Zd ?_; refine aN Za ?_; refine Zp (aT [2] rfl) ?_; refine T.ret ?_; obtain rfl := ret1 H; exact Zw Za (Res.tmp rfl) Zf ⟨rfl, rfl⟩
 · refine rG Y18 rfl ?_; refine Yp Za Yz Zj rfl ?_; refine Zk Za Ub ?_; refine Zm Za Zx Zj rfl ?_; refine Yj Uh Za (fun wc hwc => Um (n0 := n0) (v1 := n0.S) wc (a2.mono hwc) e4) ?_; rintro _ _ ⟨rfl, rfl⟩; refine Zb Za ?_; refine Zy (t := 7) (b' := false) rfl (Bool.eq_false_iff.2 g5) ?_; refine Zh Za ?_; refine Zh Za ?_; refine Zh Za ?_; refine Zh Za ?_; refine Yw Zd ?_; refine Zb Za ?_; refine Zh Za ?_; refine Zh Za ?_; refine Zh Za ?_; refine Zh Za ?_; refine Zh Za ?_; refine Yw Zd ?_; refine aN Za ?_; refine Zp (aT [2] rfl) ?_; refine T.ret ?_; obtain rfl := ret1 H; exact Zw Za (Res.tmp rfl) Zf ⟨rfl, rfl⟩
theorem Z5s {n0 : Net} {a1 : Arc} {a5 : Option Addr} {a2 a4 : Nat} (w : World) (a3 : RS w [] Yk 3 a5 a2 a4 n0.Arcs) {r0 : Bool} (H : Gd n0 a1 = some r0) : Fnc Tryz.prog 46 #[.agg #[iV n0.N, iV n0.S, iV n0.T, .slice a5 a2 a4], .agg #[iV a1.fr, iV a1.to, iV a1.cap]] w [] (fun v N => v = .bool r0 ∧ N = []) := by
 unfold Gd at H; refine Yx (vs := [.agg #[iV n0.N, iV n0.S, iV n0.T, .slice a5 a2 a4], .agg #[iV a1.fr, iV a1.to, iV a1.cap]]) Tryz.func46 rfl rfl (Inv.refl w) ?_; refine sR Y3 rfl ?_; refine Xj Za ?_; intro b1; refine Xj Za ?_; intro b3; refine aN Za ?_; refine Zo ?_; obtain ⟨r5, e6, H⟩ := Zu H; rcases Zs H with ⟨g7, H⟩ | ⟨g7, H⟩
 · obtain ⟨r8, e9, H⟩ := Zu H; refine rG Y11 rfl ?_; refine Yp Za Yz Wb rfl ?_; refine Zk Za Jr ?_; refine Zm Za Zx Zj rfl ?_; refine Yj Uh Za (fun wc hwc => Um (n0 := n0) (v1 := a1.fr) wc (a3.mono hwc) e6) ?_; rintro _ _ ⟨rfl, rfl⟩; refine Zb Za ?_; refine Zy (t := 9) (b' := true) rfl g7 ?_; refine Yp Za Yz Wb rfl ?_; refine Zk Za Lf ?_; refine Zm Za Zx Zj rfl ?_; refine Yj Uh Za (fun wc hwc => Um (n0 := n0) (v1 := a1.to) wc (a3.mono hwc) e9) ?_; rintro _ _ ⟨rfl, rfl⟩; refine Yv Zd ?_; refine aN Za ?_; refine Zp (aT [4] rfl) ?_; refine T.ret ?_; obtain rfl := ret1 H; exact Zw Za (Res.tmp rfl) Zf ⟨rfl, rfl⟩
 · refine rG Y11 rfl ?_; refine Yp Za Yz Wb rfl ?_; refine Zk Za Jr ?_; refine Zm Za Zx Zj rfl ?_; refine Yj Uh Za (fun wc hwc => Um (n0 := n0) (v1 := a1.fr) wc (a3.mono hwc) e6) ?_; rintro _ _ ⟨rfl, rfl⟩; refine Zb Za ?_; refine Zy (t := 9) (b' := false) rfl (Bool.eq_false_iff.2 g7) ?_; refine Zh Za ?_; refine Zh Za ?_; refine Zh Za ?_; refine Zh Za ?_; refine Yw Zd ?_; refine aN Za ?_; refine Zp (aT [4] rfl) ?_; refine T.ret ?_; obtain rfl := ret1 H; exact Zw Za (Res.tmp rfl) Zf ⟨rfl, rfl⟩
theorem Z63 {a0 : Arc} {c2 : Net} {a7 a5 a4 a3 : Nat} {a2 : Option Addr} (w : World) (a9 : HB w [] a7 [.func (.func 46) #[] #[]]) (a8 : RS w [] Yk 3 a2 a4 a3 c2.Arcs) (a6 : HB w [] a5 [iV c2.N, iV c2.S, iV c2.T, .slice a2 a4 a3]) {r0 : Bool} (H : Lk a0 c2 = some r0) : Fnc Tryz.prog 77 #[.agg #[iV a0.fr, iV a0.to, iV a0.cap], pV a7, pV a5] w [] (fun v N => v = .bool r0 ∧ N = []) := by
 unfold Lk at H; refine Yx (vs := [.agg #[iV a0.fr, iV a0.to, iV a0.cap], pV a7, pV a5]) Tryz.func77 rfl rfl (Inv.refl w) ?_; refine sR Y2 rfl ?_; refine Xj Za ?_; intro b1; refine aN Za ?_; refine Zo ?_; obtain ⟨r3, e4, H⟩ := Zu H; refine rG Y6 rfl ?_; refine Z2f a9 Zd Z24 ?_; refine Z1s a6 Zd Yz ?_; refine Yp Za Us Zj rfl ?_; refine Vy Z4c Zd (fun wc hwc => Z5s (n0 := c2) (a1 := a0) wc (a8.mono hwc) e4) ?_; rintro _ _ ⟨rfl, rfl⟩; refine TO.not Za ?_; refine aN Za ?_; refine Zp (aT [4] rfl) ?_; refine T.ret ?_; obtain rfl := ret1 H; exact Zw Za (Res.tmp rfl) Zf ⟨rfl, rfl⟩
theorem Z52 {s0 : List Arc} {f1_1 : Net} {b0 a4 : Option Addr} {b1 b5 a2 a3 a6 a5 : Nat} (w : World) (b6 : RS w [] Yk 3 b0 b1 b5 s0) (a7 : HB w [] a2 [.func (.func 46) #[] #[]]) (a9 : RS w [] Yk 3 a4 a6 a5 f1_1.Arcs) (a8 : HB w [] a3 [iV f1_1.N, iV f1_1.S, iV f1_1.T, .slice a4 a6 a5]) {r0 : Int} (H : Gz s0 f1_1 = some r0) : Fnc Tryz.prog 115 #[.slice b0 b1 b5, .func (.func 77) #[] #[pV a2, pV a3]] w [] (fun v N => v = iV r0 ∧ N = []) := by
 unfold Gz at H; refine Yx (vs := [.slice b0 b1 b5, .func (.func 77) #[] #[pV a2, pV a3]]) Tryz.func115 rfl rfl (Inv.refl w) ?_; refine sR Y1 rfl ?_; refine aN Za ?_; refine Zo ?_; refine sR Y3 rfl ?_; refine Zb Za ?_; refine Xv (xs := s0) b6.len Zd Xw ?_; refine Zb Za ?_; refine dN ?_; refine Wn (fun (u8 : Unit) => Z0b = some r0) (fun (u8 : Unit) => []) (fun (u8 : Unit) => []) ?_ ?_
 ·
  refine T.block ?_; obtain ⟨c3, c4, b9⟩ := Zu H; refine Ri (fun (b7 : Nat) (x1 : Int) => Yu (fun s => Gp s0 f1_1 s) b7 x1 = some c3) (fun (b7 : Nat) (x1 : Int) => [(0, .slice b0 b1 b5), (1, .func (.func 77) #[] #[pV a2, pV a3]), (7, iV (s0.length : Int)), (8, iV x1)]) (fun (b7 : Nat) (x1 : Int) => []) (fun (b7 : Nat) (x1 : Int) => b7) Xc 0 c4 (aF rfl) Zf ?_; rintro b7 x1 H; obtain ⟨c9, d0, rfl, H, b8⟩ := Vb H; have H : Gp s0 f1_1 x1 = some d0 := H; unfold Gp at H; refine sR Y1 rfl ?_; refine Zn Zl ?_; refine dS ?_; rcases Zs H with ⟨g2, H⟩ | ⟨g2, H⟩
  ·
   refine Xp rfl g2 ?_; refine T.skip ?_; refine Yh ?_; refine Zo ?_; refine T.block ?_; refine sR Y2 rfl ?_; refine Zb Za ?_; refine aN Za ?_; refine Zo ?_; obtain ⟨g3, H⟩ := Yb H; obtain ⟨r4, e5, H⟩ := Zu H; refine rG Y6 rfl ?_; refine Zb Za ?_; refine Zb Za ?_; refine Zb Za ?_; refine Xz b6 g3 Zd Xw Wr ?_; refine Kj (cs := [iV ((s0.getD x1.toNat default).fr), iV ((s0.getD x1.toNat default).to), iV ((s0.getD x1.toNat default).cap)]) default b6 g3 Zd Us ?_; refine Vy Z1k Zd (fun wc hwc => Z63 (a0 := (s0.getD x1.toNat default)) (c2 := f1_1) wc (a7.mono hwc) (a9.mono hwc) (a8.mono hwc) e5) ?_; rintro _ _ ⟨rfl, rfl⟩; refine dN ?_; rcases Zs H with ⟨g6, H⟩ | ⟨g6, H⟩
   · refine Xn rfl g6 ?_; refine sR Y2 rfl ?_; refine Zb Za ?_; refine aN Za ?_; refine Zp (aT [4] rfl) ?_; refine T.ret ?_; refine Xm ?_; refine Yi ?_; have H := Wg H b8 ▸ b9; refine Yi ?_; refine Xm ?_; refine Yi ?_; obtain rfl := ret1 H; exact Zw Za (Res.tmp rfl) Zf ⟨rfl, rfl⟩
   · refine Wk rfl (Bool.eq_false_iff.2 g6) ?_; refine T.skip ?_; refine Xf ?_; refine Yh ?_; refine Zp (aT [0, 1, 7, 8] rfl) ?_; obtain ⟨g7, H⟩ := Yb H; refine rG Y2 rfl ?_; refine Xr g7 Zd ?_; refine Zb Za ?_; refine Zi ?_; have H := Wm H b8; exact Z0e c9 (x1 + 1) H (Nat.lt_succ_self _) (aF rfl) Zf
  · refine Xo rfl g2 ?_; refine T.exit ?_; refine Xg ?_; have H := Wg H b8 ▸ b9; refine Xg ?_; refine Ww ?_; exact Xe () H Js Zf
 · rintro u8 H; unfold Z0b at H; refine sR Y1 rfl ?_; refine aN Za ?_; refine T.ret ?_; obtain rfl := ret1 H; exact Zw Za (Res.tmp rfl) Zf ⟨rfl, rfl⟩
theorem Z40 {s0 : List Arc} {f1_1 : Net} {b0 a2 : Option Addr} {b1 b5 a5 a6 a4 a3 : Nat} (w : World) (b6 : RS w [] Yk 3 b0 b1 b5 s0) (a7 : HB w [] a5 [.func (.func 46) #[] #[]]) (a9 : RS w [] Yk 3 a2 a4 a3 f1_1.Arcs) (a8 : HB w [] a6 [iV f1_1.N, iV f1_1.S, iV f1_1.T, .slice a2 a4 a3]) {r0 : Bool} (H : Ly s0 f1_1 = some r0) : Fnc Tryz.prog 76 #[.slice b0 b1 b5, .func (.func 77) #[] #[pV a5, pV a6]] w [] (fun v N => v = .bool r0 ∧ N = []) := by
 unfold Ly at H; refine Yx (vs := [.slice b0 b1 b5, .func (.func 77) #[] #[pV a5, pV a6]]) Tryz.func76 rfl rfl (Inv.refl w) ?_; refine sR Y1 rfl ?_; refine aN Za ?_; refine Zo ?_; obtain ⟨r1, e2, H⟩ := Zu H; refine rG Y5 rfl ?_; refine Zb Za ?_; refine Zb Za ?_; refine Yj Z13 Za (fun wc hwc => Z52 (s0 := s0) (f1_1 := f1_1) wc (b6.mono hwc) (a7.mono hwc) (a9.mono hwc) (a8.mono hwc) e2) ?_; rintro _ _ ⟨rfl, rfl⟩; refine Zn Zl ?_; refine aN Za ?_; refine T.ret ?_; obtain rfl := ret1 H; exact Zw Za (Res.tmp rfl) Zf ⟨rfl, rfl⟩
theorem Z5z {n0 : Net} {a4 : Option Addr} {a2 a3 a6 : Nat} (w : World) (a5 : RS w [] Yk 3 a4 a2 a3 n0.Arcs) (a7 : HB w [] a6 [.func (.func 46) #[] #[]]) {r0 : Bool} (H : Gj n0 = some r0) : Fnc Tryz.prog 75 #[.agg #[iV n0.N, iV n0.S, iV n0.T, .slice a4 a2 a3], pV a6] w [] (fun v N => v = .bool r0 ∧ N = []) := by
 unfold Gj at H; refine Yx (vs := [.agg #[iV n0.N, iV n0.S, iV n0.T, .slice a4 a2 a3], pV a6]) Tryz.func75 rfl rfl (Inv.refl w) ?_; refine sR Y2 rfl ?_; refine Xj Za ?_; intro b1; refine aN Za ?_; refine Zo ?_; obtain ⟨r3, e4, H⟩ := Zu H; refine rG Y6 rfl ?_; refine Zk Za Wz ?_; refine Zm Za Vd Zj rfl ?_; refine TO.makeFunc Zd ?_; refine Yj Z29 Za (fun wc hwc => Z40 (s0 := n0.Arcs) (f1_1 := n0) wc (a5.mono hwc) (a7.mono hwc) (a5.mono hwc) (hwc.hb (cs := [iV n0.N, iV n0.S, iV n0.T, .slice a4 a2 a3]) Zj) e4) ?_; rintro _ _ ⟨rfl, rfl⟩; refine TO.not Za ?_; refine aN Za ?_; refine Zp (aT [3] rfl) ?_; refine T.ret ?_; obtain rfl := ret1 H; exact Zw Za (Res.tmp rfl) Zf ⟨rfl, rfl⟩
theorem Z4h {n0 : Net} {a1 : Arc} {a4 : Option Addr} {a2 a3 : Nat} (w : World) (a5 : RS w [] Yk 3 a4 a2 a3 n0.Arcs) {r0 : Bool} (H : Lb n0 a1 = some r0) : Fnc Tryz.prog 47 #[.agg #[iV n0.N, iV n0.S, iV n0.T, .slice a4 a2 a3], .agg #[iV a1.fr, iV a1.to, iV a1.cap]] w [] (fun v N => v = .bool r0 ∧ N = []) := by
 unfold Lb at H; refine Yx (vs := [.agg #[iV n0.N, iV n0.S, iV n0.T, .slice a4 a2 a3], .agg #[iV a1.fr, iV a1.to, iV a1.cap]]) Tryz.func47 rfl rfl (Inv.refl w) ?_; refine sR Y3 rfl ?_; refine Xj Za ?_; intro b1; refine Xj Za ?_; intro b3; refine aN Za ?_; refine sR Y4 rfl ?_; refine Zk Za Kf ?_; refine Zm Za Vp Zj rfl ?_; refine Zn Zl ?_; refine aN Za ?_; refine T.ret ?_; obtain rfl := ret1 H; exact Zw Za (Res.tmp rfl) Zf ⟨rfl, rfl⟩
theorem Z62 {a0 : Arc} {c2 : Net} {a7 a5 a4 a3 : Nat} {a2 : Option Addr} (w : World) (a9 : HB w [] a7 [.func (.func 47) #[] #[]]) (a8 : RS w [] Yk 3 a2 a4 a3 c2.Arcs) (a6 : HB w [] a5 [iV c2.N, iV c2.S, iV c2.T, .slice a2 a4 a3]) {r0 : Bool} (H : Lh a0 c2 = some r0) : Fnc Tryz.prog 77 #[.agg #[iV a0.fr, iV a0.to, iV a0.cap], pV a7, pV a5] w [] (fun v N => v = .bool r0 ∧ N = []) := by
 unfold Lh at H; refine Yx (vs := [.agg #[iV a0.fr, iV a0.to, iV a0.cap], pV a7, pV a5]) Tryz.func77 rfl rfl (Inv.refl w) ?_; refine sR Y2 rfl ?_; refine Xj Za ?_; intro b1; refine aN Za ?_; refine Zo ?_; obtain ⟨r3, e4, H⟩ := Zu H; refine rG Y6 rfl ?_; refine Z2f a9 Zd Z24 ?_; refine Z1s a6 Zd Yz ?_; refine Yp Za Us Zj rfl ?_; refine Vy Z5b Zd (fun wc hwc => Z4h (n0 := c2) (a1 := a0) wc (a8.mono hwc) e4) ?_; rintro _ _ ⟨rfl, rfl⟩; refine TO.not Za ?_; refine aN Za ?_; refine Zp (aT [4] rfl) ?_; refine T.ret ?_; obtain rfl := ret1 H; exact Zw Za (Res.tmp rfl) Zf ⟨rfl, rfl⟩
theorem Z5q {s0 : List Arc} {f1_1 : Net} {b0 a4 : Option Addr} {b1 b5 a2 a3 a6 a5 : Nat} (w : World) (b6 : RS w [] Yk 3 b0 b1 b5 s0) (a7 : HB w [] a2 [.func (.func 47) #[] #[]]) (a9 : RS w [] Yk 3 a4 a6 a5 f1_1.Arcs) (a8 : HB w [] a3 [iV f1_1.N, iV f1_1.S, iV f1_1.T, .slice a4 a6 a5]) {r0 : Int} (H : Ln s0 f1_1 = some r0) : Fnc Tryz.prog 115 #[.slice b0 b1 b5, .func (.func 77) #[] #[pV a2, pV a3]] w [] (fun v N => v = iV r0 ∧ N = []) := by
 unfold Ln at H; refine Yx (vs := [.slice b0 b1 b5, .func (.func 77) #[] #[pV a2, pV a3]]) Tryz.func115 rfl rfl (Inv.refl w) ?_; refine sR Y1 rfl ?_; refine aN Za ?_; refine Zo ?_; refine sR Y3 rfl ?_; refine Zb Za ?_; refine Xv (xs := s0) b6.len Zd Xw ?_; refine Zb Za ?_; refine dN ?_; refine Wn (fun (u8 : Unit) => Rb = some r0) (fun (u8 : Unit) => []) (fun (u8 : Unit) => []) ?_ ?_
 ·
  refine T.block ?_; obtain ⟨c3, c4, b9⟩ := Zu H; refine Ri (fun (b7 : Nat) (x1 : Int) => Yu (fun s => Ge s0 f1_1 s) b7 x1 = some c3) (fun (b7 : Nat) (x1 : Int) => [(0, .slice b0 b1 b5), (1, .func (.func 77) #[] #[pV a2, pV a3]), (7, iV (s0.length : Int)), (8, iV x1)]) (fun (b7 : Nat) (x1 : Int) => []) (fun (b7 : Nat) (x1 : Int) => b7) Xc 0 c4 (aF rfl) Zf ?_; rintro b7 x1 H; obtain ⟨c9, d0, rfl, H, b8⟩ := Vb H; have H : Ge s0 f1_1 x1 = some d0 := H; unfold Ge at H; refine sR Y1 rfl ?_; refine Zn Zl ?_; refine dS ?_; rcases Zs H with ⟨g2, H⟩ | ⟨g2, H⟩
  ·
   refine Xp rfl g2 ?_; refine T.skip ?_; refine Yh ?_; refine Zo ?_; refine T.block ?_; refine sR Y2 rfl ?_; refine Zb Za ?_; refine aN Za ?_; refine Zo ?_; obtain ⟨g3, H⟩ := Yb H; obtain ⟨r4, e5, H⟩ := Zu H; refine rG Y6 rfl ?_; refine Zb Za ?_; refine Zb Za ?_; refine Zb Za ?_; refine Xz b6 g3 Zd Xw Wr ?_; refine Kj (cs := [iV ((s0.getD x1.toNat default).fr), iV ((s0.getD x1.toNat default).to), iV ((s0.getD x1.toNat default).cap)]) default b6 g3 Zd Us ?_; refine Vy Z1k Zd (fun wc hwc => Z62 (a0 := (s0.getD x1.toNat default)) (c2 := f1_1) wc (a7.mono hwc) (a9.mono hwc) (a8.mono hwc) e5) ?_; rintro _ _ ⟨rfl, rfl⟩; refine dN ?_; rcases Zs H with ⟨g6, H⟩ | ⟨g6, H⟩
   · refine Xn rfl g6 ?_; refine sR Y2 rfl ?_; refine Zb Za ?_; refine aN Za ?_; refine Zp (aT [4] rfl) ?_; refine T.ret ?_; refine Xm ?_; refine Yi ?_; have H := Wg H b8 ▸ b9; refine Yi ?_; refine Xm ?_; refine Yi ?_; obtain rfl := ret1 H; exact Zw Za (Res.tmp rfl) Zf ⟨rfl, rfl⟩
   · refine Wk rfl (Bool.eq_false_iff.2 g6) ?_; refine T.skip ?_; refine Xf ?_; refine Yh ?_; refine Zp (aT [0, 1, 7, 8] rfl) ?_; obtain ⟨g7, H⟩ := Yb H; refine rG Y2 rfl ?_; refine Xr g7 Zd ?_; refine Zb Za ?_; refine Zi ?_; have H := Wm H b8; exact Z0e c9 (x1 + 1) H (Nat.lt_succ_self _) (aF rfl) Zf
  · refine Xo rfl g2 ?_; refine T.exit ?_; refine Xg ?_; have H := Wg H b8 ▸ b9; refine Xg ?_; refine Ww ?_; exact Xe () H Js Zf
 · rintro u8 H; unfold Rb at H; refine sR Y1 rfl ?_; refine aN Za ?_; refine T.ret ?_; obtain rfl := ret1 H; exact Zw Za (Res.tmp rfl) Zf ⟨rfl, rfl⟩
theorem Z65 {s0 : List Arc} {f1_1 : Net} {b0 a2 : Option Addr} {b1 b5 a5 a6 a4 a3 : Nat} (w : World) (b6 : RS w [] Yk 3 b0 b1 b5 s0) (a7 : HB w [] a5 [.func (.func 47) #[] #[]]) (a9 : RS w [] Yk 3 a2 a4 a3 f1_1.Arcs) (a8 : HB w [] a6 [iV f1_1.N, iV f1_1.S, iV f1_1.T, .slice a2 a4 a3]) {r0 : Bool} (H : Nz s0 f1_1 = some r0) : Fnc Tryz.prog 76 #[.slice b0 b1 b5, .func (.func 77) #[] #[pV a5, pV a6]] w [] (fun v N => v = .bool r0 ∧ N = []) := by
 unfold Nz at H; refine Yx (vs := [.slice b0 b1 b5, .func (.func 77) #[] #[pV a5, pV a6]]) Tryz.func76 rfl rfl (Inv.refl w) ?_; refine sR Y1 rfl ?_; refine aN Za ?_; refine Zo ?_; obtain ⟨r1, e2, H⟩ := Zu H; refine rG Y5 rfl ?_; refine Zb Za ?_; refine Zb Za ?_; refine Yj Z13 Za (fun wc hwc => Z5q (s0 := s0) (f1_1 := f1_1) wc (b6.mono hwc) (a7.mono hwc) (a9.mono hwc) (a8.mono hwc) e2) ?_; rintro _ _ ⟨rfl, rfl⟩; refine Zn Zl ?_; refine aN Za ?_; refine T.ret ?_; obtain rfl := ret1 H; exact Zw Za (Res.tmp rfl) Zf ⟨rfl, rfl⟩
theorem Z47 {n0 : Net} {a4 : Option Addr} {a2 a3 a6 : Nat} (w : World) (a5 : RS w [] Yk 3 a4 a2 a3 n0.Arcs) (a7 : HB w [] a6 [.func (.func 47) #[] #[]]) {r0 : Bool} (H : Gb n0 = some r0) : Fnc Tryz.prog 75 #[.agg #[iV n0.N, iV n0.S, iV n0.T, .slice a4 a2 a3], pV a6] w [] (fun v N => v = .bool r0 ∧ N = []) := by
 unfold Gb at H; refine Yx (vs := [.agg #[iV n0.N, iV n0.S, iV n0.T, .slice a4 a2 a3], pV a6]) Tryz.func75 rfl rfl (Inv.refl w) ?_; refine sR Y2 rfl ?_; refine Xj Za ?_; intro b1; refine aN Za ?_; refine Zo ?_; obtain ⟨r3, e4, H⟩ := Zu H; refine rG Y6 rfl ?_; refine Zk Za Wz ?_; refine Zm Za Vd Zj rfl ?_; refine TO.makeFunc Zd ?_; refine Yj Z29 Za (fun wc hwc => Z65 (s0 := n0.Arcs) (f1_1 := n0) wc (a5.mono hwc) (a7.mono hwc) (a5.mono hwc) (hwc.hb (cs := [iV n0.N, iV n0.S, iV n0.T, .slice a4 a2 a3]) Zj) e4) ?_; rintro _ _ ⟨rfl, rfl⟩; refine TO.not Za ?_; refine aN Za ?_; refine Zp (aT [3] rfl) ?_; refine T.ret ?_; obtain rfl := ret1 H; exact Zw Za (Res.tmp rfl) Zf ⟨rfl, rfl⟩
theorem Z5o {n0 : Net} {a6 : Option Addr} {a4 a5 : Nat} (w : World) (a7 : RS w [] Yk 3 a6 a4 a5 n0.Arcs) {r0 : Int} {r1 : Bool} (H : Gr n0 = some (r0, r1)) : Fnc Tryz.prog 49 #[.agg #[iV n0.N, iV n0.S, iV n0.T, .slice a6 a4 a5]] w [] (fun v N => v = .tuple #[iV r0, .bool r1] ∧ N = []) := by
 unfold Gr at H; refine Yx (vs := [.agg #[iV n0.N, iV n0.S, iV n0.T, .slice a6 a4 a5]]) Tryz.func49 rfl rfl (Inv.refl w) ?_; refine sR Y3 rfl ?_; refine Xj Za ?_; intro b1; refine Yq Za ?_; refine aN Za ?_; refine sR Y1 rfl ?_; refine aN Za ?_; refine Zo ?_; refine sR Y4 rfl ?_; refine Zk Za Wz ?_; refine Zm Za Vd Zj rfl ?_; refine Xv (xs := n0.Arcs) a7.len Zd Xw ?_; refine Zb Za ?_; refine dN ?_; refine Wn (fun (a3 : Int) => Np a3 = some (r0, r1)) (fun (a3 : Int) => [(4, iV a3)]) (fun (a3 : Int) => []) ?_ ?_
 ·
  refine T.block ?_; obtain ⟨b9, c3, b6⟩ := Zu H; refine Nc (fun (a8 : Nat) (a2 x4 : Int) => Yu (fun s => Gk n0 s.1 s.2) a8 (a2, x4) = some b9) (fun (a8 : Nat) (a2 x4 : Int) => [(4, iV a2), (8, .slice a6 a4 a5), (9, iV (n0.Arcs.length : Int)), (10, iV x4)]) (fun (a8 : Nat) (a2 x4 : Int) => []) (fun (a8 : Nat) (a2 x4 : Int) => a8) Xc 4611686018427387904 0 c3 (aF rfl) Zf ?_; rintro a8 a2 x4 H; obtain ⟨c4, b8, rfl, H, b0⟩ := Vb H; have H : Gk n0 a2 x4 = some b8 := H; unfold Gk at H; refine sR Y1 rfl ?_; refine Zn Zl ?_; refine dS ?_; rcases Zs H with ⟨g5, H⟩ | ⟨g5, H⟩
  ·
   refine Xp rfl g5 ?_; refine T.skip ?_; refine Yh ?_; refine Zo ?_; refine T.block ?_; obtain ⟨g6, H⟩ := Yb H; refine sR Y4 rfl ?_; refine Xz a7 g6 Zd Xw Wr ?_; refine Kj (cs := [iV ((n0.Arcs.getD x4.toNat default).fr), iV ((n0.Arcs.getD x4.toNat default).to), iV ((n0.Arcs.getD x4.toNat default).cap)]) default a7 g6 Zd Us ?_; refine Wh Ym Kt ?_; intro b7; refine Wc Za Ze Wr Ym ?_; refine dS ?_; refine Zo ?_; refine Wn (fun (a9 : Bool) => Ju n0 a2 x4 a9 = some b8) (fun (a9 : Bool) => [(4, iV a2), (6, pV b7), (8, .slice a6 a4 a5), (9, iV (n0.Arcs.length : Int)), (10, iV x4), (22, .bool a9)]) (fun (a9 : Bool) => [(eC b7 #[iV ((n0.Arcs.getD x4.toNat default).fr), iV ((n0.Arcs.getD x4.toNat default).to), iV ((n0.Arcs.getD x4.toNat default).cap)] 55)]) ?_ ?_
   ·
    rcases Zs H with ⟨g9, H⟩ | ⟨g9, H⟩
    · refine rG Y9 rfl ?_; refine Zk Za Kf ?_; refine Zm Za Vp Zj rfl ?_; refine Zn Zl ?_; refine Zb Za ?_; refine Zy (t := 17) (b' := true) rfl (decide_eq_true g9) ?_; refine Zh Za ?_; refine Zh Za ?_; refine Zh Za ?_; refine Zh Za ?_; refine Yv Zd ?_; refine Zi ?_; exact Xe true H (aF rfl) (Zc Ze Zf)
    · refine rG Y9 rfl ?_; refine Zk Za Kf ?_; refine Zm Za Vp Zj rfl ?_; refine Zn Zl ?_; refine Zb Za ?_; refine Zy (t := 17) (b' := false) rfl (decide_eq_false g9) ?_; refine Zk Za Kf ?_; refine Zm Za Vp Zj rfl ?_; refine Zb Za ?_; refine Zn Zl ?_; refine Yw Zd ?_; refine Zi ?_; exact Xe (decide (a2 < ((n0.Arcs.getD x4.toNat default).cap))) H (aF rfl) (Zc Ze Zf)
   ·
    rintro a9 H; unfold Ju at H; rcases Zs H with ⟨b5, H⟩ | ⟨b5, H⟩
    · refine Xn rfl b5 ?_; refine sR Y2 rfl ?_; refine Yq Za ?_; refine aN Za ?_; refine T.ret ?_; refine Yi ?_; refine Xm ?_; refine Yi ?_; have H := Wg H b0 ▸ b6; refine Yi ?_; refine Xm ?_; refine Yi ?_; obtain ⟨rfl, rfl⟩ := ret2 H; exact Vz Za (Res.tmp rfl) (Res.tmp rfl) Zf ⟨rfl, rfl⟩
    · refine Wk rfl (Bool.eq_false_iff.2 b5) ?_; refine T.skip ?_; refine Yh ?_; obtain ⟨c9, H⟩ := Yb H; refine rG Y5 rfl ?_; refine Zb Za ?_; refine Zk Za Kf ?_; refine Zm Za Vp Zj rfl ?_; refine Nh c9 Zd ?_; refine Yq Za ?_; refine Zi ?_; refine Xf ?_; refine Yh ?_; obtain ⟨d0, H⟩ := Yb H; refine rG Y2 rfl ?_; refine Xr d0 Zd ?_; refine Zb Za ?_; refine Zi ?_; have H := Wm H b0; exact Gq c4 (a2 - ((n0.Arcs.getD x4.toNat default).cap)) (x4 + 1) H (Nat.lt_succ_self _) (aF rfl) Zf
  · refine Xo rfl g5 ?_; refine T.exit ?_; refine Xg ?_; have H := Wg H b0 ▸ b6; refine Xg ?_; refine Ww ?_; exact Xe a2 H (aF rfl) Zf
 · rintro a3 H; unfold Np at H; obtain ⟨d1, H⟩ := Yb H; refine sR Y4 rfl ?_; refine Zb Za ?_; refine Nh d1 Zd ?_; refine Yq Za ?_; refine aN Za ?_; refine T.ret ?_; obtain ⟨rfl, rfl⟩ := ret2 H; exact Vz Za (Res.tmp rfl) (Res.tmp rfl) Zf ⟨rfl, rfl⟩
theorem Z4n {n0 : Net} {a4 : Option Addr} {a2 a3 : Nat} (w : World) (a5 : RS w [] Yk 3 a4 a2 a3 n0.Arcs) {r0 : Bool} (H : Gv n0 = some r0) : Fnc Tryz.prog 48 #[.agg #[iV n0.N, iV n0.S, iV n0.T, .slice a4 a2 a3]] w [] (fun v N => v = .bool r0 ∧ N = []) := by
 unfold Gv at H; refine Yx (vs := [.agg #[iV n0.N, iV n0.S, iV n0.T, .slice a4 a2 a3]]) Tryz.func48 rfl rfl (Inv.refl w) ?_; refine sR Y2 rfl ?_; refine Xj Za ?_; intro b1; refine aN Za ?_; refine Zo ?_; obtain ⟨⟨r3, r4⟩, e5, H⟩ := Zu H; refine rG Y7 rfl ?_; refine Yp Za Yz Zj rfl ?_; refine Yj Z45 Za (fun wc hwc => Z5o (n0 := n0) wc (a5.mono hwc) e5) ?_; rintro _ _ ⟨rfl, rfl⟩; refine Zb Za ?_; refine TO.extract Zd ?_; refine TO.extract Zd ?_; refine Yq Za ?_; refine aN Za ?_; refine Zp (aT [4] rfl) ?_; refine sR Y2 rfl ?_; refine Zb Za ?_; refine aN Za ?_; refine T.ret ?_; obtain rfl := ret1 H; exact Zw Za (Res.tmp rfl) Zf ⟨rfl, rfl⟩
theorem Z0q {n0 : Net} {a5 : Option Addr} {a3 a4 : Nat} (w : World) (a2 : RS w [] Yk 3 a5 a3 a4 n0.Arcs) {r0 : Int} (H : Ja n0 = some r0) : Fnc Tryz.prog 15 #[.agg #[iV n0.N, iV n0.S, iV n0.T, .slice a5 a3 a4]] w [] (fun v N => v = iV r0 ∧ N = []) := by
 unfold Ja at H; refine Yx (vs := [.agg #[iV n0.N, iV n0.S, iV n0.T, .slice a5 a3 a4]]) Tryz.func15 rfl rfl (Inv.refl w) ?_; refine sR Y2 rfl ?_; refine Xj Za ?_; intro b1; refine aN Za ?_; refine Zo ?_; refine Zo ?_; obtain ⟨⟨⟩, e3, H⟩ := Zu H; refine rG Y2 rfl ?_; refine Yj Z4t Za (fun wc hwc => Z4d  wc  e3) ?_; rintro _ _ ⟨b4, b5, rfl, rfl⟩; refine Zb Za ?_; refine dN ?_; refine Wn (fun (a6 : Unit) => Nw = some r0) (fun (a6 : Unit) => []) (fun (a6 : Unit) => []) ?_ ?_
 ·
  refine T.block ?_; refine T.loopU ?_; refine Uv ?_; refine sR Y1 rfl ?_; refine Kc (b := true) Zl (by first | decide | rfl) ?_; refine dS ?_; refine Xn rfl rfl ?_; refine T.skip ?_; refine Yh ?_; refine Zo ?_; refine T.block ?_; refine sR Y3 rfl ?_; refine Ji (vs := [.func (.func 41) #[] #[], iV 10]) Zd Jl Kn (by decide) rfl ?_; refine Wh Ym Je ?_; intro b8; refine Wc Za Ze Jn Ym ?_; refine dS ?_; obtain ⟨d2, b9, H⟩ := Zu H; refine rG Y5 rfl ?_; refine Zk Za Ks ?_; refine Zm Za Kw Zj rfl ?_; refine Yp Za Yz mm3 rfl ?_; refine Vy Z4k Zd (fun wc hwc => Z4b (n0 := n0) wc (a2.mono hwc) b9) ?_; rintro _ _ ⟨rfl, rfl⟩; refine TO.not Za ?_; refine dN ?_; refine Zp (aT [1, 5, 6, 4, 13] rfl) ?_; rcases Zs H with ⟨a7, H⟩ | ⟨a7, H⟩
  · refine Xn rfl a7 ?_; refine sR Y3 rfl ?_; refine Zk Za Kq ?_; refine Zm Za Ux Zj rfl ?_; refine aN Za ?_; refine T.ret ?_; refine Xm ?_; refine Yi ?_; refine Yi ?_; refine Xm ?_; refine Yi ?_; obtain rfl := ret1 H; exact Zw Za (Res.tmp rfl) Zf ⟨rfl, rfl⟩
  ·
   refine Wk rfl (Bool.eq_false_iff.2 a7) ?_; refine T.skip ?_; refine Xf ?_; refine Yh ?_; refine rG Y2 rfl ?_; refine Ky (r := 1) (by decide) Zd ?_; refine Zb Za ?_; refine Zi ?_; refine Km ?_; refine Uv ?_; refine sR Y1 rfl ?_; refine Kc (b := true) Zl (by first | decide | rfl) ?_; refine dS ?_; refine Xn rfl rfl ?_; refine T.skip ?_; refine Yh ?_; refine Zo ?_; refine T.block ?_; refine sR Y3 rfl ?_; refine Ji (vs := [.func (.func 42) #[] #[], iV 11]) Zd Jl Kn (by decide) rfl ?_; refine Wh Ym Je ?_; intro d3; refine Wc Za Ze Jn Ym ?_; refine dS ?_; obtain ⟨d4, c3, H⟩ := Zu H; refine rG Y5 rfl ?_; refine Zk Za Ks ?_; refine Zm Za Kw Zj rfl ?_; refine Yp Za Yz mm4 rfl ?_; refine Vy Z3m Zd (fun wc hwc => Z44 (n0 := n0) wc (a2.mono hwc) c3) ?_; rintro _ _ ⟨rfl, rfl⟩; refine TO.not Za ?_; refine dN ?_; rcases Zs H with ⟨a8, H⟩ | ⟨a8, H⟩
   · refine Xn rfl a8 ?_; refine sR Y3 rfl ?_; refine Zk Za Kq ?_; refine Zm Za Ux Zj rfl ?_; refine aN Za ?_; refine Zp (aT [2] rfl) ?_; refine T.ret ?_; refine Xm ?_; refine Yi ?_; refine Yi ?_; refine Xm ?_; refine Yi ?_; obtain rfl := ret1 H; exact Zw Za (Res.tmp rfl) Zf ⟨rfl, rfl⟩
   ·
    refine Wk rfl (Bool.eq_false_iff.2 a8) ?_; refine T.skip ?_; refine Xf ?_; refine Yh ?_; refine Zp (aT [1, 5, 6] rfl) ?_; refine rG Y2 rfl ?_; refine Ky (r := 2) (by decide) Zd ?_; refine Zb Za ?_; refine Zi ?_; refine Km ?_; refine Uv ?_; refine sR Y1 rfl ?_; refine Kc (b := true) Zl (by first | decide | rfl) ?_; refine dS ?_; refine Xn rfl rfl ?_; refine T.skip ?_; refine Yh ?_; refine Zo ?_; refine T.block ?_; refine sR Y3 rfl ?_; refine Ji (vs := [.func (.func 43) #[] #[], iV 12]) Zd Jl Kn (by decide) rfl ?_; refine Wh Ym Je ?_; intro d5; refine Wc Za Ze Jn Ym ?_; refine dS ?_; obtain ⟨d6, c4, H⟩ := Zu H; refine rG Y5 rfl ?_; refine Zk Za Ks ?_; refine Zm Za Kw Zj rfl ?_; refine Yp Za Yz mm5 rfl ?_; refine Vy Z64 Zd (fun wc hwc => Z3v (n0 := n0) wc (a2.mono hwc) c4) ?_; rintro _ _ ⟨rfl, rfl⟩; refine TO.not Za ?_; refine dN ?_; rcases Zs H with ⟨a9, H⟩ | ⟨a9, H⟩
    · refine Xn rfl a9 ?_; refine sR Y3 rfl ?_; refine Zk Za Kq ?_; refine Zm Za Ux Zj rfl ?_; refine aN Za ?_; refine Zp (aT [2] rfl) ?_; refine T.ret ?_; refine Xm ?_; refine Yi ?_; refine Yi ?_; refine Xm ?_; refine Yi ?_; obtain rfl := ret1 H; exact Zw Za (Res.tmp rfl) Zf ⟨rfl, rfl⟩
    ·
     refine Wk rfl (Bool.eq_false_iff.2 a9) ?_; refine T.skip ?_; refine Xf ?_; refine Yh ?_; refine Zp (aT [1, 5, 6] rfl) ?_; refine rG Y2 rfl ?_; refine Ky (r := 3) (by decide) Zd ?_; refine Zb Za ?_; refine Zi ?_; refine Km ?_; refine Uv ?_; refine sR Y1 rfl ?_; refine Kc (b := true) Zl (by first | decide | rfl) ?_; refine dS ?_; refine Xn rfl rfl ?_; refine T.skip ?_; refine Yh ?_; refine Zo ?_; refine T.block ?_; refine sR Y3 rfl ?_; refine Ji (vs := [.func (.func 75) #[] #[pV b4], iV 13]) Zd Jl Kn (by decide) rfl ?_; refine Wh Ym Je ?_; intro d7; refine Wc Za Ze Jn Ym ?_; refine dS ?_; obtain ⟨d8, c9, H⟩ := Zu H; refine rG Y5 rfl ?_; refine Zk Za Ks ?_; refine Zm Za Kw Zj rfl ?_; refine Yp Za Yz mm6 rfl ?_; refine Vy Z20 Zd (fun wc hwc => Z5z (n0 := n0) wc (a2.mono hwc) (hwc.hb (cs := [.func (.func 46) #[] #[]]) mm4) c9) ?_; rintro _ _ ⟨rfl, rfl⟩; refine TO.not Za ?_; refine dN ?_; rcases Zs H with ⟨b0, H⟩ | ⟨b0, H⟩
     · refine Xn rfl b0 ?_; refine sR Y3 rfl ?_; refine Zk Za Kq ?_; refine Zm Za Ux Zj rfl ?_; refine aN Za ?_; refine Zp (aT [2] rfl) ?_; refine T.ret ?_; refine Xm ?_; refine Yi ?_; refine Yi ?_; refine Xm ?_; refine Yi ?_; obtain rfl := ret1 H; exact Zw Za (Res.tmp rfl) Zf ⟨rfl, rfl⟩
     ·
      refine Wk rfl (Bool.eq_false_iff.2 b0) ?_; refine T.skip ?_; refine Xf ?_; refine Yh ?_; refine Zp (aT [1, 5, 6] rfl) ?_; refine rG Y2 rfl ?_; refine Ky (r := 4) (by decide) Zd ?_; refine Zb Za ?_; refine Zi ?_; refine Km ?_; refine Uv ?_; refine sR Y1 rfl ?_; refine Kc (b := true) Zl (by first | decide | rfl) ?_; refine dS ?_; refine Xn rfl rfl ?_; refine T.skip ?_; refine Yh ?_; refine Zo ?_; refine T.block ?_; refine sR Y3 rfl ?_; refine Ji (vs := [.func (.func 75) #[] #[pV b5], iV 14]) Zd Jl Kn (by decide) rfl ?_; refine Wh Ym Je ?_; intro b28; refine Wc Za Ze Jn Ym ?_; refine dS ?_; obtain ⟨d9, d0, H⟩ := Zu H; refine rG Y5 rfl ?_; refine Zk Za Ks ?_; refine Zm Za Kw Zj rfl ?_; refine Yp Za Yz mm7 rfl ?_; refine Vy Z20 Zd (fun wc hwc => Z47 (n0 := n0) wc (a2.mono hwc) (hwc.hb (cs := [.func (.func 47) #[] #[]]) mm6) d0) ?_; rintro _ _ ⟨rfl, rfl⟩; refine TO.not Za ?_; refine dN ?_; rcases Zs H with ⟨b6, H⟩ | ⟨b6, H⟩
      · refine Xn rfl b6 ?_; refine sR Y3 rfl ?_; refine Zk Za Kq ?_; refine Zm Za Ux Zj rfl ?_; refine aN Za ?_; refine Zp (aT [2] rfl) ?_; refine T.ret ?_; refine Xm ?_; refine Yi ?_; refine Yi ?_; refine Xm ?_; refine Yi ?_; obtain rfl := ret1 H; exact Zw Za (Res.tmp rfl) Zf ⟨rfl, rfl⟩
      ·
       refine Wk rfl (Bool.eq_false_iff.2 b6) ?_; refine T.skip ?_; refine Xf ?_; refine Yh ?_; refine Zp (aT [1, 5, 6] rfl) ?_; refine rG Y2 rfl ?_; refine Ky (r := 5) (by decide) Zd ?_; refine Zb Za ?_; refine Zi ?_; refine Km ?_; refine Uv ?_; refine sR Y1 rfl ?_; refine Kc (b := true) Zl (by first | decide | rfl) ?_; refine dS ?_; refine Xn rfl rfl ?_; refine T.skip ?_; refine Yh ?_; refine Zo ?_; refine T.block ?_; refine sR Y3 rfl ?_; refine Ji (vs := [.func (.func 48) #[] #[], iV 15]) Zd Jl Kn (by decide) rfl ?_; refine Wh Ym Je ?_; intro e0; refine Wc Za Ze Jn Ym ?_; refine dS ?_; obtain ⟨e1, d1, H⟩ := Zu H; refine rG Y5 rfl ?_; refine Zk Za Ks ?_; refine Zm Za Kw Zj rfl ?_; refine Yp Za Yz mm8 rfl ?_; refine Vy Z5x Zd (fun wc hwc => Z4n (n0 := n0) wc (a2.mono hwc) d1) ?_; rintro _ _ ⟨rfl, rfl⟩; refine TO.not Za ?_; refine dN ?_; rcases Zs H with ⟨b7, H⟩ | ⟨b7, H⟩
       · refine Xn rfl b7 ?_; refine sR Y3 rfl ?_; refine Zk Za Kq ?_; refine Zm Za Ux Zj rfl ?_; refine aN Za ?_; refine Zp (aT [2] rfl) ?_; refine T.ret ?_; refine Xm ?_; refine Yi ?_; refine Yi ?_; refine Xm ?_; refine Yi ?_; obtain rfl := ret1 H; exact Zw Za (Res.tmp rfl) Zf ⟨rfl, rfl⟩
       · refine Wk rfl (Bool.eq_false_iff.2 b7) ?_; refine T.skip ?_; refine Xf ?_; refine Yh ?_; refine Zp (aT [1, 5, 6] rfl) ?_; refine rG Y2 rfl ?_; refine Ky (r := 6) (by decide) Zd ?_; refine Zb Za ?_; refine Zi ?_; refine Km ?_; refine Uv ?_; refine sR Y1 rfl ?_; refine Kc (b := false) Zl (by first | decide | rfl) ?_; refine dS ?_; refine Wk rfl rfl ?_; refine T.exit ?_; refine Xg ?_; refine Xg ?_; refine Ww ?_; exact Xe () H Js Zf
 · rintro a6 H; unfold Nw at H; refine sR Y1 rfl ?_; refine aN Za ?_; refine T.ret ?_; obtain rfl := ret1 H; exact Zw Za (Res.tmp rfl) Zf ⟨rfl, rfl⟩
end Go.Proofs.YtgafnhfbeiofnaaGreat.Ax
namespace Go.Proofs.YtgafnhfbeiofnaaGreat.Ax
open Go Go.Acq Go.RowKit Go.Proofs
set_option maxHeartbeats 8000000
set_option maxRecDepth 20000
end Go.Proofs.YtgafnhfbeiofnaaGreat.Ax
namespace Go.Proofs.YtgafnhfbeiofnaaGreat.Ax
open Go Go.Acq Go.RowKit Go.Proofs
set_option maxHeartbeats 8000000
set_option maxRecDepth 20000
theorem Z5t : Xi Tryz.prog 28 = some 24 := by kernel_rfl
theorem Rj : Xi Tryz.prog 3 = some 8 := by kernel_rfl
theorem Z2h : Xi Tryz.prog 4 = some 1 := by kernel_rfl
theorem Z3n : Yn Tryz.prog 104 = true := by kernel_rfl
theorem Z4z : Yn Tryz.prog 110 = true := by kernel_rfl
theorem Z50 : Yn Tryz.prog 111 = true := by kernel_rfl
theorem Z5c : Yn Tryz.prog 112 = true := by kernel_rfl
theorem Z5d : Yn Tryz.prog 122 = true := by kernel_rfl
theorem Rv : Yn Tryz.prog 15 = true := by kernel_rfl
theorem Jw : Yn Tryz.prog 172 = true := by kernel_rfl
theorem Rc : Yn Tryz.prog 175 = true := by kernel_rfl
theorem Nl : Xd Tryz.prog 197 1 = some 4 := by kernel_rfl
theorem Z6c : Vi Tryz.prog 110 = some .u64 := by kernel_rfl
theorem TWXCY.i3 : Vi Tryz.prog 3 = some .i64 := by kernel_rfl
theorem Kv : Zr Tryz.prog 113 = some 28 := by kernel_rfl
theorem Xa : Zr Tryz.prog 28 = some 3 := by kernel_rfl
theorem Kh : Zr Tryz.prog 32 = some 2 := by kernel_rfl
theorem Nv : Zr Tryz.prog 33 = some 4 := by kernel_rfl
theorem Gt : Zq Tryz.prog 2 = some 1 := by kernel_rfl
theorem Jd : Zq Tryz.prog 28 = some 1 := by kernel_rfl
theorem Z1z : Zq Tryz.prog 4 = some 1 := by kernel_rfl
theorem Z4i : (Tryz.prog.underlying 110).isSome = true := by kernel_rfl
theorem TWXCY.o3 : (Tryz.prog.underlying 3).isSome = true := by kernel_rfl
theorem Ls : Yr Tryz.prog 113 = true := by kernel_rfl
theorem Z08 : Yr Tryz.prog 28 = true := by kernel_rfl
theorem Z3u : Yl Tryz.prog 28 = some (.slice none 0 0) := by kernel_rfl
theorem Uz : Yl Tryz.prog 3 = some (iV 0) := by kernel_rfl
theorem Z30 : Yl Tryz.prog 4 = some (.bool false) := by kernel_rfl
theorem Z0r : ElemT Tryz.prog 28 3 1 8 (iV 0) := ⟨Xa, Xb, Rj, Uz, rfl⟩
theorem Z67 {n0 : Net} {f1 : List Int} {a5 a7 : Option Addr} {a3 a4 a8 a9 : Nat} (w : World) (a2 : RS w [] Yk 3 a5 a3 a4 n0.Arcs) (a6 : RS w [] iC 1 a7 a8 a9 f1) {r0 : Bool} (H : Z0h n0 f1 = some r0) : Fnc Tryz.prog 104 #[.agg #[iV n0.N, iV n0.S, iV n0.T, .slice a5 a3 a4], .slice a7 a8 a9] w [] (fun v N => v = .bool r0 ∧ N = []) := by
 unfold Z0h at H; refine Yx (vs := [.agg #[iV n0.N, iV n0.S, iV n0.T, .slice a5 a3 a4], .slice a7 a8 a9]) Tryz.func104 rfl rfl (Inv.refl w) ?_; refine sR Y2 rfl ?_; refine Xj Za ?_; intro b1; refine aN Za ?_; refine Zo ?_; refine Zo ?_; obtain ⟨r3, e4, H⟩ := Zu H; rcases Zs H with ⟨g5, H⟩ | ⟨g5, H⟩
 · refine rG Y11 rfl ?_; refine Yp Za Yz Zj rfl ?_; refine Yj Rv Za (fun wc hwc => Z0q (n0 := n0) wc (a2.mono hwc) e4) ?_; rintro _ _ ⟨rfl, rfl⟩; refine Zn Zl ?_; refine Zb Za ?_; refine Zy (t := 10) (b' := true) rfl (decide_eq_true g5) ?_; refine Zh Za ?_; refine Zh Za ?_; refine Zh Za ?_; refine Zh Za ?_; refine Zh Za ?_; refine Zh Za ?_; refine Yv Zd ?_; refine dN ?_; refine Zp (aT [1, 2, 17] rfl) ?_; refine Xn rfl rfl ?_; refine sR Y1 rfl ?_; refine aN Za ?_; refine T.ret ?_; refine Yi ?_; obtain rfl := ret1 H; exact Zw Za (Res.tmp rfl) Zf ⟨rfl, rfl⟩
 ·
  refine rG Y11 rfl ?_; refine Yp Za Yz Zj rfl ?_; refine Yj Rv Za (fun wc hwc => Z0q (n0 := n0) wc (a2.mono hwc) e4) ?_; rintro _ _ ⟨rfl, rfl⟩; refine Zn Zl ?_; refine Zb Za ?_; refine Zy (t := 10) (b' := false) rfl (decide_eq_false g5) ?_; refine Zb Za ?_; refine Xv (xs := f1) a6.len Zd Kh ?_; refine Zk Za Wz ?_; refine Zm Za Vd Zj rfl ?_; refine Xv (xs := n0.Arcs) a2.len Zd Xw ?_; refine Zn Zl ?_; refine Yw Zd ?_; refine dN ?_; refine Zp (aT [1, 2, 17] rfl) ?_; rcases Zs H with ⟨g6, H⟩ | ⟨g6, H⟩
  · refine Xp rfl g6 ?_; refine sR Y1 rfl ?_; refine aN Za ?_; refine T.ret ?_; refine Yi ?_; obtain rfl := ret1 H; exact Zw Za (Res.tmp rfl) Zf ⟨rfl, rfl⟩
  ·
   refine Xo rfl g6 ?_; refine T.skip ?_; refine Yh ?_; refine Zo ?_; refine sR Y4 rfl ?_; refine Zk Za Wz ?_; refine Zm Za Vd Zj rfl ?_; refine Xv (xs := n0.Arcs) a2.len Zd Xw ?_; refine Zb Za ?_; refine dN ?_; refine Wn (fun (b7 : Unit) => Ra = some r0) (fun (b7 : Unit) => []) (fun (b7 : Unit) => []) ?_ ?_
   ·
    refine T.block ?_; obtain ⟨c9, d0, b8⟩ := Zu H; refine Ri (fun (b0 : Nat) (x7 : Int) => Yu (fun s => Nr n0 f1 s) b0 x7 = some c9) (fun (b0 : Nat) (x7 : Int) => [(1, .slice a7 a8 a9), (19, .slice a5 a3 a4), (20, iV (n0.Arcs.length : Int)), (21, iV x7)]) (fun (b0 : Nat) (x7 : Int) => []) (fun (b0 : Nat) (x7 : Int) => b0) Xc 0 d0 (aF rfl) Zf ?_; rintro b0 x7 H; obtain ⟨d1, d2, rfl, H, b5⟩ := Vb H; have H : Nr n0 f1 x7 = some d2 := H; unfold Nr at H; refine sR Y1 rfl ?_; refine Zn Zl ?_; refine dS ?_; rcases Zs H with ⟨g8, H⟩ | ⟨g8, H⟩
    ·
     refine Xp rfl g8 ?_; refine T.skip ?_; refine Yh ?_; refine Zo ?_; refine T.block ?_; obtain ⟨g9, H⟩ := Yb H; refine sR Y6 rfl ?_; refine Zb Za ?_; refine Xz a2 g9 Zd Xw Wr ?_; refine Kj (cs := [iV ((n0.Arcs.getD x7.toNat default).fr), iV ((n0.Arcs.getD x7.toNat default).to), iV ((n0.Arcs.getD x7.toNat default).cap)]) default a2 g9 Zd Us ?_; refine Wh Ym Kt ?_; intro d4; refine Yq Za ?_; refine Wc Za Ze Wr Ym ?_; refine dN ?_; refine Zo ?_; obtain ⟨b6, H⟩ := Yb H; rcases Zs H with ⟨b9, H⟩ | ⟨b9, H⟩
     · refine Z1p 12 [0, 1, 2, 3, 4, 5, 6, 7, 8, 9, 10, 11] rfl Vm (by kernel_rfl) (by kernel_rfl) rfl (by kernel_rfl) ?_; refine TQ.move Za ?_; refine TQ.move Za ?_; refine Z0p a6 b6 Zd Kh Gt ?_; refine Z00 a6 b6 Za Vp ?_; refine TQ.bin Zl ?_; refine TQ.move Za ?_; refine Z2w (t := 31) (b' := true) rfl (decide_eq_true b9) ?_; refine Jj Za ?_; refine Jj Za ?_; refine Jj Za ?_; refine Jj Za ?_; refine Jj Za ?_; refine Jj Za ?_; refine TQ.tail [12, 13] rr2 ?_; refine Zh Za ?_; refine Yv Zd ?_; refine dN ?_; refine Zp (aT [1, 19, 20, 21, 32, 33, 34, 35, 36, 37, 38, 39] rfl) ?_; refine Xn rfl rfl ?_; refine sR Y1 rfl ?_; refine aN Za ?_; refine Zp (aT [4] rfl) ?_; refine T.ret ?_; refine Xm ?_; refine Yi ?_; have H := Wg H b5 ▸ b8; refine Yi ?_; refine Xm ?_; refine Yi ?_; obtain rfl := ret1 H; exact Zw Za (Res.tmp rfl) Zf ⟨rfl, rfl⟩
     ·
      obtain ⟨c4, H⟩ := Yb H; refine Z1p 12 [0, 1, 2, 3, 4, 5, 6, 7, 8, 9, 10, 11] rfl Vm (by kernel_rfl) (by kernel_rfl) rfl (by kernel_rfl) ?_; refine TQ.move Za ?_; refine TQ.move Za ?_; refine Z0p a6 b6 Zd Kh Gt ?_; refine Z00 a6 b6 Za Vp ?_; refine TQ.bin Zl ?_; refine TQ.move Za ?_; refine Z2w (t := 31) (b' := false) rfl (decide_eq_false b9) ?_; refine TQ.move Za ?_; refine TQ.move Za ?_; refine Z0p a6 c4 Zd Kh Gt ?_; refine Z00 a6 c4 Za Vp ?_; refine Z3p Za Kf ?_; refine TQ.load1 Za Vp Zj rfl ?_; refine TQ.tail [12, 13] rr2 ?_; refine Zn Zl ?_; refine Yw Zd ?_; refine dN ?_; refine Zp (aT [1, 19, 20, 21, 32, 33, 34, 35, 36, 37, 38, 39] rfl) ?_; rcases Zs H with ⟨c3, H⟩ | ⟨c3, H⟩
      · refine Xp rfl c3 ?_; refine sR Y1 rfl ?_; refine aN Za ?_; refine Zp (aT [4] rfl) ?_; refine T.ret ?_; refine Xm ?_; refine Yi ?_; have H := Wg H b5 ▸ b8; refine Yi ?_; refine Xm ?_; refine Yi ?_; obtain rfl := ret1 H; exact Zw Za (Res.tmp rfl) Zf ⟨rfl, rfl⟩
      · refine Xo rfl c3 ?_; refine T.skip ?_; refine Xf ?_; refine Yh ?_; obtain ⟨d3, H⟩ := Yb H; refine rG Y2 rfl ?_; refine Xr d3 Zd ?_; refine Zb Za ?_; refine Zi ?_; have H := Wm H b5; exact Z0e d1 (x7 + 1) H (Nat.lt_succ_self _) (aF rfl) Zf
    · refine Xo rfl g8 ?_; refine T.exit ?_; refine Xg ?_; have H := Wg H b5 ▸ b8; refine Xg ?_; refine Ww ?_; exact Xe () H Js Zf
   · rintro b7 H; unfold Ra at H; refine sR Y1 rfl ?_; refine aN Za ?_; refine T.ret ?_; obtain rfl := ret1 H; exact Zw Za (Res.tmp rfl) Zf ⟨rfl, rfl⟩
theorem Z4v {n0 : Net} {f1 : List Int} {a3 f4 : Option Addr} {a4 a5 f5 f6 : Nat} (w : World) (d1 : RS w [] Yk 3 a3 a4 a5 n0.Arcs) (i7 : RS w [] iC 1 f4 f5 f6 f1) {r0 : CyclesSearch} (H : Z0z n0 f1 = some r0) : Fnc Tryz.prog 110 #[.agg #[iV n0.N, iV n0.S, iV n0.T, .slice a3 a4 a5], .slice f4 f5 f6] w [] (fun v N => ∃ (k9 l0 h8 : Nat) (j9 : List RowB) (g1 : Option Nat) (j5 j6 : Nat) (l1 : List Value) (g2 : Option Nat) (j7 j8 : Nat) (l3 : List Value) (d4 : Option Nat) (e7 e8 : Nat) (i8 : List Value) (d5 : Option Nat) (e9 f0 : Nat) (i9 : List Value), v = pV k9 ∧ N = ((some k9, .cells #[iV r0.n.N, iV r0.n.S, iV r0.n.T, .slice a3 a4 a5, nV l0 h8 h8, sV g1 j5 j6, sV g2 j7 j8, sV d4 e7 e8, sV d5 e9 f0] 197 (0, 0)) :: (eA (some l0) Yo (j9.map RowB.sm) [] 28) :: (eI g1 r0.at_ l1 3) :: (eA g2 boolC r0.done l3 4) :: (eA d4 boolC r0.on i8 4) :: (eI d5 r0.way i9 3) :: Yy 3 j9) ∧ Fam j9 r0.out h8 ∧ r0.at_.length = j5 ∧ j5 ≤ j6 ∧ l1.length = (j6 - j5) * 1 ∧ (g1 = none → j6 = 0) ∧ r0.done.length = j7 ∧ j7 ≤ j8 ∧ l3.length = (j8 - j7) * 1 ∧ (g2 = none → j8 = 0) ∧ r0.on.length = e7 ∧ e7 ≤ e8 ∧ i8.length = (e8 - e7) * 1 ∧ (d4 = none → e8 = 0) ∧ r0.way.length = e9 ∧ e9 ≤ f0 ∧ i9.length = (f0 - e9) * 1 ∧ (d5 = none → f0 = 0)) := by
 unfold Z0z at H; refine Yx (vs := [.agg #[iV n0.N, iV n0.S, iV n0.T, .slice a3 a4 a5], .slice f4 f5 f6]) Tryz.func110 rfl rfl (Inv.refl w) ?_; refine sR Y2 rfl ?_; refine Xj Za ?_; intro b1; refine aN Za ?_; refine Zo ?_; obtain ⟨g3, g6, g9, l6, H⟩ := gd4 H; apply Z2s [rV [] _, rV [] _, rV [1] _, ⟨[2], false, [], fun _ v e => ∃ (b4 : Nat), v = nV b4 n0.N.toNat n0.N.toNat ∧ e = [(eA (some b4) Yo (List.replicate n0.N.toNat (default : SM)) [] 28)]⟩, rV [] _, rV [4] _, ⟨[5], false, [], fun _ v e => ∃ (b7 : Nat), v = nV b7 n0.N.toNat n0.N.toNat ∧ e = [(eI (some b7) (List.replicate n0.N.toNat (0 : Int)) ([]) 3)]⟩, rV [] _, rV [7] _, ⟨[8], false, [], fun _ v e => ∃ (a8 : Nat), v = nV a8 n0.N.toNat n0.N.toNat ∧ e = [(eA (some a8) boolC (List.replicate n0.N.toNat (false : Bool)) ([]) 4)]⟩, rV [] _, rV [10] _, ⟨[11], false, [], fun _ v e => ∃ (a9 : Nat), v = nV a9 n0.N.toNat n0.N.toNat ∧ e = [(eA (some a9) boolC (List.replicate n0.N.toNat (false : Bool)) ([]) 4)]⟩] [8, 9, 10, 11, 12, 13, 14, 15, 16, 17, 18, 19, 20] 13 (HRk [[]]) [[]] [] [(eC b1 #[iV n0.N, iV n0.S, iV n0.T, .slice a3 a4 a5] 24)]
 · exact Vm
 · exact rfl
 · kernel_rfl
 · kernel_rfl
 · kernel_rfl
 · exact rfl
 · exact rfl
 · exact rfl
 · exact rfl
 · exact Ws (by repeat constructor)
 ·
  refine ⟨?_, ?_, ?_, ?_, ?_, ?_, ?_, ?_, ?_, ?_, ?_, ?_, ?_, trivial⟩
  · rintro vs es Es Hx -; refine Zv (D := []) rfl ?_; refine Yp Za Yz Zj rfl ?_; refine Zi ?_; exact Yc rfl ⟨rfl, rfl⟩ (Ya _) rfl
  · rintro vs es Es Hx -; refine Zv (D := []) rfl ?_; refine Zk Za Wl ?_; refine Zi ?_; exact Yc rfl ⟨rfl, rfl⟩ (Ya _) rfl
  · rintro vs es Es Hx ⟨⟨d6, f2⟩, -⟩; refine Zv (D := [(9, vs 1)]) rfl ?_; rw [d6]; refine Zm Za Zx Zj rfl ?_; refine Zi ?_; exact Yc rfl ⟨rfl, rfl⟩ (Ya _) (by show [(9, vs 1)] = _; rw [d6])
  · rintro vs es Es Hx ⟨⟨d7, g4⟩, -⟩; refine Zv (D := [(10, vs 2)]) rfl ?_; rw [d7]; refine TO.mkS (f := Yo) (zc := (default : SM)) g3 rr8 Kv Jd Z3u Z5t rfl ?_; intro b4; refine Zi ?_; exact Yc rfl ⟨b4, rfl, rfl⟩ (Ws (by repeat constructor)) (by show [(10, vs 2)] = _; rw [d7])
  · rintro vs es Es Hx -; refine Zv (D := []) rfl ?_; refine Zk Za Wl ?_; refine Zi ?_; exact Yc rfl ⟨rfl, rfl⟩ (Ya _) rfl
  · rintro vs es Es Hx ⟨⟨d8, g5⟩, -⟩; refine Zv (D := [(12, vs 4)]) rfl ?_; rw [d8]; refine Zm Za Zx Zj rfl ?_; refine Zi ?_; exact Yc rfl ⟨rfl, rfl⟩ (Ya _) (by show [(12, vs 4)] = _; rw [d8])
  · rintro vs es Es Hx ⟨⟨f7, h9⟩, -⟩; refine Zv (D := [(13, vs 5)]) rfl ?_; rw [f7]; refine TO.mkI g6 Zd Xa Xb Uz Rj rfl ?_; intro b7; refine Zi ?_; exact Yc rfl ⟨b7, rfl, rfl⟩ (Ws (by repeat constructor)) (by show [(13, vs 5)] = _; rw [f7])
  · rintro vs es Es Hx -; refine Zv (D := []) rfl ?_; refine Zk Za Wl ?_; refine Zi ?_; exact Yc rfl ⟨rfl, rfl⟩ (Ya _) rfl
  · rintro vs es Es Hx ⟨⟨d9, g7⟩, -⟩; refine Zv (D := [(15, vs 7)]) rfl ?_; rw [d9]; refine Zm Za Zx Zj rfl ?_; refine Zi ?_; exact Yc rfl ⟨rfl, rfl⟩ (Ya _) (by show [(15, vs 7)] = _; rw [d9])
  · rintro vs es Es Hx ⟨⟨e0, g8⟩, -⟩; refine Zv (D := [(16, vs 8)]) rfl ?_; rw [e0]; refine TO.mkB g9 Zd Nv Z1z Z30 Z2h rfl ?_; intro a8; refine Zi ?_; exact Yc rfl ⟨a8, rfl, rfl⟩ (Ws (by repeat constructor)) (by show [(16, vs 8)] = _; rw [e0])
  · rintro vs es Es Hx -; refine Zv (D := []) rfl ?_; refine Zk Za Wl ?_; refine Zi ?_; exact Yc rfl ⟨rfl, rfl⟩ (Ya _) rfl
  · rintro vs es Es Hx ⟨⟨b0, d0⟩, -⟩; refine Zv (D := [(18, vs 10)]) rfl ?_; rw [b0]; refine Zm Za Zx Zj rfl ?_; refine Zi ?_; exact Yc rfl ⟨rfl, rfl⟩ (Ya _) (by show [(18, vs 10)] = _; rw [b0])
  · rintro vs es Es Hx ⟨⟨a7, b9⟩, -⟩; refine Zv (D := [(19, vs 11)]) rfl ?_; rw [a7]; refine TO.mkB l6 Zd Nv Z1z Z30 Z2h rfl ?_; intro a9; refine Zi ?_; exact Yc rfl ⟨a9, rfl, rfl⟩ (Ws (by repeat constructor)) (by show [(19, vs 11)] = _; rw [a7])
 ·
  rintro vs es hb ⟨⟨f8, i0⟩, ⟨d6, f2⟩, ⟨d7, g4⟩, ⟨b4, j0, j1⟩, ⟨d8, g5⟩, ⟨f7, h9⟩, ⟨b7, f9, i2⟩, ⟨d9, g7⟩, ⟨e0, g8⟩, ⟨a8, e1, h0⟩, ⟨b0, d0⟩, ⟨a7, b9⟩, ⟨a9, c3, d2⟩, -⟩ hHR; obtain rfl : hb = [] := hHR; refine Zv (D := [(8, vs 0), (9, vs 1), (10, vs 2), (11, vs 3), (12, vs 4), (13, vs 5), (14, vs 6), (15, vs 7), (16, vs 8), (17, vs 9), (18, vs 10), (19, vs 11), (20, vs 12)]) rfl ?_; refine Kl (H := _ ++ (_ ++ (es 0 ++ (es 1 ++ (es 2 ++ (es 3 ++ (es 4 ++ (es 5 ++ (es 6 ++ (es 7 ++ (es 8 ++ (es 9 ++ (es 10 ++ (es 11 ++ (es 12 ++ ([])))))))))))))))) rfl ?_; rw [i0, f2, g4, j1, g5, h9, i2, g7, g8, h0, d0, b9, d2]; rw [f8, d6, d7, j0, d8, f7, f9, d9, e0, e1, b0, a7, c3]; clear c3 a7 b0 e1 e0 d9 f9 f7 d8 j0 d7 d6 f8 i0 f2 g4 j1 g5 h9 i2 g7 g8 h0 d0 b9 d2; refine Wd (t := 197) [iV 0, iV 0, iV 0, .slice none 0 0, .slice none 0 0, .slice none 0 0, .slice none 0 0, .slice none 0 0, .slice none 0 0] [0, 4, 5, 6, 7, 8] Za (by simp only [Xh, setCells, Value.cells, List.toList_toArray, List.getD_cons_zero, List.getD_cons_succ, List.set_cons_zero, List.set_cons_succ]; rfl) (by kernel_rfl) ?_; refine Xj Za ?_; intro d3; refine Yq Za ?_; refine Zi ?_; refine X.addFam (T := 3) (n := n0.N.toNat) Xk ?_; refine Z1u (H := ((some b4, .cells (arr Yo ((List.replicate n0.N.toNat (default : RowB)).map RowB.sm) []).toArray 28 (0, 0)) :: (eC d3 #[iV n0.N, iV n0.S, iV n0.T, .slice a3 a4 a5, nV b4 n0.N.toNat n0.N.toNat, nV b7 n0.N.toNat n0.N.toNat, nV a8 n0.N.toNat n0.N.toNat, nV a9 n0.N.toNat n0.N.toNat, .slice none 0 0] 197) :: (eC b1 #[iV n0.N, iV n0.S, iV n0.T, .slice a3 a4 a5] 24) :: (eI (some b7) (List.replicate n0.N.toNat (0 : Int)) ([]) 3) :: (eA (some a8) boolC (List.replicate n0.N.toNat (false : Bool)) ([]) 4) :: (eA (some a9) boolC (List.replicate n0.N.toNat (false : Bool)) ([]) 4) :: Yy 3 (List.replicate n0.N.toNat (default : RowB)))) rfl ?_; refine Yh ?_; refine Zp (aT [1, 2, 5] rfl) ?_; refine Zo ?_; refine sR Y4 rfl ?_; refine Zk Za Wz ?_; refine Zm Za Vd mm2 rfl ?_; refine Xv (xs := n0.Arcs) d1.len Zd Xw ?_; refine Zb Za ?_; refine dN ?_; refine Z58 (fun (c4 : List (List Int)) (h1 : List RowB) => Ru n0 c4 = some r0 ∧ Fam h1 c4 n0.N.toNat) (fun (c4 : List (List Int)) (h1 : List RowB) => [(5, pV d3)]) (fun (c4 : List (List Int)) (h1 : List RowB) => ((some d3, .cells #[iV n0.N, iV n0.S, iV n0.T, .slice a3 a4 a5, nV b4 n0.N.toNat n0.N.toNat, nV b7 n0.N.toNat n0.N.toNat, nV a8 n0.N.toNat n0.N.toNat, nV a9 n0.N.toNat n0.N.toNat, .slice none 0 0] 197 (0, 0)) :: (eA (some b4) Yo (h1.map RowB.sm) [] 28) :: (eI (some b7) (List.replicate n0.N.toNat (0 : Int)) ([]) 3) :: (eA (some a8) boolC (List.replicate n0.N.toNat (false : Bool)) ([]) 4) :: (eA (some a9) boolC (List.replicate n0.N.toNat (false : Bool)) ([]) 4) :: Yy 3 h1)) ?_ ?_
  ·
   refine T.block ?_; obtain ⟨l7, f2, l8⟩ := Zu H; refine T.loopE4 (fun (i4 : Nat) (a2 : List (List Int)) (b6 : List RowB) (a6 : Int) => Yu (fun s => Lo n0 f1 s.1 s.2) i4 (a2, a6) = some l7 ∧ Fam b6 a2 n0.N.toNat) (fun (i4 : Nat) (a2 : List (List Int)) (b6 : List RowB) (a6 : Int) => [(1, .slice f4 f5 f6), (5, pV d3), (24, .slice a3 a4 a5), (25, iV (n0.Arcs.length : Int)), (26, iV a6)]) (fun (i4 : Nat) (a2 : List (List Int)) (b6 : List RowB) (a6 : Int) => ((some d3, .cells #[iV n0.N, iV n0.S, iV n0.T, .slice a3 a4 a5, nV b4 n0.N.toNat n0.N.toNat, nV b7 n0.N.toNat n0.N.toNat, nV a8 n0.N.toNat n0.N.toNat, nV a9 n0.N.toNat n0.N.toNat, .slice none 0 0] 197 (0, 0)) :: (eA (some b4) Yo (b6.map RowB.sm) [] 28) :: (eI (some b7) (List.replicate n0.N.toNat (0 : Int)) ([]) 3) :: (eA (some a8) boolC (List.replicate n0.N.toNat (false : Bool)) ([]) 4) :: (eA (some a9) boolC (List.replicate n0.N.toNat (false : Bool)) ([]) 4) :: Yy 3 b6)) (fun (i4 : Nat) (a2 : List (List Int)) (b6 : List RowB) (a6 : Int) => i4) Xc (List.replicate n0.N.toNat ([] : List Int)) (List.replicate n0.N.toNat (default : RowB)) 0 ⟨f2, (Fam.replicate n0.N.toNat)⟩ (aF rfl) (Zc Zt (Zc Ze (Zc Zt (Zc Zt (Zc Zt (Pick.skip (Ya _))))))) ?_; rintro i4 a2 b6 a6 ⟨H, b8⟩; obtain ⟨h8, l9, rfl, H, k1⟩ := Vb H; have H : Lo n0 f1 a2 a6 = some l9 := H; unfold Lo at H; refine sR Y1 rfl ?_; refine Zn Zl ?_; refine dS ?_; rcases Zs H with ⟨k2, H⟩ | ⟨k2, H⟩
   ·
    refine Xp rfl k2 ?_; refine T.skip ?_; refine Yh ?_; refine Zo ?_; refine T.block ?_; obtain ⟨l4, H⟩ := Yb H; refine sR Y6 rfl ?_; refine Zb Za ?_; refine Xz d1 l4 Zd Xw Wr ?_; refine Kj (cs := [iV ((n0.Arcs.getD a6.toNat default).fr), iV ((n0.Arcs.getD a6.toNat default).to), iV ((n0.Arcs.getD a6.toNat default).cap)]) default d1 l4 Zd Us ?_; refine Wh Ym Kt ?_; intro i5; refine Yq Za ?_; refine Wc Za Ze Wr Ym ?_; refine dN ?_; obtain ⟨l5, H⟩ := Yb H; refine sR Y5 rfl ?_; refine Zb Za ?_; refine Zb Za ?_; refine Xz i7 l5 Zd Kh Gt ?_; refine Ue i7 l5 Za Vp ?_; refine Zn Zl ?_; refine dN ?_; refine Zp (aT [1, 5, 24, 25, 26, 7, 6, 35] rfl) ?_; rcases Zs H with ⟨k3, H⟩ | ⟨k3, H⟩
    ·
     refine Xp rfl k3 ?_; obtain ⟨i6, H⟩ := Yb H; refine Z4e (L := b6) (Es := [(eC i5 #[iV ((n0.Arcs.getD a6.toNat default).fr), iV ((n0.Arcs.getD a6.toNat default).to), iV ((n0.Arcs.getD a6.toNat default).cap)] 55), (eC d3 #[iV n0.N, iV n0.S, iV n0.T, .slice a3 a4 a5, nV b4 n0.N.toNat n0.N.toNat, nV b7 n0.N.toNat n0.N.toNat, nV a8 n0.N.toNat n0.N.toNat, nV a9 n0.N.toNat n0.N.toNat, .slice none 0 0] 197), (eA (some b4) Yo (b6.map RowB.sm) [] 28), (eI (some b7) (List.replicate n0.N.toNat (0 : Int)) ([]) 3), (eA (some a8) boolC (List.replicate n0.N.toNat (false : Bool)) ([]) 4), (eA (some a9) boolC (List.replicate n0.N.toNat (false : Bool)) ([]) 4)]) b8 (Wv i6) rfl ?_; intro c9 g0 m0 h2 j2 k4 k5 k6 k7; refine T.reheap (H := ((eI c9 (a2.getD ((n0.Arcs.getD a6.toNat default).fr).toNat []) h2 3) :: (eC i5 #[iV ((n0.Arcs.getD a6.toNat default).fr), iV ((n0.Arcs.getD a6.toNat default).to), iV ((n0.Arcs.getD a6.toNat default).cap)] 55) :: (eC d3 #[iV n0.N, iV n0.S, iV n0.T, .slice a3 a4 a5, nV b4 n0.N.toNat n0.N.toNat, nV b7 n0.N.toNat n0.N.toNat, nV a8 n0.N.toNat n0.N.toNat, nV a9 n0.N.toNat n0.N.toNat, .slice none 0 0] 197) :: (eA (some b4) Yo (b6.map RowB.sm) [] 28) :: (eI (some b7) (List.replicate n0.N.toNat (0 : Int)) ([]) 3) :: (eA (some a8) boolC (List.replicate n0.N.toNat (false : Bool)) ([]) 4) :: (eA (some a9) boolC (List.replicate n0.N.toNat (false : Bool)) ([]) 4) :: Yy 3 (b6.eraseIdx ((n0.Arcs.getD a6.toNat default).fr).toNat))) rfl ?_; obtain ⟨m1, H⟩ := Yb H; apply Z3w [rV [] _, rV [0] _, rV [1] _, rV [2] _, rV [] _, rV [4] _, rV [] _, rV [6] _, rV [7] _, rV [8] _, rV [] _, rV [10] _, rV [9, 11] _, ⟨[9, 11, 12], true, [], fun _ v e => v = sV c9 g0 m0 ∧ e = [(eI c9 (a2.getD ((n0.Arcs.getD a6.toNat default).fr).toNat []) h2 3)]⟩, rV [] _, ⟨[14], false, [], fun _ v e => ∃ (f3 : Nat), v = nV f3 1 1 ∧ e = [(eI (some f3) ([a6]) ([]) 3)]⟩, ⟨[13, 15], false, [13], fun _ v e => ∃ (b5 : Option Nat) (c42 : Nat) (e6 : List Value), v = sV b5 (g0 + 1) c42 ∧ e = [(eI b5 ((a2.getD ((n0.Arcs.getD a6.toNat default).fr).toNat []) ++ ([a6])) e6 3)] ∧ (g0 + 1) ≤ c42 ∧ e6.length = (c42 - (g0 + 1)) * 1 ∧ (b5 = none → c42 = 0)⟩] [36, 37, 38, 39, 40, 41, 42, 43, 44, 45, 46, 47, 48, 49, 50, 51, 52] 17 (HRk [[(eI c9 (a2.getD ((n0.Arcs.getD a6.toNat default).fr).toNat []) h2 3)], []]) [[], []] [(eI c9 (a2.getD ((n0.Arcs.getD a6.toNat default).fr).toNat []) h2 3)] [(eC i5 #[iV ((n0.Arcs.getD a6.toNat default).fr), iV ((n0.Arcs.getD a6.toNat default).to), iV ((n0.Arcs.getD a6.toNat default).cap)] 55), (eC d3 #[iV n0.N, iV n0.S, iV n0.T, .slice a3 a4 a5, nV b4 n0.N.toNat n0.N.toNat, nV b7 n0.N.toNat n0.N.toNat, nV a8 n0.N.toNat n0.N.toNat, nV a9 n0.N.toNat n0.N.toNat, .slice none 0 0] 197), (eA (some b4) Yo (b6.map RowB.sm) [] 28), (eI (some b7) (List.replicate n0.N.toNat (0 : Int)) ([]) 3), (eA (some a8) boolC (List.replicate n0.N.toNat (false : Bool)) ([]) 4), (eA (some a9) boolC (List.replicate n0.N.toNat (false : Bool)) ([]) 4)] (Yy 3 (b6.eraseIdx ((n0.Arcs.getD a6.toNat default).fr).toNat))
     · exact Vm
     · exact rfl
     · kernel_rfl
     · kernel_rfl
     · kernel_rfl
     · exact rfl
     · exact rfl
     · exact rfl
     · exact rfl
     · exact Ws (by repeat constructor)
     ·
      refine ⟨?_, ?_, ?_, ?_, ?_, ?_, ?_, ?_, ?_, ?_, ?_, ?_, ?_, ?_, ?_, ?_, ?_, trivial⟩
      · rintro vs es Es Hx -; refine Zv (D := []) rfl ?_; refine Zb Za ?_; refine Zi ?_; exact Yc rfl ⟨rfl, rfl⟩ (Ya _) rfl
      · rintro vs es Es Hx ⟨⟨f8, i0⟩, -⟩; refine Zv (D := [(36, vs 0)]) rfl ?_; rw [f8]; refine TO.nilCheck Za ?_; refine Zi ?_; exact Yc rfl ⟨rfl, rfl⟩ (Ya _) (by show [(36, vs 0)] = _; rw [f8])
      · rintro vs es Es Hx ⟨⟨d6, f2⟩, -⟩; refine Zv (D := [(37, vs 1)]) rfl ?_; rw [d6]; refine Zk Za Nl ?_; refine Zi ?_; exact Yc rfl ⟨rfl, rfl⟩ (Ya _) (by show [(37, vs 1)] = _; rw [d6])
      · rintro vs es Es Hx ⟨⟨d7, g4⟩, -⟩; refine Zv (D := [(38, vs 2)]) rfl ?_; rw [d7]; refine Zm Za Ls Wb rfl ?_; refine Zi ?_; exact Yc rfl ⟨rfl, rfl⟩ (Ya _) (by show [(38, vs 2)] = _; rw [d7])
      · rintro vs es Es Hx -; refine Zv (D := []) rfl ?_; refine Zk Za Jr ?_; refine Zi ?_; exact Yc rfl ⟨rfl, rfl⟩ (Ya _) rfl
      · rintro vs es Es Hx ⟨⟨d8, g5⟩, -⟩; refine Zv (D := [(40, vs 4)]) rfl ?_; rw [d8]; refine Zm Za Zx Zj rfl ?_; refine Zi ?_; exact Yc rfl ⟨rfl, rfl⟩ (Ya _) (by show [(40, vs 4)] = _; rw [d8])
      · rintro vs es Es Hx -; refine Zv (D := []) rfl ?_; refine Zb Za ?_; refine Zi ?_; exact Yc rfl ⟨rfl, rfl⟩ (Ya _) rfl
      · rintro vs es Es Hx ⟨⟨f9, i2⟩, -⟩; refine Zv (D := [(42, vs 6)]) rfl ?_; rw [f9]; refine TO.nilCheck Za ?_; refine Zi ?_; exact Yc rfl ⟨rfl, rfl⟩ (Ya _) (by show [(42, vs 6)] = _; rw [f9])
      · rintro vs es Es Hx ⟨⟨d9, g7⟩, -⟩; refine Zv (D := [(43, vs 7)]) rfl ?_; rw [d9]; refine Zk Za Nl ?_; refine Zi ?_; exact Yc rfl ⟨rfl, rfl⟩ (Ya _) (by show [(43, vs 7)] = _; rw [d9])
      · rintro vs es Es Hx ⟨⟨e0, g8⟩, -⟩; refine Zv (D := [(44, vs 8)]) rfl ?_; rw [e0]; refine Zm Za Ls Wb rfl ?_; refine Zi ?_; exact Yc rfl ⟨rfl, rfl⟩ (Ya _) (by show [(44, vs 8)] = _; rw [e0])
      · rintro vs es Es Hx -; refine Zv (D := []) rfl ?_; refine Zk Za Jr ?_; refine Zi ?_; exact Yc rfl ⟨rfl, rfl⟩ (Ya _) rfl
      · rintro vs es Es Hx ⟨⟨b0, d0⟩, -⟩; refine Zv (D := [(46, vs 10)]) rfl ?_; rw [b0]; refine Zm Za Zx Zj rfl ?_; refine Zi ?_; exact Yc rfl ⟨rfl, rfl⟩ (Ya _) (by show [(46, vs 10)] = _; rw [b0])
      · rintro vs es Es Hx ⟨⟨e1, h0⟩, ⟨a7, b9⟩, -⟩; refine Zv (D := [(45, vs 9), (47, vs 11)]) rfl ?_; rw [e1, a7]; refine Ul (xs := a2) b8.len i6 Zd Kv Jd ?_; refine Zi ?_; exact Yc rfl ⟨rfl, rfl⟩ (Ya _) (by show [(45, vs 9), (47, vs 11)] = _; rw [e1, a7])
      · rintro vs es Es Hx hb ⟨⟨e1, h0⟩, ⟨a7, b9⟩, ⟨c3, d2⟩, -⟩ hHR; obtain rfl : hb = [(eI c9 (a2.getD ((n0.Arcs.getD a6.toNat default).fr).toNat []) h2 3)] := hHR; refine Zv (D := [(45, vs 9), (47, vs 11), (48, vs 12)]) rfl ?_; rw [e1, a7, c3]; refine TO.ldWO k7 (b8.inb i6) Za Z08 mm3 ?_; refine Zi ?_; exact X.obEt (hb' := []) (e' := [(eI c9 (a2.getD ((n0.Arcs.getD a6.toNat default).fr).toNat []) h2 3)]) rfl ⟨rfl, rfl⟩ rfl (Ws (by repeat constructor)) (by show [(45, vs 9), (47, vs 11), (48, vs 12)] = _; rw [e1, a7, c3])
      · rintro vs es Es Hx -; refine Zv (D := []) rfl ?_; refine Zb Za ?_; refine Zi ?_; exact Yc rfl ⟨rfl, rfl⟩ (Ya _) rfl
      · rintro vs es Es Hx ⟨⟨e2, h3⟩, -⟩; refine Zv (D := [(50, vs 14)]) rfl ?_; rw [e2]; refine Gm [iV 0] [0] Za Xa Xb Uz rr2 (by simp only [Xh, setCells, Value.cells, List.toList_toArray, List.getD_cons_zero, List.getD_cons_succ, List.set_cons_zero, List.set_cons_succ]; rfl) (by kernel_rfl) ?_; intro f3; refine Zi ?_; exact Yc rfl ⟨f3, rfl, rfl⟩ (Ws (by repeat constructor)) (by show [(50, vs 14)] = _; rw [e2])
      · rintro vs es Es Hx ⟨⟨e3, h4⟩, ⟨f3, e4, e5⟩, -⟩; refine Zv (D := [(49, vs 13), (51, vs 15)]) rfl ?_; rw [e3, e4]; refine Kl (H := _ ++ ((es 13 ++ (es 15 ++ ([]))) ++ _)) rfl ?_; rw [h4, e5]; refine TO.app (f := iC) (s := 1) (xs := (a2.getD ((n0.Arcs.getD a6.toNat default).fr).toNat [])) (ob := c9) (j := h2) (ys := [a6]) (fun _ => rfl) (fun _ => rfl) Z0r m1 Zd tk6 j2 k4 k5 k6 (fun wc hwc => (hwc.rs (f := iC) (s := 1) (xs := [a6]) (j := ([])) (fun _ => rfl) mm7 rfl (Nat.le_refl _) Up)) ?_; intro b5 c42 e6 h5 h6 h7; refine Zi ?_; exact Yc rfl ⟨b5, c42, e6, rfl, rfl, h5, h6, h7⟩ (by show Pick (_ ++ (_ ++ ((es 15 ++ ([])) ++ _))) _; rw [e5]; exact Ws (by repeat constructor)) (by show [(49, vs 13), (51, vs 15)] = _; rw [e3, e4])
     · rintro vs es hb ⟨⟨f8, i0⟩, ⟨d6, f2⟩, ⟨d7, g4⟩, ⟨j0, j1⟩, ⟨d8, g5⟩, ⟨f7, h9⟩, ⟨f9, i2⟩, ⟨d9, g7⟩, ⟨e0, g8⟩, ⟨e1, h0⟩, ⟨b0, d0⟩, ⟨a7, b9⟩, ⟨c3, d2⟩, ⟨e3, h4⟩, ⟨e2, h3⟩, ⟨f3, e4, e5⟩, ⟨b5, c42, e6, j3, j4, h5, h6, h7⟩, -⟩ hHR; obtain rfl : hb = [] := hHR; refine Zv (D := [(36, vs 0), (37, vs 1), (38, vs 2), (39, vs 3), (40, vs 4), (41, vs 5), (42, vs 6), (43, vs 7), (44, vs 8), (45, vs 9), (46, vs 10), (47, vs 11), (48, vs 12), (49, vs 13), (50, vs 14), (51, vs 15), (52, vs 16)]) rfl ?_; refine Kl (H := [(eC i5 #[iV ((n0.Arcs.getD a6.toNat default).fr), iV ((n0.Arcs.getD a6.toNat default).to), iV ((n0.Arcs.getD a6.toNat default).cap)] 55), (eC d3 #[iV n0.N, iV n0.S, iV n0.T, .slice a3 a4 a5, nV b4 n0.N.toNat n0.N.toNat, nV b7 n0.N.toNat n0.N.toNat, nV a8 n0.N.toNat n0.N.toNat, nV a9 n0.N.toNat n0.N.toNat, .slice none 0 0] 197), (eA (some b4) Yo (b6.map RowB.sm) [] 28), (eI (some b7) (List.replicate n0.N.toNat (0 : Int)) ([]) 3), (eA (some a8) boolC (List.replicate n0.N.toNat (false : Bool)) ([]) 4), (eA (some a9) boolC (List.replicate n0.N.toNat (false : Bool)) ([]) 4), (eI (some f3) ([a6]) ([]) 3), (eI b5 ((a2.getD ((n0.Arcs.getD a6.toNat default).fr).toNat []) ++ ([a6])) e6 3)] ++ (Yy 3 (b6.eraseIdx ((n0.Arcs.getD a6.toNat default).fr).toNat))) (by show (_ ++ (_ ++ (es 0 ++ (es 1 ++ (es 2 ++ (es 3 ++ (es 4 ++ (es 5 ++ (es 6 ++ (es 7 ++ (es 8 ++ (es 9 ++ (es 10 ++ (es 11 ++ (es 12 ++ (es 14 ++ (es 15 ++ (es 16 ++ ([]))))))))))))))))))) ++ _ = _; rw [i0, f2, g4, j1, g5, h9, i2, g7, g8, h0, d0, b9, d2, h3, e5, j4]; rfl) ?_; rw [f8, d6, d7, j0, d8, f7, f9, d9, e0, e1, b0, a7, c3, e3, e2, e4, j3]; clear j3 e4 e2 e3 c3 a7 b0 e1 e0 d9 f9 f7 d8 j0 d7 d6 f8 i0 f2 g4 j1 g5 h9 i2 g7 g8 h0 d0 b9 d2 h4 h3 e5 j4; refine Ul (xs := a2) b8.len i6 Zd Kv Jd ?_; refine TO.stWO (b8.inb i6) Za Xk Jd ?_; refine Zi ?_; refine Z3o (T := 3) (r := ⟨b5, ((a2.getD ((n0.Arcs.getD a6.toNat default).fr).toNat []) ++ ([a6])), (g0 + 1), c42, e6⟩) (Es := [(eC i5 #[iV ((n0.Arcs.getD a6.toNat default).fr), iV ((n0.Arcs.getD a6.toNat default).to), iV ((n0.Arcs.getD a6.toNat default).cap)] 55), (eC d3 #[iV n0.N, iV n0.S, iV n0.T, .slice a3 a4 a5, nV b4 n0.N.toNat n0.N.toNat, nV b7 n0.N.toNat n0.N.toNat, nV a8 n0.N.toNat n0.N.toNat, nV a9 n0.N.toNat n0.N.toNat, .slice none 0 0] 197), (eI (some b7) (List.replicate n0.N.toNat (0 : Int)) ([]) 3), (eA (some a8) boolC (List.replicate n0.N.toNat (false : Bool)) ([]) 4), (eA (some a9) boolC (List.replicate n0.N.toNat (false : Bool)) ([]) 4), (eI (some f3) ([a6]) ([]) 3)]) b8 (Wv i6) (Zc tk7 (Zc Ze (Zc Ze (Zc Ze (Zc Ze (Zc Ze (Zc Ze (Zc Ze (Ya _))))))))) ?_; refine Z1u (H := ((some b4, .cells (arr Yo ((b6.set ((n0.Arcs.getD a6.toNat default).fr).toNat ⟨b5, ((a2.getD ((n0.Arcs.getD a6.toNat default).fr).toNat []) ++ ([a6])), (g0 + 1), c42, e6⟩).map RowB.sm) []).toArray 28 (0, 0)) :: (eC i5 #[iV ((n0.Arcs.getD a6.toNat default).fr), iV ((n0.Arcs.getD a6.toNat default).to), iV ((n0.Arcs.getD a6.toNat default).cap)] 55) :: (eC d3 #[iV n0.N, iV n0.S, iV n0.T, .slice a3 a4 a5, nV b4 n0.N.toNat n0.N.toNat, nV b7 n0.N.toNat n0.N.toNat, nV a8 n0.N.toNat n0.N.toNat, nV a9 n0.N.toNat n0.N.toNat, .slice none 0 0] 197) :: (eI (some b7) (List.replicate n0.N.toNat (0 : Int)) ([]) 3) :: (eA (some a8) boolC (List.replicate n0.N.toNat (false : Bool)) ([]) 4) :: (eA (some a9) boolC (List.replicate n0.N.toNat (false : Bool)) ([]) 4) :: (eI (some f3) ([a6]) ([]) 3) :: Yy 3 (b6.set ((n0.Arcs.getD a6.toNat default).fr).toNat ⟨b5, ((a2.getD ((n0.Arcs.getD a6.toNat default).fr).toNat []) ++ ([a6])), (g0 + 1), c42, e6⟩))) rfl ?_; refine Xf ?_; refine Yh ?_; refine Zp (aT [1, 5, 24, 25, 26] rfl) ?_; obtain ⟨m2, H⟩ := Yb H; refine rG Y2 rfl ?_; refine Xr m2 Zd ?_; refine Zb Za ?_; refine Zi ?_; have H := Wm H k1; exact Z1a h8 (a2.set ((n0.Arcs.getD a6.toNat default).fr).toNat ((a2.getD ((n0.Arcs.getD a6.toNat default).fr).toNat []) ++ ([a6]))) (b6.set ((n0.Arcs.getD a6.toNat default).fr).toNat ⟨b5, ((a2.getD ((n0.Arcs.getD a6.toNat default).fr).toNat []) ++ ([a6])), (g0 + 1), c42, e6⟩) (a6 + 1) ⟨H, (Fam.set b8 (Z5v (Kk j2 rfl) h5 h6 h7))⟩ (Nat.lt_succ_self _) (aF rfl) (Zc Xk (Zc Ze (Zc Zt (Zc Zt (Zc Zt (Pick.skip (Pick.skip (Ya _))))))))
    · refine Xo rfl k3 ?_; refine T.skip ?_; refine Xf ?_; refine Yh ?_; obtain ⟨m3, H⟩ := Yb H; refine rG Y2 rfl ?_; refine Xr m3 Zd ?_; refine Zb Za ?_; refine Zi ?_; have H := Wm H k1; exact Z1a h8 a2 b6 (a6 + 1) ⟨H, b8⟩ (Nat.lt_succ_self _) (aF rfl) (Zc Zt (Zc Zt (Zc Zt (Zc Zt (Zc Zt (Pick.skip (Ya _)))))))
   · refine Xo rfl k2 ?_; refine T.exit ?_; refine Xg ?_; have H := Wg H k1 ▸ l8; refine Xg ?_; refine Ww ?_; exact X.metE2 a2 b6 ⟨H, b8⟩ (aF rfl) (Zc Ze (Zc Ze (Zc Ze (Zc Ze (Zc Ze (Ya _))))))
  · rintro c4 h1 ⟨H, k8⟩; unfold Ru at H; refine sR Y2 rfl ?_; refine Zb Za ?_; refine aN Za ?_; refine T.ret ?_; obtain rfl := ret1 H; exact Zw Za (Res.tmp rfl) (Zc Ze (Zc Ze (Zc Ze (Zc Ze (Zc Ze (Pick.none (Ya _))))))) ⟨d3, b4, n0.N.toNat, h1, (some b7), n0.N.toNat, n0.N.toNat, ([]), (some a8), n0.N.toNat, n0.N.toNat, ([]), (some a9), n0.N.toNat, n0.N.toNat, ([]), none, 0, 0, ([]), rfl, rfl, k8, List.length_replicate, (Nat.le_refl _), (Vg _ _), Up, List.length_replicate, (Nat.le_refl _), (Vg _ _), Up, List.length_replicate, (Nat.le_refl _), (Vg _ _), Up, rfl, (Nat.le_refl _), (Vg 0 _), (fun _ => rfl)⟩
theorem Gg {x0 : Int} (w : World) {r0 : Bool} (H : Ni x0 = some r0) : Fnc Tryz.prog 172 #[iV x0] w [] (fun v N => v = .bool r0 ∧ N = []) := by
 unfold Ni at H; refine Yx (vs := [iV x0]) Tryz.func172 rfl rfl (Inv.refl w) ?_; refine sR Y1 rfl ?_; refine aN Za ?_; refine sR Y4 rfl ?_; refine Zb Za ?_; refine Zb Za ?_; refine Zn Zl ?_; refine aN Za ?_; refine T.ret ?_; obtain rfl := ret1 H; exact Zw Za (Res.tmp rfl) Zf ⟨rfl, rfl⟩
theorem Z5r {x0 y1 : Int} (w : World) {r0 : Bool} (H : Z07 x0 y1 = some r0) : Fnc Tryz.prog 122 #[iV x0, iV y1] w [] (fun v N => v = .bool r0 ∧ N = []) := by
 unfold Z07 at H; refine Yx (vs := [iV x0, iV y1]) Tryz.func122 rfl rfl (Inv.refl w) ?_; refine sR Y1 rfl ?_; refine aN Za ?_; refine Zo ?_; obtain ⟨r1, e2, H⟩ := Zu H; rcases Zs H with ⟨g3, H⟩ | ⟨g3, H⟩
 ·
  obtain ⟨r4, e5, H⟩ := Zu H; rcases Zs H with ⟨g6, H⟩ | ⟨g6, H⟩
  · refine rG Y13 rfl ?_; refine Zb Za ?_; refine Yj Jw Za (fun wc hwc => Gg (x0 := x0) wc  e2) ?_; rintro _ _ ⟨rfl, rfl⟩; refine Zb Za ?_; refine Zy (t := 7) (b' := true) rfl g3 ?_; refine Zb Za ?_; refine Yj Jw Za (fun wc hwc => Gg (x0 := y1) wc  e5) ?_; rintro _ _ ⟨rfl, rfl⟩; refine TO.not Za ?_; refine Yv Zd ?_; refine Zb Za ?_; refine Zy (t := 12) (b' := true) rfl g6 ?_; refine Zh Za ?_; refine Zh Za ?_; refine Zh Za ?_; refine Yv Zd ?_; refine aN Za ?_; refine Zp (aT [4] rfl) ?_; refine T.ret ?_; obtain rfl := ret1 H; exact Zw Za (Res.tmp rfl) Zf ⟨rfl, rfl⟩
  · refine rG Y13 rfl ?_; refine Zb Za ?_; refine Yj Jw Za (fun wc hwc => Gg (x0 := x0) wc  e2) ?_; rintro _ _ ⟨rfl, rfl⟩; refine Zb Za ?_; refine Zy (t := 7) (b' := true) rfl g3 ?_; refine Zb Za ?_; refine Yj Jw Za (fun wc hwc => Gg (x0 := y1) wc  e5) ?_; rintro _ _ ⟨rfl, rfl⟩; refine TO.not Za ?_; refine Yv Zd ?_; refine Zb Za ?_; refine Zy (t := 12) (b' := false) rfl (Bool.eq_false_iff.2 g6) ?_; refine Zb Za ?_; refine Zb Za ?_; refine Zn Zl ?_; refine Yw Zd ?_; refine aN Za ?_; refine Zp (aT [4] rfl) ?_; refine T.ret ?_; obtain rfl := ret1 H; exact Zw Za (Res.tmp rfl) Zf ⟨rfl, rfl⟩
 · refine rG Y13 rfl ?_; refine Zb Za ?_; refine Yj Jw Za (fun wc hwc => Gg (x0 := x0) wc  e2) ?_; rintro _ _ ⟨rfl, rfl⟩; refine Zb Za ?_; refine Zy (t := 7) (b' := false) rfl (Bool.eq_false_iff.2 g3) ?_; refine Zh Za ?_; refine Zh Za ?_; refine Zh Za ?_; refine Yw Zd ?_; refine Zb Za ?_; refine Zb Za ?_; refine Zb Za ?_; refine Zn Zl ?_; refine Yw Zd ?_; refine aN Za ?_; refine Zp (aT [4] rfl) ?_; refine T.ret ?_; obtain rfl := ret1 H; exact Zw Za (Res.tmp rfl) Zf ⟨rfl, rfl⟩
theorem Z0d {x0 : Int} (w : World) {r0 : Bool} (H : Nx x0 = some r0) : Fnc Tryz.prog 175 #[iV x0] w [] (fun v N => v = .bool r0 ∧ N = []) := by
 unfold Nx at H; refine Yx (vs := [iV x0]) Tryz.func175 rfl rfl (Inv.refl w) ?_; refine sR Y1 rfl ?_; refine aN Za ?_; refine sR Y4 rfl ?_; refine Zb Za ?_; refine Zb Za ?_; refine Zn Zl ?_; refine aN Za ?_; refine T.ret ?_; obtain rfl := ret1 H; exact Zw Za (Res.tmp rfl) Zf ⟨rfl, rfl⟩
theorem Z3r {x0 : List Int} {target1 : Int} {a3 : Option Addr} {a4 a5 : Nat} (w : World) (a2 : RS w [] iC 1 a3 a4 a5 x0) {r0 : Int} {r1 : Bool} (H : Lz x0 target1 = some (r0, r1)) : Fnc Tryz.prog 111 #[.slice a3 a4 a5, iV target1] w [] (fun v N => v = .tuple #[iV r0, .bool r1] ∧ N = []) := by
 unfold Lz at H; refine Yx (vs := [.slice a3 a4 a5, iV target1]) Tryz.func111 rfl rfl (Inv.refl w) ?_; refine sR Y2 rfl ?_; refine Yq Za ?_; refine aN Za ?_; refine sR Y3 rfl ?_; refine Zb Za ?_; refine Xv (xs := x0) a2.len Zd Xa ?_; refine aN Za ?_; refine sR Y3 rfl ?_; refine Zb Za ?_; refine Yq Za ?_; refine aN Za ?_; refine Zo ?_; refine Wn (fun (a6 : Int) => Z04 x0 target1 a6 = some (r0, r1)) (fun (a6 : Int) => [(0, .slice a3 a4 a5), (1, iV target1), (6, iV (x0.length : Int)), (7, iV a6)]) (fun (a6 : Int) => []) ?_ ?_
 ·
  refine T.block ?_; obtain ⟨c3, c4, c9⟩ := Zu H; refine Nc (fun (a7 : Nat) (i1 j2 : Int) => Yu (fun s => Gx x0 target1 s.1 s.2) a7 (i1, j2) = some c3) (fun (a7 : Nat) (i1 j2 : Int) => [(0, .slice a3 a4 a5), (1, iV target1), (6, iV (x0.length : Int)), (7, iV i1), (8, iV j2)]) (fun (a7 : Nat) (i1 j2 : Int) => []) (fun (a7 : Nat) (i1 j2 : Int) => a7) Xc 0 (x0.length : Int) c4 (aF rfl) Zf ?_; rintro a7 i1 j2 H; obtain ⟨b8, d0, rfl, H, b5⟩ := Vb H; have H : Gx x0 target1 i1 j2 = some d0 := H; unfold Gx at H; refine Zo ?_; refine sR Y3 rfl ?_; refine Zb Za ?_; refine Zb Za ?_; refine Zn Zl ?_; refine dN ?_; rcases Zs H with ⟨g3, H⟩ | ⟨g3, H⟩
  ·
   refine Xp rfl g3 ?_; refine T.skip ?_; refine Yh ?_; refine T.block ?_; obtain ⟨g4, g5, g6, H⟩ := gd3 H; refine sR Y7 rfl ?_; refine Zb Za ?_; refine Zb Za ?_; refine Xr g4 Zd ?_; refine Z2r Za TWXCY.o3 Z6c (Z48 g5) ?_; refine TO.shrL (m := 1) rr7 ?_; refine Z2r Za Z4i TWXCY.i3 (Lt g6.1 g6.2) ?_; refine aN Za ?_; refine Zp (aT [0, 1, 6, 7, 8, 9] rfl) ?_; refine Zo ?_; obtain ⟨g7, H⟩ := Yb H; obtain ⟨r8, e9, H⟩ := Zu H; refine rG Y6 rfl ?_; refine Zb Za ?_; refine Zb Za ?_; refine Xz a2 g7 Zd Xa Xb ?_; refine Ue a2 g7 Za Zx ?_; refine Zb Za ?_; refine Yj Z5d Za (fun wc hwc => Z5r (x0 := (x0.getD (Int.fdiv (i1 + j2) (2 ^ 1)).toNat 0)) (y1 := target1) wc  e9) ?_; rintro _ _ ⟨rfl, rfl⟩; refine dN ?_; rcases Zs H with ⟨b6, H⟩ | ⟨b6, H⟩
   · refine Xn rfl b6 ?_; obtain ⟨d1, H⟩ := Yb H; refine rG Y3 rfl ?_; refine Zb Za ?_; refine Xr d1 Zd ?_; refine Yq Za ?_; refine Zi ?_; refine Xf ?_; have H := Wm H b5; exact Gq b8 ((Int.fdiv (i1 + j2) (2 ^ 1)) + 1) j2 H (Nat.lt_succ_self _) (aF rfl) Zf
   · refine Wk rfl (Bool.eq_false_iff.2 b6) ?_; refine rG Y2 rfl ?_; refine Zb Za ?_; refine Yq Za ?_; refine Zi ?_; refine Xf ?_; have H := Wm H b5; exact Gq b8 i1 (Int.fdiv (i1 + j2) (2 ^ 1)) H (Nat.lt_succ_self _) (aF rfl) Zf
  · refine Xo rfl g3 ?_; refine T.exit ?_; refine Xg ?_; have H := Wg H b5 ▸ c9; refine Xg ?_; refine Ww ?_; exact Xe i1 H (aF rfl) Zf
 ·
  rintro a6 H; unfold Z04 at H; refine Zo ?_; rcases Zs H with ⟨a9, H⟩ | ⟨a9, H⟩
  ·
   obtain ⟨a8, H⟩ := Yb H; rcases Zs H with ⟨b0, H⟩ | ⟨b0, H⟩
   · refine rG Y25 rfl ?_; refine Zb Za ?_; refine Zb Za ?_; refine Zb Za ?_; refine Zn Zl ?_; refine Zb Za ?_; refine Zy (t := 35) (b' := true) rfl (decide_eq_true a9) ?_; refine Zb Za ?_; refine Zb Za ?_; refine Xz a2 a8 Zd Xa Xb ?_; refine Ue a2 a8 Za Zx ?_; refine Zb Za ?_; refine Zn Zl ?_; refine Zb Za ?_; refine Zy (t := 42) (b' := true) rfl (decide_eq_true b0) ?_; refine Zh Za ?_; refine Zh Za ?_; refine Zh Za ?_; refine Zh Za ?_; refine Zh Za ?_; refine Zh Za ?_; refine Vt Za ?_; refine Vt Za ?_; refine Zh Za ?_; refine Yv Zd ?_; refine Yv Zd ?_; refine Yq Za ?_; refine aN Za ?_; refine Zp (aT [4, 5] rfl) ?_; refine T.ret ?_; obtain ⟨rfl, rfl⟩ := ret2 H; exact Vz Za (Res.tmp rfl) (Res.tmp rfl) Zf ⟨rfl, rfl⟩
   ·
    obtain ⟨b1, H⟩ := Yb H; obtain ⟨d3, b9, H⟩ := Zu H; rcases Zs H with ⟨b7, H⟩ | ⟨b7, H⟩
    · obtain ⟨d4, d2, H⟩ := Zu H; refine rG Y25 rfl ?_; refine Zb Za ?_; refine Zb Za ?_; refine Zb Za ?_; refine Zn Zl ?_; refine Zb Za ?_; refine Zy (t := 35) (b' := true) rfl (decide_eq_true a9) ?_; refine Zb Za ?_; refine Zb Za ?_; refine Xz a2 a8 Zd Xa Xb ?_; refine Ue a2 a8 Za Zx ?_; refine Zb Za ?_; refine Zn Zl ?_; refine Zb Za ?_; refine Zy (t := 42) (b' := false) rfl (decide_eq_false b0) ?_; refine Zb Za ?_; refine Zb Za ?_; refine Xz a2 b1 Zd Xa Xb ?_; refine Ue a2 b1 Za Zx ?_; refine Yj Rc Za (fun wc hwc => Z0d (x0 := (x0.getD a6.toNat 0)) wc  b9) ?_; rintro _ _ ⟨rfl, rfl⟩; refine Zb Za ?_; refine Zy (t := 48) (b' := true) rfl b7 ?_; refine Zb Za ?_; refine Yj Rc Za (fun wc hwc => Z0d (x0 := target1) wc  d2) ?_; rintro _ _ ⟨rfl, rfl⟩; refine Yv Zd ?_; refine Yw Zd ?_; refine Yv Zd ?_; refine Yq Za ?_; refine aN Za ?_; refine Zp (aT [4, 5] rfl) ?_; refine T.ret ?_; obtain ⟨rfl, rfl⟩ := ret2 H; exact Vz Za (Res.tmp rfl) (Res.tmp rfl) Zf ⟨rfl, rfl⟩
    · refine rG Y25 rfl ?_; refine Zb Za ?_; refine Zb Za ?_; refine Zb Za ?_; refine Zn Zl ?_; refine Zb Za ?_; refine Zy (t := 35) (b' := true) rfl (decide_eq_true a9) ?_; refine Zb Za ?_; refine Zb Za ?_; refine Xz a2 a8 Zd Xa Xb ?_; refine Ue a2 a8 Za Zx ?_; refine Zb Za ?_; refine Zn Zl ?_; refine Zb Za ?_; refine Zy (t := 42) (b' := false) rfl (decide_eq_false b0) ?_; refine Zb Za ?_; refine Zb Za ?_; refine Xz a2 b1 Zd Xa Xb ?_; refine Ue a2 b1 Za Zx ?_; refine Yj Rc Za (fun wc hwc => Z0d (x0 := (x0.getD a6.toNat 0)) wc  b9) ?_; rintro _ _ ⟨rfl, rfl⟩; refine Zb Za ?_; refine Zy (t := 48) (b' := false) rfl (Bool.eq_false_iff.2 b7) ?_; refine Zh Za ?_; refine Zh Za ?_; refine Yw Zd ?_; refine Yw Zd ?_; refine Yv Zd ?_; refine Yq Za ?_; refine aN Za ?_; refine Zp (aT [4, 5] rfl) ?_; refine T.ret ?_; obtain ⟨rfl, rfl⟩ := ret2 H; exact Vz Za (Res.tmp rfl) (Res.tmp rfl) Zf ⟨rfl, rfl⟩
  · refine rG Y25 rfl ?_; refine Zb Za ?_; refine Zb Za ?_; refine Zb Za ?_; refine Zn Zl ?_; refine Zb Za ?_; refine Zy (t := 35) (b' := false) rfl (decide_eq_false a9) ?_; refine Zh Za ?_; refine Zh Za ?_; refine Zh Za ?_; refine Zh Za ?_; refine Zh Za ?_; refine Zh Za ?_; refine Zh Za ?_; refine Vt Za ?_; refine Vt Za ?_; refine Vt Za ?_; refine Vt Za ?_; refine Vt Za ?_; refine Vt Za ?_; refine Vt Za ?_; refine Vt Za ?_; refine Vt Za ?_; refine Zh Za ?_; refine Yw Zd ?_; refine Yq Za ?_; refine aN Za ?_; refine Zp (aT [4, 5] rfl) ?_; refine T.ret ?_; obtain ⟨rfl, rfl⟩ := ret2 H; exact Vz Za (Res.tmp rfl) (Res.tmp rfl) Zf ⟨rfl, rfl⟩
def insR : Go.Shelf.Ren := ⟨fun n => match n with | 21 => 112 | 27 => 176 | 28 => 177 | 35 => 240 | 39 => 283 | n => n, fun n => match n with | 0 => 0 | 3 => 3 | 4 => 4 | 22 => 28 | n => n, fun n => n⟩
theorem insL : Lays2.n21 Tryz.prog insR := ⟨Vm, by kernel_rfl, by kernel_rfl, by kernel_rfl, by kernel_rfl, by kernel_rfl, by kernel_rfl, fun w => by kernel_rfl, fun w => by kernel_rfl, fun w => by kernel_rfl, by kernel_rfl, fun w => by kernel_rfl, fun w => by kernel_rfl, fun w => by kernel_rfl, by kernel_rfl, fun w => by kernel_rfl, fun w => by kernel_rfl, fun w => by kernel_rfl, by kernel_rfl, fun w => by kernel_rfl, fun w => by kernel_rfl, fun w => by kernel_rfl, by kernel_rfl⟩
theorem Z46 (w : World) {xs0 us2 : List Int} {i1 : Int} {a4 : Option Nat} {b0 : Option Addr} {n0 c0 N0 C0 : Nat} {a5 : List Int} {j0 : List Value} {ob2 : Option Nat} {n2 c2 : Nat} {j2 : List Value} (hin : Inv w (([(eI a4 a5 j0 3), (eI ob2 us2 j2 3)] : Heap).filterMap Prod.fst) w [(eI a4 a5 j0 3), (eI ob2 us2 j2 3)]) (hQ : Qu a4 b0 n0 c0 xs0 a5 N0 C0) (b6 : a5.length = N0) (b7 : N0 ≤ C0) (b8 : j0.length = (C0 - N0) * 1) (b9 : a4 = none → C0 = 0) (c3 : C0 ≤ 9223372036854775807) (c4 : us2.length = n2) (d0 : n2 ≤ c2) (d1 : j2.length = (c2 - n2) * 1) (c9 : ob2 = none → c2 = 0) {r0 : List Int} (H : Z0c xs0 i1 us2 = some r0) : Fnc Tryz.prog 112 #[.slice b0 n0 c0, iV i1, sV ob2 n2 c2] w (([(eI a4 a5 j0 3), (eI ob2 us2 j2 3)] : Heap).filterMap Prod.fst) (fun v N => ∃ (a6 : Option Addr) (a9 b1 : Nat) (a2 : Option Nat) (a8 a7 : Nat) (a3 : List Int) (b5 : List Value), v = .slice a6 a9 b1 ∧ N = [(eI a2 a3 b5 3), (eI ob2 us2 j2 3)] ∧ Qu a2 a6 a9 b1 r0 a3 a8 a7 ∧ a3.length = a8 ∧ a8 ≤ a7 ∧ b5.length = (a7 - a8) * 1 ∧ (a2 = none → a7 = 0) ∧ a7 ≤ 9223372036854775807) := by
 unfold Z0c at H; obtain ⟨⟨g1, g2, g3, g4⟩, H⟩ := Yb H; injection H with H; cases ob2 with | none => have := c9 rfl; omega | some b2 =>
  subst c4; exact Z49 insL w hin hQ b6 b7 b8 b9 c3 g1 g2 g3 g4 H.symm
theorem Z6a {n0 : Net} {f1 : List Int} {a5 n6 : Option Addr} {a3 a4 n7 n8 : Nat} (w : World) (c9 : RS w [] Yk 3 a5 a3 a4 n0.Arcs) (l1 : RS w [] iC 1 n6 n7 n8 f1) {r0 : List Int} {r1 : Bool} (H : Z1l n0 f1 = some (r0, r1)) : Fnc Tryz.prog 70 #[.agg #[iV n0.N, iV n0.S, iV n0.T, .slice a5 a3 a4], .slice n6 n7 n8] w [] (fun v N => ∃ (m1 : Option Nat) (t1 t2 : Nat) (w5 : List Value), v = .tuple #[sV m1 t1 t2, .bool r1] ∧ N = [(eI m1 r0 w5 3)] ∧ r0.length = t1 ∧ t1 ≤ t2 ∧ w5.length = (t2 - t1) * 1 ∧ (m1 = none → t2 = 0)) := by
 unfold Z1l at H; refine Yx (vs := [.agg #[iV n0.N, iV n0.S, iV n0.T, .slice a5 a3 a4], .slice n6 n7 n8]) Tryz.func70 rfl rfl (Inv.refl w) ?_; refine sR Y3 rfl ?_; refine Xj Za ?_; intro b1; refine Yq Za ?_; refine aN Za ?_; refine Zo ?_; refine Zo ?_; obtain ⟨r3, e4, H⟩ := Zu H; refine rG Y4 rfl ?_; refine Yp Za Yz Zj rfl ?_; refine Zb Za ?_; refine Yj Z3n Za (fun wc hwc => Z67 (n0 := n0) (f1 := f1) wc (c9.mono hwc) (l1.mono hwc) e4) ?_; rintro _ _ ⟨rfl, rfl⟩; refine TO.not Za ?_; refine dN ?_; rcases Zs H with ⟨g5, H⟩ | ⟨g5, H⟩
 · refine Xn rfl g5 ?_; refine sR Y2 rfl ?_; refine Yq Za ?_; refine aN Za ?_; refine T.ret ?_; refine Yi ?_; obtain ⟨rfl, rfl⟩ := ret2 H; exact Vz Za (Res.tmp rfl) (Res.tmp rfl) (Pick.none Zf) ⟨none, 0, 0, ([]), rfl, rfl, rfl, (Nat.le_refl _), (Vg 0 _), (fun _ => rfl)⟩
 ·
  refine Wk rfl (Bool.eq_false_iff.2 g5) ?_; refine T.skip ?_; refine Yh ?_; refine Zo ?_; obtain ⟨r6, e7, H⟩ := Zu H; refine rG Y4 rfl ?_; refine Yp Za Yz Zj rfl ?_; refine Zb Za ?_; refine Yj Z4z Za (fun wc hwc => Z4v (n0 := n0) (f1 := f1) wc (c9.mono hwc) (l1.mono hwc) e7) ?_; rintro _ _ ⟨b8, b9, d1, l0, a8, i2, c14, i4, a9, i5, i6, i7, b0, i8, c22, i9, b5, j0, j1, j2, rfl, rfl, t5, y2, y3, y4, y5, y6, y7, y8, y9, z0, z1, z5, z6, z7, z8, z9, A1⟩; refine Z4p (T2 := 28) (bo := b9) (L := l0) (Es := [(eC b8 #[iV r6.n.N, iV r6.n.S, iV r6.n.T, .slice a5 a3 a4, nV b9 d1 d1, sV a8 i2 c14, sV a9 i5 i6, sV b0 i8 c22, sV b5 j0 j1] 197), (eI a8 r6.at_ i4 3), (eA a9 boolC r6.done i7 4), (eA b0 boolC r6.on i9 4), (eI b5 r6.way j2 3), (eC b1 #[iV n0.N, iV n0.S, iV n0.T, .slice a5 a3 a4] 24)]) (Ns := [(eC b8 #[iV r6.n.N, iV r6.n.S, iV r6.n.T, .slice a5 a3 a4, nV b9 d1 d1, sV a8 i2 c14, sV a9 i5 i6, sV b0 i8 c22, sV b5 j0 j1] 197), (eA (some b9) Yo (l0.map RowB.sm) [] 28), (eI a8 r6.at_ i4 3), (eA a9 boolC r6.done i7 4), (eA b0 boolC r6.on i9 4), (eI b5 r6.way j2 3)]) (R := [(eC b1 #[iV n0.N, iV n0.S, iV n0.T, .slice a5 a3 a4] 24)]) t5 rfl (show Pick ([(eC b8 #[iV r6.n.N, iV r6.n.S, iV r6.n.T, .slice a5 a3 a4, nV b9 d1 d1, sV a8 i2 c14, sV a9 i5 i6, sV b0 i8 c22, sV b5 j0 j1] 197), (eI a8 r6.at_ i4 3), (eA a9 boolC r6.done i7 4), (eA b0 boolC r6.on i9 4), (eI b5 r6.way j2 3), (eC b1 #[iV n0.N, iV n0.S, iV n0.T, .slice a5 a3 a4] 24), (eA (some b9) Yo (l0.map RowB.sm) [] 28)] : Heap) [(eC b8 #[iV r6.n.N, iV r6.n.S, iV r6.n.T, .slice a5 a3 a4, nV b9 d1 d1, sV a8 i2 c14, sV a9 i5 i6, sV b0 i8 c22, sV b5 j0 j1] 197), (eA (some b9) Yo (l0.map RowB.sm) [] 28), (eI a8 r6.at_ i4 3), (eA a9 boolC r6.done i7 4), (eA b0 boolC r6.on i9 4), (eI b5 r6.way j2 3), (eC b1 #[iV n0.N, iV n0.S, iV n0.T, .slice a5 a3 a4] 24)] from (Zc Ze (Zc Zt (Zc Zt (Zc Zt (Zc Zt (Zc Zt (Zc Ze Zf)))))))) ?_; intro D0 hwc j7 e2; have c9 := c9.monoM (by decide) hwc (List.Perm.refl _) rfl; have l1 := l1.monoM (by decide) hwc (List.Perm.refl _) rfl; refine aN Za ?_; refine Zp (aT [2, 6] rfl) ?_; obtain ⟨A2, H⟩ := Yb H; refine sR Y4 rfl ?_; refine Zk Za Wl ?_; refine Zm Za Zx mm5 rfl ?_; refine TO.mkI A2 Zd Xa Xb Uz Rj rfl ?_; intro b55; refine aN Za ?_; refine Zo ?_; refine sR Y6 rfl ?_; refine Zb Za ?_; refine TO.nilCheck Za ?_; refine Zk Za Nl ?_; refine Zm Za Ls Wb rfl ?_; refine Xv (xs := r6.out) e2.len Zd Kv ?_; refine Zb Za ?_; refine dN ?_; refine Wn (fun (d5 : List Int) => Z0m n0 r6 d5 = some (r0, r1) ∧ d5.length = n0.N.toNat) (fun (d5 : List Int) => [(2, pV b1), (6, pV b8), (7, nV b55 n0.N.toNat n0.N.toNat)]) (fun (d5 : List Int) => [(eC b1 #[iV n0.N, iV n0.S, iV n0.T, .slice a5 a3 a4] 24), (eC b8 #[iV r6.n.N, iV r6.n.S, iV r6.n.T, .slice a5 a3 a4, nV b9 d1 d1, sV a8 i2 c14, sV a9 i5 i6, sV b0 i8 c22, sV b5 j0 j1] 197), (eI a8 r6.at_ i4 3), (eA a9 boolC r6.done i7 4), (eA b0 boolC r6.on i9 4), (eI b5 r6.way j2 3), (eI (some b55) d5 ([]) 3)]) ?_ ?_
  ·
   refine T.block ?_; obtain ⟨A3, t3, A4⟩ := Zu H; refine Nc (fun (n9 : Nat) (f4 : List Int) (f5 : Int) => Yu (fun s => Ll n0 r6 s.1 s.2) n9 (f4, f5) = some A3 ∧ f4.length = n0.N.toNat) (fun (n9 : Nat) (f4 : List Int) (f5 : Int) => [(2, pV b1), (6, pV b8), (7, nV b55 n0.N.toNat n0.N.toNat), (35, nV b9 d1 d1), (36, iV (r6.out.length : Int)), (37, iV f5)]) (fun (n9 : Nat) (f4 : List Int) (f5 : Int) => [(eC b1 #[iV n0.N, iV n0.S, iV n0.T, .slice a5 a3 a4] 24), (eC b8 #[iV r6.n.N, iV r6.n.S, iV r6.n.T, .slice a5 a3 a4, nV b9 d1 d1, sV a8 i2 c14, sV a9 i5 i6, sV b0 i8 c22, sV b5 j0 j1] 197), (eI a8 r6.at_ i4 3), (eA a9 boolC r6.done i7 4), (eA b0 boolC r6.on i9 4), (eI b5 r6.way j2 3), (eI (some b55) f4 ([]) 3)]) (fun (n9 : Nat) (f4 : List Int) (f5 : Int) => n9) Xc (List.replicate n0.N.toNat (0 : Int)) 0 ⟨t3, List.length_replicate⟩ (aF rfl) (Zc tk6 (Zc Zt (Zc Zt (Zc Zt (Zc Zt (Zc Zt (Zc Ze Zf))))))) ?_; rintro n9 f4 f5 ⟨H, o5⟩; obtain ⟨A5, w6, rfl, H, w7⟩ := Vb H; have H : Ll n0 r6 f4 f5 = some w6 := H; unfold Ll at H; refine sR Y1 rfl ?_; refine Zn Zl ?_; refine dS ?_; rcases Zs H with ⟨t6, H⟩ | ⟨t6, H⟩
   ·
    refine Xp rfl t6 ?_; refine T.skip ?_; refine Yh ?_; refine Zo ?_; refine Wn (fun (h3 : List Int) => Z0s f5 h3 = some w6 ∧ h3.length = n0.N.toNat) (fun (h3 : List Int) => [(2, pV b1), (6, pV b8), (7, nV b55 n0.N.toNat n0.N.toNat), (35, nV b9 d1 d1), (36, iV (r6.out.length : Int)), (37, iV f5)]) (fun (h3 : List Int) => [(eC b1 #[iV n0.N, iV n0.S, iV n0.T, .slice a5 a3 a4] 24), (eC b8 #[iV r6.n.N, iV r6.n.S, iV r6.n.T, .slice a5 a3 a4, nV b9 d1 d1, sV a8 i2 c14, sV a9 i5 i6, sV b0 i8 c22, sV b5 j0 j1] 197), (eI a8 r6.at_ i4 3), (eA a9 boolC r6.done i7 4), (eA b0 boolC r6.on i9 4), (eI b5 r6.way j2 3), (eI (some b55) h3 ([]) 3)]) ?_ ?_
    ·
     refine T.block ?_; obtain ⟨o6, H⟩ := Yb H; refine sR Y3 rfl ?_; refine Xz e2.rs (e2.inb o6) Zd Kv Jd ?_; refine Z1b e2 o6 Za Z08 ?_; refine aN Za ?_; refine sR Y3 rfl ?_; refine Zb Za ?_; refine Xv (xs := (r6.out.getD f5.toNat [])) ((e2.at o6).len) Zd Xa ?_; refine Zb Za ?_; refine dN ?_; refine T.block ?_; obtain ⟨A6, o7, A7⟩ := Zu H; refine Nc (fun (o0 : Nat) (e6 : List Int) (j8 : Int) => Yu (fun s => Nb n0 r6 f5 s.1 s.2) o0 (e6, j8) = some A6 ∧ e6.length = n0.N.toNat) (fun (o0 : Nat) (e6 : List Int) (j8 : Int) => [(2, pV b1), (6, pV b8), (7, nV b55 n0.N.toNat n0.N.toNat), (35, nV b9 d1 d1), (36, iV (r6.out.length : Int)), (37, iV f5), (41, .slice (((l0.map RowB.sm).getD f5.toNat default).1) (((l0.map RowB.sm).getD f5.toNat default).2.1) (((l0.map RowB.sm).getD f5.toNat default).2.2)), (42, iV ((r6.out.getD f5.toNat []).length : Int)), (43, iV j8)]) (fun (o0 : Nat) (e6 : List Int) (j8 : Int) => [(eC b1 #[iV n0.N, iV n0.S, iV n0.T, .slice a5 a3 a4] 24), (eC b8 #[iV r6.n.N, iV r6.n.S, iV r6.n.T, .slice a5 a3 a4, nV b9 d1 d1, sV a8 i2 c14, sV a9 i5 i6, sV b0 i8 c22, sV b5 j0 j1] 197), (eI a8 r6.at_ i4 3), (eA a9 boolC r6.done i7 4), (eA b0 boolC r6.on i9 4), (eI b5 r6.way j2 3), (eI (some b55) e6 ([]) 3)]) (fun (o0 : Nat) (e6 : List Int) (j8 : Int) => o0) Xc f4 0 ⟨o7, o5⟩ (aF rfl) (Zc Ze (Zc Ze (Zc Ze (Zc Ze (Zc Ze (Zc Ze (Zc Ze Zf))))))) ?_; rintro o0 e6 j8 ⟨H, l3⟩; obtain ⟨A8, A9, rfl, H, w8⟩ := Vb H; have H : Nb n0 r6 f5 e6 j8 = some A9 := H; unfold Nb at H; refine sR Y1 rfl ?_; refine Zn Zl ?_; refine dS ?_; rcases Zs H with ⟨t7, H⟩ | ⟨t7, H⟩
     · refine Xp rfl t7 ?_; refine T.skip ?_; refine Yh ?_; refine Zo ?_; refine T.block ?_; obtain ⟨w9, H⟩ := Yb H; refine sR Y3 rfl ?_; refine Xz (e2.at o6) w9 Zd Xa Xb ?_; refine Ue (e2.at o6) w9 Za Zx ?_; refine aN Za ?_; obtain ⟨x1, x2, B0, x3, H⟩ := gd4 H; refine rG Y12 rfl ?_; refine Zb Za ?_; refine Zk Za Wz ?_; refine Zm Za Vd Zj rfl ?_; refine Zb Za ?_; refine Xz c9 x1 Zd Xw Wr ?_; refine TO.faR Za Lf ?_; refine Z14 (v := iV ((n0.Arcs.getD ((r6.out.getD f5.toNat []).getD j8.toNat 0).toNat default).to)) default c9 x1 Zd Zx ?_; refine Ul l3 x2 Zd Xa Xb ?_; refine Ng x2 Za Zx mm6 ?_; refine Xr B0 Zd ?_; refine Ul l3 x3 Zd Xa Xb ?_; refine Z1t x3 Za tk6 Xb ?_; refine Zi ?_; refine Xf ?_; refine Yh ?_; refine Zp (aT [2, 6, 7, 35, 36, 37, 41, 42, 43] rfl) ?_; obtain ⟨B1, H⟩ := Yb H; refine rG Y2 rfl ?_; refine Xr B1 Zd ?_; refine Zb Za ?_; refine Zi ?_; have H := Wm H w8; exact Gq A8 (e6.set ((n0.Arcs.getD ((r6.out.getD f5.toNat []).getD j8.toNat 0).toNat default).to).toNat ((e6.getD ((n0.Arcs.getD ((r6.out.getD f5.toNat []).getD j8.toNat 0).toNat default).to).toNat 0) + 1)) (j8 + 1) ⟨H, (List.length_set.trans l3)⟩ (Nat.lt_succ_self _) (aF rfl) (Zc Zt (Zc Zt (Zc Zt (Zc Zt (Zc Zt (Zc Zt (Zc Ze Zf)))))))
     · refine Xo rfl t7 ?_; refine T.exit ?_; refine Xg ?_; have H := Wg H w8 ▸ A7; refine Xg ?_; refine Ww ?_; refine Xf ?_; exact Xe e6 ⟨H, l3⟩ (aF rfl) (Zc Ze (Zc Ze (Zc Ze (Zc Ze (Zc Ze (Zc Ze (Zc Ze Zf)))))))
    · rintro h3 ⟨H, t8⟩; unfold Z0s at H; obtain ⟨B2, H⟩ := Yb H; refine rG Y2 rfl ?_; refine Xr B2 Zd ?_; refine Zb Za ?_; refine Zi ?_; have H := Wm H w7; exact Gq A5 h3 (f5 + 1) ⟨H, t8⟩ (Nat.lt_succ_self _) (aF rfl) (Zc Ze (Zc Ze (Zc Ze (Zc Ze (Zc Ze (Zc Ze (Zc Ze Zf)))))))
   · refine Xo rfl t6 ?_; refine T.exit ?_; refine Xg ?_; have H := Wg H w7 ▸ A4; refine Xg ?_; refine Ww ?_; exact Xe f4 ⟨H, o5⟩ (aF rfl) (Zc Ze (Zc Ze (Zc Ze (Zc Ze (Zc Ze (Zc Ze (Zc Ze Zf)))))))
  ·
   rintro d5 ⟨H, m2⟩; unfold Z0m at H; refine sR Y2 rfl ?_; refine Yq Za ?_; refine aN Za ?_; refine Zo ?_; refine sR Y3 rfl ?_; refine Zb Za ?_; refine Xv (xs := d5) m2 Zd Xa ?_; refine Zb Za ?_; refine dN ?_; refine Rg (fun (b7 : List Int) (f6 e8 : Nat) (d6 : Option Nat) (j3 : List Value) => Rt n0 r6 d5 b7 = some (r0, r1) ∧ b7.length = f6 ∧ f6 ≤ e8 ∧ j3.length = (e8 - f6) * 1 ∧ (d6 = none → e8 = 0) ∧ e8 ≤ 9223372036854775807) (fun (b7 : List Int) (f6 e8 : Nat) (d6 : Option Nat) (j3 : List Value) => [(2, pV b1), (6, pV b8), (7, nV b55 n0.N.toNat n0.N.toNat), (12, .slice none 0 0), (13, sV d6 f6 e8)]) (fun (b7 : List Int) (f6 e8 : Nat) (d6 : Option Nat) (j3 : List Value) => [(eC b1 #[iV n0.N, iV n0.S, iV n0.T, .slice a5 a3 a4] 24), (eC b8 #[iV r6.n.N, iV r6.n.S, iV r6.n.T, .slice a5 a3 a4, nV b9 d1 d1, sV a8 i2 c14, sV a9 i5 i6, sV b0 i8 c22, sV b5 j0 j1] 197), (eI a8 r6.at_ i4 3), (eA a9 boolC r6.done i7 4), (eA b0 boolC r6.on i9 4), (eI b5 r6.way j2 3), (eI (some b55) d5 ([]) 3), (eI d6 b7 j3 3)]) ?_ ?_
   ·
    refine T.block ?_; obtain ⟨B3, t4, B4⟩ := Zu H; refine Z2q (fun (o1 : Nat) (b6 : List Int) (n78 j9 : Nat) (f7 : Option Nat) (l4 : List Value) (j6 : Int) => Yu (fun s => Na d5 s.1 s.2) o1 (b6, j6) = some B3 ∧ b6.length = n78 ∧ n78 ≤ j9 ∧ l4.length = (j9 - n78) * 1 ∧ (f7 = none → j9 = 0) ∧ j9 ≤ 9223372036854775807) (fun (o1 : Nat) (b6 : List Int) (n78 j9 : Nat) (f7 : Option Nat) (l4 : List Value) (j6 : Int) => [(2, pV b1), (6, pV b8), (7, nV b55 n0.N.toNat n0.N.toNat), (12, .slice none 0 0), (13, sV f7 n78 j9), (60, nV b55 n0.N.toNat n0.N.toNat), (61, iV (d5.length : Int)), (62, iV j6)]) (fun (o1 : Nat) (b6 : List Int) (n78 j9 : Nat) (f7 : Option Nat) (l4 : List Value) (j6 : Int) => [(eC b1 #[iV n0.N, iV n0.S, iV n0.T, .slice a5 a3 a4] 24), (eC b8 #[iV r6.n.N, iV r6.n.S, iV r6.n.T, .slice a5 a3 a4, nV b9 d1 d1, sV a8 i2 c14, sV a9 i5 i6, sV b0 i8 c22, sV b5 j0 j1] 197), (eI a8 r6.at_ i4 3), (eA a9 boolC r6.done i7 4), (eA b0 boolC r6.on i9 4), (eI b5 r6.way j2 3), (eI (some b55) d5 ([]) 3), (eI f7 b6 l4 3)]) (fun (o1 : Nat) (b6 : List Int) (n78 j9 : Nat) (f7 : Option Nat) (l4 : List Value) (j6 : Int) => o1) Xc ([]) 0 0 none ([]) 0 ⟨t4, rfl, (Nat.le_refl _), (Vg 0 _), (fun _ => rfl), (Nat.zero_le _)⟩ (aF rfl) (Zc Ze (Zc Ze (Zc Ze (Zc Ze (Zc Ze (Zc Ze (Zc Ze (Pick.none Zf)))))))) ?_; rintro o1 b6 n78 j9 f7 l4 j6 ⟨H, l5, m3, m4, m5, m6⟩; obtain ⟨x4, B5, rfl, H, t9⟩ := Vb H; have H : Na d5 b6 j6 = some B5 := H; unfold Na at H; refine sR Y1 rfl ?_; refine Zn Zl ?_; refine dS ?_; rcases Zs H with ⟨u0, H⟩ | ⟨u0, H⟩
    ·
     refine Xp rfl u0 ?_; refine T.skip ?_; refine Yh ?_; refine Zo ?_; refine T.block ?_; obtain ⟨x5, H⟩ := Yb H; refine sR Y5 rfl ?_; refine Zb Za ?_; refine Ul m2 x5 Zd Xa Xb ?_; refine Ng x5 Za Zx mm6 ?_; refine Yq Za ?_; refine aN Za ?_; refine sR Y2 rfl ?_; refine Zb Za ?_; refine Zn Zl ?_; refine dN ?_; rcases Zs H with ⟨u1, H⟩ | ⟨u1, H⟩
     · refine Xp rfl u1 ?_; obtain ⟨B6, H⟩ := Yb H; refine rG Y5 rfl ?_; refine Zb Za ?_; refine Zb Za ?_; refine Gm [iV 0] [0] Za Xa Xb Uz rr2 (by simp only [Xh, setCells, Value.cells, List.toList_toArray, List.getD_cons_zero, List.getD_cons_succ, List.set_cons_zero, List.set_cons_succ]; rfl) (by kernel_rfl) ?_; intro D1; refine Z1x (f := iC) (s := 1) (xs := b6) (ob := f7) (j := l4) (ys := [j6]) (fun _ => rfl) (fun _ => rfl) Z0r B6 Zd tk8 l5 m3 m4 m5 m6 (fun wc hwc => (hwc.rs (f := iC) (s := 1) (xs := [j6]) (j := ([])) (fun _ => rfl) Zj rfl (Nat.le_refl _) Up)) ?_; intro u2 B7 B8 u3 u4 o8 o9; refine Yq Za ?_; refine Zi ?_; refine Xf ?_; refine Yh ?_; refine Zp (aT [2, 6, 7, 12, 13, 60, 61, 62] rfl) ?_; obtain ⟨u5, H⟩ := Yb H; refine rG Y2 rfl ?_; refine Xr u5 Zd ?_; refine Zb Za ?_; refine Zi ?_; have H := Wm H t9; exact Z0x x4 (b6 ++ ([j6])) (n78 + 1) B7 u2 B8 (j6 + 1) ⟨H, (Kk l5 rfl), u3, u4, o8, o9⟩ (Nat.lt_succ_self _) (aF rfl) (Zc Xk (Zc Xk (Zc Xk (Zc Xk (Zc Xk (Zc Xk (Zc Xk (Zc Ze Zf))))))))
     · refine Xo rfl u1 ?_; refine T.skip ?_; refine Xf ?_; refine Yh ?_; refine Zp (aT [2, 6, 7, 12, 13, 60, 61, 62] rfl) ?_; obtain ⟨u6, H⟩ := Yb H; refine rG Y2 rfl ?_; refine Xr u6 Zd ?_; refine Zb Za ?_; refine Zi ?_; have H := Wm H t9; exact Z0x x4 b6 n78 j9 f7 l4 (j6 + 1) ⟨H, l5, m3, m4, m5, m6⟩ (Nat.lt_succ_self _) (aF rfl) (Zc Ze (Zc Ze (Zc Ze (Zc Ze (Zc Ze (Zc Ze (Zc Ze (Zc Ze Zf))))))))
    · refine Xo rfl u0 ?_; refine T.exit ?_; refine Xg ?_; have H := Wg H t9 ▸ B4; refine Xg ?_; refine Ww ?_; exact Z12 b6 n78 j9 f7 l4 ⟨H, l5, m3, m4, m5, m6⟩ (aF rfl) (Zc Ze (Zc Ze (Zc Ze (Zc Ze (Zc Ze (Zc Ze (Zc Ze (Zc Ze Zf))))))))
   ·
    rintro b7 f6 e8 d6 j3 ⟨H, p0, p2, p3, p4, p5⟩; unfold Rt at H; refine Zo ?_; refine Rg (fun (d3 : List Int) (g6 g3 : Nat) (e9 : Option Nat) (j4 : List Value) => Rs n0 d3 = some (r0, r1) ∧ d3.length = g6 ∧ g6 ≤ g3 ∧ j4.length = (g3 - g6) * 1 ∧ (e9 = none → g3 = 0) ∧ g3 ≤ 9223372036854775807) (fun (d3 : List Int) (g6 g3 : Nat) (e9 : Option Nat) (j4 : List Value) => [(2, pV b1), (12, sV e9 g6 g3)]) (fun (d3 : List Int) (g6 g3 : Nat) (e9 : Option Nat) (j4 : List Value) => [(eC b1 #[iV n0.N, iV n0.S, iV n0.T, .slice a5 a3 a4] 24), (eI e9 d3 j4 3)]) ?_ ?_
    ·
     refine T.block ?_; obtain ⟨B9, C0, C1⟩ := Zu H; refine Z3d (fun (o2 : Nat) (d2 a6 : List Int) (d4 f0 : Nat) (c3 : Option Nat) (e3 : List Value) (a2 : List Int) (f2 : Option Addr) (h4 g7 : Nat) (d7 : Option Nat) (d8 : List Int) (g4 f8 : Nat) (g8 : List Value) => Yu (fun s => Gu n0 r6 s.1 s.2.1 s.2.2) o2 (d2, a6, a2) = some B9 ∧ d2.length = n0.N.toNat ∧ a6.length = d4 ∧ d4 ≤ f0 ∧ e3.length = (f0 - d4) * 1 ∧ (c3 = none → f0 = 0) ∧ f0 ≤ 9223372036854775807 ∧ Qu d7 f2 h4 g7 a2 d8 g4 f8 ∧ d8.length = g4 ∧ g4 ≤ f8 ∧ g8.length = (f8 - g4) * 1 ∧ (d7 = none → f8 = 0) ∧ f8 ≤ 9223372036854775807) (fun (o2 : Nat) (d2 a6 : List Int) (d4 f0 : Nat) (c3 : Option Nat) (e3 : List Value) (a2 : List Int) (f2 : Option Addr) (h4 g7 : Nat) (d7 : Option Nat) (d8 : List Int) (g4 f8 : Nat) (g8 : List Value) => [(2, pV b1), (6, pV b8), (7, nV b55 n0.N.toNat n0.N.toNat), (12, sV c3 d4 f0), (13, .slice f2 h4 g7)]) (fun (o2 : Nat) (d2 a6 : List Int) (d4 f0 : Nat) (c3 : Option Nat) (e3 : List Value) (a2 : List Int) (f2 : Option Addr) (h4 g7 : Nat) (d7 : Option Nat) (d8 : List Int) (g4 f8 : Nat) (g8 : List Value) => [(eC b1 #[iV n0.N, iV n0.S, iV n0.T, .slice a5 a3 a4] 24), (eC b8 #[iV r6.n.N, iV r6.n.S, iV r6.n.T, .slice a5 a3 a4, nV b9 d1 d1, sV a8 i2 c14, sV a9 i5 i6, sV b0 i8 c22, sV b5 j0 j1] 197), (eI a8 r6.at_ i4 3), (eA a9 boolC r6.done i7 4), (eA b0 boolC r6.on i9 4), (eI b5 r6.way j2 3), (eI (some b55) d2 ([]) 3), (eI c3 a6 e3 3), (eI d7 d8 g8 3)]) (fun (o2 : Nat) (d2 a6 : List Int) (d4 f0 : Nat) (c3 : Option Nat) (e3 : List Value) (a2 : List Int) (f2 : Option Addr) (h4 g7 : Nat) (d7 : Option Nat) (d8 : List Int) (g4 f8 : Nat) (g8 : List Value) => o2) Xc d5 ([]) 0 0 none ([]) b7 (sb d6) f6 e8 d6 b7 f6 e8 j3 ⟨C0, m2, rfl, (Nat.le_refl _), (Vg 0 _), (fun _ => rfl), (Nat.zero_le _), (Qu.self d6 b7 f6 e8), p0, p2, p3, p4, p5⟩ (aF rfl) (Zc Ze (Zc Ze (Zc Ze (Zc Ze (Zc Ze (Zc Ze (Zc Ze (Pick.none (Zc Ze Zf))))))))) ?_; rintro o2 d2 a6 d4 f0 c3 e3 a2 f2 h4 g7 d7 d8 g4 f8 g8 ⟨H, p6, k1, l6, l7, l8, l9, g9, g1, h6, p7, k2, p8⟩; obtain ⟨C2, C3, rfl, H, x6⟩ := Vb H; have H : Gu n0 r6 d2 a6 a2 = some C3 := H; unfold Gu at H; refine Zo ?_; refine sR Y3 rfl ?_; refine Zb Za ?_; refine Xv (xs := a2) (g9.len g1) Zd Xa ?_; refine Zn Zl ?_; refine dN ?_; rcases Zs H with ⟨m7, H⟩ | ⟨m7, H⟩
     ·
      refine Xp rfl m7 ?_; refine T.skip ?_; refine Yh ?_; refine T.block ?_; obtain ⟨p9, H⟩ := Yb H; refine sR Y4 rfl ?_; refine Zb Za ?_; refine TO.ixQ g9 g1 h6 k2 p9 Zd Xa Xb ?_; refine TO.ldIQ g9 g1 h6 k2 p9 Za Zx mm8 ?_; refine aN Za ?_; refine Zo ?_; obtain ⟨q0, u7, H⟩ := gd2 H; apply Z28 [rV [] _, rV [0] _, ⟨[], true, [], fun _ v e => v = sV c3 d4 f0 ∧ e = [(eI c3 a6 e3 3)]⟩, rV [] _, ⟨[3], false, [], fun _ v e => ∃ (j5 : Nat), v = nV j5 1 1 ∧ e = [(eI (some j5) ([(a2.getD (0 : Int).toNat 0)]) ([]) 3)]⟩, ⟨[2, 4], false, [2], fun _ v e => ∃ (d9 : Option Nat) (f9 : Nat) (h5 : List Value), v = sV d9 (d4 + 1) f9 ∧ e = [(eI d9 (a6 ++ ([(a2.getD (0 : Int).toNat 0)])) h5 3)] ∧ (d4 + 1) ≤ f9 ∧ h5.length = (f9 - (d4 + 1)) * 1 ∧ (d9 = none → f9 = 0) ∧ f9 ≤ 9223372036854775807⟩] [80, 81, 82, 83, 84, 85] 6 (HRk [[(eI c3 a6 e3 3)], []]) [[], []] [(eI c3 a6 e3 3)] [(eC b1 #[iV n0.N, iV n0.S, iV n0.T, .slice a5 a3 a4] 24), (eC b8 #[iV r6.n.N, iV r6.n.S, iV r6.n.T, .slice a5 a3 a4, nV b9 d1 d1, sV a8 i2 c14, sV a9 i5 i6, sV b0 i8 c22, sV b5 j0 j1] 197), (eI a8 r6.at_ i4 3), (eA a9 boolC r6.done i7 4), (eA b0 boolC r6.on i9 4), (eI b5 r6.way j2 3), (eI (some b55) d2 ([]) 3), (eI d7 d8 g8 3)]
      · exact Vm
      · exact rfl
      · kernel_rfl
      · kernel_rfl
      · kernel_rfl
      · exact rfl
      · exact rfl
      · exact rfl
      · exact rfl
      · exact Ws (by repeat constructor)
      ·
       refine ⟨?_, ?_, ?_, ?_, ?_, ?_, trivial⟩
       · rintro vs es Es Hx -; refine Zv (D := []) rfl ?_; refine Zb Za ?_; refine Zi ?_; exact Yc rfl ⟨rfl, rfl⟩ (Ya _) rfl
       · rintro vs es Es Hx ⟨⟨q1, u8⟩, -⟩; refine Zv (D := [(80, vs 0)]) rfl ?_; rw [q1]; refine TO.slL (xs := a2) (g9.len g1) q0 Zd Xa Xb ?_; refine Zi ?_; exact Yc rfl ⟨rfl, rfl⟩ (Ya _) (by show [(80, vs 0)] = _; rw [q1])
       · rintro vs es Es Hx hb - hHR; obtain rfl : hb = [(eI c3 a6 e3 3)] := hHR; refine Zv (D := []) rfl ?_; refine Zb Za ?_; refine Zi ?_; exact X.obEt (hb' := []) (e' := [(eI c3 a6 e3 3)]) rfl ⟨rfl, rfl⟩ rfl (Ws (by repeat constructor)) rfl
       · rintro vs es Es Hx -; refine Zv (D := []) rfl ?_; refine Zb Za ?_; refine Zi ?_; exact Yc rfl ⟨rfl, rfl⟩ (Ya _) rfl
       · rintro vs es Es Hx ⟨⟨q2, u9⟩, -⟩; refine Zv (D := [(83, vs 3)]) rfl ?_; rw [q2]; refine Gm [iV 0] [0] Za Xa Xb Uz rr2 (by simp only [Xh, setCells, Value.cells, List.toList_toArray, List.getD_cons_zero, List.getD_cons_succ, List.set_cons_zero, List.set_cons_succ]; rfl) (by kernel_rfl) ?_; intro j5; refine Zi ?_; exact Yc rfl ⟨j5, rfl, rfl⟩ (Ws (by repeat constructor)) (by show [(83, vs 3)] = _; rw [q2])
       · rintro vs es Es Hx ⟨⟨q3, o7⟩, ⟨j5, q4, q5⟩, -⟩; refine Zv (D := [(82, vs 2), (84, vs 4)]) rfl ?_; rw [q3, q4]; refine Kl (H := _ ++ ((es 2 ++ (es 4 ++ ([]))) ++ _)) rfl ?_; rw [o7, q5]; refine Z1x (f := iC) (s := 1) (xs := a6) (ob := c3) (j := e3) (ys := [(a2.getD (0 : Int).toNat 0)]) (fun _ => rfl) (fun _ => rfl) Z0r u7 Zd tk8 k1 l6 l7 l8 l9 (fun wc hwc => (hwc.rs (f := iC) (s := 1) (xs := [(a2.getD (0 : Int).toNat 0)]) (j := ([])) (fun _ => rfl) mm9 rfl (Nat.le_refl _) Up)) ?_; intro d9 f9 h5 k3 k4 k5 k6; refine Zi ?_; exact Yc rfl ⟨d9, f9, h5, rfl, rfl, k3, k4, k5, k6⟩ (by show Pick (_ ++ (_ ++ ((es 4 ++ ([])) ++ _))) _; rw [q5]; exact Ws (by repeat constructor)) (by show [(82, vs 2), (84, vs 4)] = _; rw [q3, q4])
      ·
       rintro vs es hb ⟨⟨q1, u8⟩, ⟨x7, t3⟩, ⟨q3, o7⟩, ⟨q2, u9⟩, ⟨j5, q4, q5⟩, ⟨d9, f9, h5, x8, t4, k3, k4, k5, k6⟩, -⟩ hHR; obtain rfl : hb = [] := hHR; refine Zv (D := [(80, vs 0), (81, vs 1), (82, vs 2), (83, vs 3), (84, vs 4), (85, vs 5)]) rfl ?_; refine Kl (H := _ ++ (_ ++ (es 0 ++ (es 1 ++ (es 3 ++ (es 4 ++ (es 5 ++ ([])))))))) rfl ?_; rw [u8, t3, u9, q5, t4]; rw [q1, x7, q3, q2, q4, x8]; clear x8 q4 q2 q3 x7 q1 u8 t3 o7 u9 q5 t4; refine Yq Za ?_; refine aN Za ?_; refine Zp (aT [2, 6, 7, 12, 13, 16] rfl) ?_; obtain ⟨k7, H⟩ := Yb H; refine sR Y9 rfl ?_; refine Zb Za ?_; refine TO.nilCheck Za ?_; refine Zk Za Nl ?_; refine Zm Za Ls Wb rfl ?_; refine Zb Za ?_; refine Xz e2.rs (e2.inb k7) Zd Kv Jd ?_; refine Z1b e2 k7 Za Z08 ?_; refine Xv (xs := (r6.out.getD (a2.getD (0 : Int).toNat 0).toNat [])) ((e2.at k7).len) Zd Xa ?_; refine Zb Za ?_; refine dN ?_; refine T.block ?_; obtain ⟨C4, C5, C6⟩ := Zu H; refine Z55 (fun (o4 : Nat) (c4 a7 : List Int) (e5 : Option Addr) (h0 h1 : Nat) (e0 : Option Nat) (e1 : List Int) (g0 f3 : Nat) (h2 : List Value) (d0 : Int) => Yu (fun s => Lq n0 r6 a6 a2 s.1 s.2.1 s.2.2) o4 (c4, a7, d0) = some C4 ∧ c4.length = n0.N.toNat ∧ Qu e0 e5 h0 h1 a7 e1 g0 f3 ∧ e1.length = g0 ∧ g0 ≤ f3 ∧ h2.length = (f3 - g0) * 1 ∧ (e0 = none → f3 = 0) ∧ f3 ≤ 9223372036854775807) (fun (o4 : Nat) (c4 a7 : List Int) (e5 : Option Addr) (h0 h1 : Nat) (e0 : Option Nat) (e1 : List Int) (g0 f3 : Nat) (h2 : List Value) (d0 : Int) => [(2, pV b1), (6, pV b8), (7, nV b55 n0.N.toNat n0.N.toNat), (12, sV d9 (d4 + 1) f9), (13, .slice e5 h0 h1), (92, .slice (((l0.map RowB.sm).getD (a2.getD (0 : Int).toNat 0).toNat default).1) (((l0.map RowB.sm).getD (a2.getD (0 : Int).toNat 0).toNat default).2.1) (((l0.map RowB.sm).getD (a2.getD (0 : Int).toNat 0).toNat default).2.2)), (93, iV ((r6.out.getD (a2.getD (0 : Int).toNat 0).toNat []).length : Int)), (94, iV d0)]) (fun (o4 : Nat) (c4 a7 : List Int) (e5 : Option Addr) (h0 h1 : Nat) (e0 : Option Nat) (e1 : List Int) (g0 f3 : Nat) (h2 : List Value) (d0 : Int) => [(eC b1 #[iV n0.N, iV n0.S, iV n0.T, .slice a5 a3 a4] 24), (eC b8 #[iV r6.n.N, iV r6.n.S, iV r6.n.T, .slice a5 a3 a4, nV b9 d1 d1, sV a8 i2 c14, sV a9 i5 i6, sV b0 i8 c22, sV b5 j0 j1] 197), (eI a8 r6.at_ i4 3), (eA a9 boolC r6.done i7 4), (eA b0 boolC r6.on i9 4), (eI b5 r6.way j2 3), (eI (some b55) c4 ([]) 3), (eI d9 (a6 ++ ([(a2.getD (0 : Int).toNat 0)])) h5 3), (eI e0 e1 h2 3)]) (fun (o4 : Nat) (c4 a7 : List Int) (e5 : Option Addr) (h0 h1 : Nat) (e0 : Option Nat) (e1 : List Int) (g0 f3 : Nat) (h2 : List Value) (d0 : Int) => o4) Xc d2 (a2.drop (1 : Int).toNat) (Wx f2 (1 : Int).toNat g7 1) (h4 - (1 : Int).toNat) (g7 - (1 : Int).toNat) d7 d8 g4 f8 g8 0 ⟨C5, p6, (g9.drop q0 g1 h6), g1, h6, p7, k2, p8⟩ (aF rfl) (Zc Ze (Zc Ze (Zc Ze (Zc Ze (Zc Ze (Zc Ze (Zc Ze (Zc Xk (Zc Ze Zf))))))))) ?_; rintro o4 c4 a7 e5 h0 h1 e0 e1 g0 f3 h2 d0 ⟨H, g2, h7, h8, h9, k8, i0, k9⟩; obtain ⟨x9, C7, rfl, H, v0⟩ := Vb H; have H : Lq n0 r6 a6 a2 c4 a7 d0 = some C7 := H; unfold Lq at H; refine sR Y1 rfl ?_; refine Zn Zl ?_; refine dS ?_; rcases Zs H with ⟨m8, H⟩ | ⟨m8, H⟩
       ·
        refine Xp rfl m8 ?_; refine T.skip ?_; refine Yh ?_; refine Zo ?_; refine T.block ?_; obtain ⟨q6, H⟩ := Yb H; refine sR Y3 rfl ?_; refine Xz (e2.at k7) q6 Zd Xa Xb ?_; refine Ue (e2.at k7) q6 Za Zx ?_; refine aN Za ?_; obtain ⟨q7, H⟩ := Yb H; refine sR Y7 rfl ?_; refine Zk Za Wz ?_; refine Zm Za Vd Zj rfl ?_; refine Zb Za ?_; refine Xz c9 q7 Zd Xw Wr ?_; refine TO.faR Za Lf ?_; refine Z14 (v := iV ((n0.Arcs.getD ((r6.out.getD (a2.getD (0 : Int).toNat 0).toNat []).getD d0.toNat 0).toNat default).to)) default c9 q7 Zd Zx ?_; refine aN Za ?_; refine Zp (aT [2, 6, 7, 12, 13, 92, 93, 94, 19] rfl) ?_; obtain ⟨q8, v2, q9, H⟩ := gd3 H; refine sR Y7 rfl ?_; refine Zb Za ?_; refine Zb Za ?_; refine Ul g2 q8 Zd Xa Xb ?_; refine Ng q8 Za Zx mm6 ?_; refine Nh v2 Zd ?_; refine Ul g2 q9 Zd Xa Xb ?_; refine Z1t q9 Za tk6 Xb ?_; refine dN ?_; obtain ⟨r2, H⟩ := Yb H; refine sR Y5 rfl ?_; refine Zb Za ?_; refine Zb Za ?_; refine Ul (List.length_set.trans g2) r2 Zd Xa Xb ?_; refine Ng r2 Za Zx Zj ?_; refine Zn Zl ?_; refine dN ?_; refine Zp (aT [2, 6, 7, 12, 13, 92, 93, 94, 19, 114] rfl) ?_; rcases Zs H with ⟨m9, H⟩ | ⟨m9, H⟩
        · refine Xp rfl m9 ?_; refine Zo ?_; obtain ⟨⟨v3, C8⟩, v4, H⟩ := Zu H; refine rG Y8 rfl ?_; refine Zb Za ?_; refine Zb Za ?_; refine Yj Z50 Za (fun wc hwc => Z3r (x0 := a7) (target1 := (n0.Arcs.getD ((r6.out.getD (a2.getD (0 : Int).toNat 0).toNat []).getD d0.toNat 0).toNat default).to) wc (h7.rs hwc (fun _ => rfl) mm8 h8 h9 i0) v4) ?_; rintro _ _ ⟨rfl, rfl⟩; refine Zb Za ?_; refine TO.extract Zd ?_; refine TO.extract Zd ?_; refine Yq Za ?_; refine aN Za ?_; refine Zp (aT [2, 6, 7, 12, 13, 92, 93, 94, 19, 20] rfl) ?_; obtain ⟨v5, v6, H⟩ := Zu H; refine rG Y6 rfl ?_; refine Zb Za ?_; refine Zb Za ?_; refine Zb Za ?_; refine Gm [iV 0] [0] Za Xa Xb Uz rr2 (by simp only [Xh, setCells, Value.cells, List.toList_toArray, List.getD_cons_zero, List.getD_cons_succ, List.set_cons_zero, List.set_cons_succ]; rfl) (by kernel_rfl) ?_; intro C9; refine Z3j Z5c Za (Take.gone tk9 (Take.gone Ze (Gone.refl _))) rfl (fun wc hwc => Z46 (xs0 := a7) (i1 := v3) (us2 := [(n0.Arcs.getD ((r6.out.getD (a2.getD (0 : Int).toNat 0).toNat []).getD d0.toNat 0).toNat default).to]) wc (hwc.self (Zc tk9 (Zc Ze Zf)) rfl) h7 h8 h9 k8 i0 k9 rfl (Nat.le_refl _) (Vg _ _) Up v6) ?_; rintro _ _ ⟨r4, v7, v8, r5, v9, w0, r7, w2, rfl, rfl, r8, r9, s1, s5, s6, s7⟩; refine Yq Za ?_; refine Zi ?_; refine Xf ?_; refine Yh ?_; obtain ⟨w3, H⟩ := Yb H; refine rG Y2 rfl ?_; refine Xr w3 Zd ?_; refine Zb Za ?_; refine Zi ?_; have H := Wm H v0; exact Z2p x9 (c4.set ((n0.Arcs.getD ((r6.out.getD (a2.getD (0 : Int).toNat 0).toNat []).getD d0.toNat 0).toNat default).to).toNat ((c4.getD ((n0.Arcs.getD ((r6.out.getD (a2.getD (0 : Int).toNat 0).toNat []).getD d0.toNat 0).toNat default).to).toNat 0) - 1)) v5 r4 v7 v8 r5 r7 v9 w0 w2 (d0 + 1) ⟨H, (List.length_set.trans g2), r8, r9, s1, s5, s6, s7⟩ (Nat.lt_succ_self _) (aF rfl) (Zc tk3 (Zc tk3 (Zc tk3 (Zc tk3 (Zc tk3 (Zc tk3 (Zc Xk (Zc Xk (Zc Ze Zf)))))))))
        · refine Xo rfl m9 ?_; refine T.skip ?_; refine Xf ?_; refine Yh ?_; obtain ⟨w4, H⟩ := Yb H; refine rG Y2 rfl ?_; refine Xr w4 Zd ?_; refine Zb Za ?_; refine Zi ?_; have H := Wm H v0; exact Z2p x9 (c4.set ((n0.Arcs.getD ((r6.out.getD (a2.getD (0 : Int).toNat 0).toNat []).getD d0.toNat 0).toNat default).to).toNat ((c4.getD ((n0.Arcs.getD ((r6.out.getD (a2.getD (0 : Int).toNat 0).toNat []).getD d0.toNat 0).toNat default).to).toNat 0) - 1)) a7 e5 h0 h1 e0 e1 g0 f3 h2 (d0 + 1) ⟨H, (List.length_set.trans g2), h7, h8, h9, k8, i0, k9⟩ (Nat.lt_succ_self _) (aF rfl) (Zc Zt (Zc Zt (Zc Zt (Zc Zt (Zc Zt (Zc Zt (Zc Ze (Zc Ze (Zc Ze Zf)))))))))
       · refine Xo rfl m8 ?_; refine T.exit ?_; refine Xg ?_; have H := Wg H v0 ▸ C6; refine Xg ?_; refine Ww ?_; refine Xf ?_; have H := Wm H x6; exact Z41 C2 c4 (a6 ++ ([(a2.getD (0 : Int).toNat 0)])) (d4 + 1) f9 d9 h5 a7 e5 h0 h1 e0 e1 g0 f3 h2 ⟨H, g2, (Kk k1 rfl), k3, k4, k5, k6, h7, h8, h9, k8, i0, k9⟩ (Nat.lt_succ_self _) (aF rfl) (Zc Ze (Zc Ze (Zc Ze (Zc Ze (Zc Ze (Zc Ze (Zc Ze (Zc Ze (Zc Ze Zf)))))))))
     · refine Xo rfl m7 ?_; refine T.exit ?_; refine Xg ?_; have H := Wg H x6 ▸ C1; refine Xg ?_; refine Ww ?_; exact Z12 a6 d4 f0 c3 e3 ⟨H, k1, l6, l7, l8, l9⟩ (aF rfl) (Zc Ze (Zc tk6 Zf))
    ·
     rintro d3 g6 g3 e9 j4 ⟨H, m0, s8, s9, t0, y0⟩; unfold Rs at H; refine Zo ?_; refine sR Y5 rfl ?_; refine Zb Za ?_; refine Xv (xs := d3) m0 Zd Xa ?_; refine Zk Za Wl ?_; refine Zm Za Zx Zj rfl ?_; refine Zn Zl ?_; refine dN ?_; rcases Zs H with ⟨n5, H⟩ | ⟨n5, H⟩
     · refine Xp rfl n5 ?_; refine sR Y2 rfl ?_; refine Yq Za ?_; refine aN Za ?_; refine T.ret ?_; refine Yi ?_; obtain ⟨rfl, rfl⟩ := ret2 H; refine X.reb j7 ?_; exact Vz Za (Res.tmp rfl) (Res.tmp rfl) (Pick.none Zf) ⟨none, 0, 0, ([]), rfl, rfl, rfl, (Nat.le_refl _), (Vg 0 _), (fun _ => rfl)⟩
     · refine Xo rfl n5 ?_; refine T.skip ?_; refine Yh ?_; refine sR Y3 rfl ?_; refine Zb Za ?_; refine Yq Za ?_; refine aN Za ?_; refine Zp (aT [4, 5] rfl) ?_; refine T.ret ?_; obtain ⟨rfl, rfl⟩ := ret2 H; refine X.reb j7 ?_; exact Vz Za (Res.tmp rfl) (Res.tmp rfl) (Zc Zt Zf) ⟨e9, g6, g3, j4, rfl, rfl, m0, s8, s9, t0⟩
end Go.Proofs.YtgafnhfbeiofnaaGreat.Ax
namespace Go.Proofs.YtgafnhfbeiofnaaGreat.Ax
open Go Go.Acq Go.RowKit Go.Proofs
set_option maxHeartbeats 8000000
set_option maxRecDepth 20000
def Rx : List (FuncId × Vx.XK) := [(232, .ld), (242, .st), (284, .add), (293, .cas)]
theorem Z1e : Vx.XsOk Tryz.prog Rx := ⟨⟨Tryz.f232, Tryz.func232, by kernel_rfl, rfl, by kernel_rfl, by kernel_rfl⟩, ⟨Tryz.f242, Tryz.func242, by kernel_rfl, rfl, by kernel_rfl, by kernel_rfl⟩, ⟨Tryz.f284, Tryz.func284, by kernel_rfl, rfl, by kernel_rfl, by kernel_rfl⟩, ⟨Tryz.f293, Tryz.func293, by kernel_rfl, rfl, by kernel_rfl, by kernel_rfl⟩, trivial⟩
theorem ordX : Vx.XOk Tryz.prog 70 (.deep [.agg [.int .i64 (.lit 4), .int .i64 (.lit 0), .int .i64 (.lit 3), .sl 0 0 5 (.lit 5)], .sl 1 0 5 (.rest 0)]
  [some ([.int .i64 (.lit 0), .int .i64 (.lit 1), .int .i64 (.lit 5), .int .i64 (.lit 0), .int .i64 (.lit 2), .int .i64 (.lit 4), .int .i64 (.lit 1), .int .i64 (.lit 3), .int .i64 (.lit 3), .int .i64 (.lit 2), .int .i64 (.lit 3), .int .i64 (.lit 6), .int .i64 (.lit 1), .int .i64 (.lit 2), .int .i64 (.lit 2)], 55, false),
   some ([.int .i64 (.lit 5), .int .i64 (.lit 4), .int .i64 (.lit 3), .int .i64 (.lit 6), .int .i64 (.lit 2)], 2, true)]
  (.tup [.sl 2 0 4 (.rest 0), .bool (.lit true)])
  [some ([.int .i64 (.lit 0), .int .i64 (.lit 1), .int .i64 (.lit 5), .int .i64 (.lit 0), .int .i64 (.lit 2), .int .i64 (.lit 4), .int .i64 (.lit 1), .int .i64 (.lit 3), .int .i64 (.lit 3), .int .i64 (.lit 2), .int .i64 (.lit 3), .int .i64 (.lit 6), .int .i64 (.lit 1), .int .i64 (.lit 2), .int .i64 (.lit 2)], 55, false),
   some ([.int .i64 (.lit 5), .int .i64 (.lit 4), .int .i64 (.lit 3), .int .i64 (.lit 6), .int .i64 (.lit 2)], 2, true),
   some ([.int .i64 (.lit 0), .int .i64 (.lit 1), .int .i64 (.lit 2), .int .i64 (.lit 3)], 3, true)]) := by
  refine Vx.row_known (hs := [some ([.int .i64 (.lit 0), .int .i64 (.lit 1), .int .i64 (.lit 5), .int .i64 (.lit 0), .int .i64 (.lit 2), .int .i64 (.lit 4), .int .i64 (.lit 1), .int .i64 (.lit 3), .int .i64 (.lit 3), .int .i64 (.lit 2), .int .i64 (.lit 3), .int .i64 (.lit 6), .int .i64 (.lit 1), .int .i64 (.lit 2), .int .i64 (.lit 2)], 55, false), some ([.int .i64 (.lit 5), .int .i64 (.lit 4), .int .i64 (.lit 3), .int .i64 (.lit 6), .int .i64 (.lit 2)], 2, true)]) (e := 3) (k := .i64) (xs := [0, 1, 2, 3]) (by kernel_rfl) (by simp) (by kernel_rfl) (by kernel_rfl) (by kernel_rfl) ?_
  intro vr σ w M args ha hσ hw
  cases ha with | cons h0 ha =>
  cases ha with | cons h1 ha =>
  cases ha
  obtain ⟨l, rfl, g0⟩ := h0.agg_inv
  cases g0 with | cons a0 g0 =>
  cases g0 with | cons a1 g0 =>
  cases g0 with | cons a2 g0 =>
  cases g0 with | cons a3 g0 =>
  cases g0
  obtain rfl := a0.lit_inv
  obtain rfl := a1.lit_inv
  obtain rfl := a2.lit_inv
  obtain ⟨b0, r0, m0, s0, c0, rfl, e0⟩ := a3.sl_inv
  obtain ⟨b1, r1, m1, s1, c1, rfl, e1⟩ := h1.sl_inv
  exact Z6a (n0 := ⟨4, 0, 3, [⟨0, 1, 5⟩, ⟨0, 2, 4⟩, ⟨1, 3, 3⟩, ⟨2, 3, 6⟩, ⟨1, 2, 2⟩]⟩) (f1 := [5, 4, 3, 6, 2]) w (hw.rs (g := fun a : Arc => [a.fr, a.to, a.cap]) (k := .i64) rfl s0 (fun _ => rfl) rfl c0) (hw.rs (g := fun x : Int => [x]) (k := .i64) rfl s1 (fun _ => rfl) rfl c1) (r0 := [0, 1, 2, 3]) (r1 := true) (by decide +kernel)
theorem Z56 : Vx.okD Tryz.prog Rx 1000 58 [.ptr 0 0, .agg [.sl 1 0 10 (.rest 0), .sl 2 0 4 (.lit 4), .sl 3 0 4 (.lit 4)], .nils, .int .i64 (.lit 1073741824)]
  [some ([.int .i64 (.lit 4), .int .i64 (.lit 0), .int .i64 (.lit 3), .sl 4 0 5 (.lit 5), .sl 5 0 10 (.lit 10), .sl 6 0 10 (.lit 10), .sl 7 0 10 (.lit 10), .sl 8 0 10 (.lit 10), .sl 9 0 10 (.lit 10), .int .i64 (.lit 4), .int .i64 (.lit 10), .int .i64 (.lit 1), .int .i64 (.lit 4), .int .i64 (.lit 0), .int .i64 (.lit 10), .int .i64 (.lit 14), .int .i64 (.lit 18), .int .i64 (.lit 22), .int .i64 (.lit 23), .int .i64 (.lit 24), .int .i64 (.lit 25), .int .i64 (.lit 26), .int .i64 (.lit 32), .ptr 10 0, .int .i64 (.lit 50)], 166, false),
   some ([.int .i64 (.lit 0), .int .i64 (.lit 0), .int .i64 (.lit 5), .int .i64 (.lit 3), .int .i64 (.lit 2), .int .i64 (.lit 4), .int .i64 (.lit 6), .int .i64 (.lit 0), .int .i64 (.lit 0), .int .i64 (.lit 0)], 2, true),
   some ([.int .i64 (.lit (-9)), .int .i64 (.lit 5), .int .i64 (.lit 4), .int .i64 (.lit 0)], 2, false),
   some ([.int .i64 (.lit 4), .int .i64 (.lit 1), .int .i64 (.lit 1), .int .i64 (.lit 0)], 3, false),
   some ([.int .i64 (.lit 0), .int .i64 (.lit 2), .int .i64 (.lit 5), .int .i64 (.lit 8), .int .i64 (.lit 10)], 3, false),
   some ([.int .i64 (.lit 1), .int .i64 (.lit 2), .int .i64 (.lit 0), .int .i64 (.lit 3), .int .i64 (.lit 2), .int .i64 (.lit 0), .int .i64 (.lit 3), .int .i64 (.lit 1), .int .i64 (.lit 1), .int .i64 (.lit 2)], 3, false),
   some ([.int .i64 (.lit 2), .int .i64 (.lit 5), .int .i64 (.lit 0), .int .i64 (.lit 8), .int .i64 (.lit 7), .int .i64 (.lit 1), .int .i64 (.lit 9), .int .i64 (.lit 4), .int .i64 (.lit 3), .int .i64 (.lit 6)], 3, false),
   some ([.int .i64 (.lit 5), .int .i64 (.lit 4), .int .i64 (.lit 0), .int .i64 (.lit 3), .int .i64 (.lit 2), .int .i64 (.lit 0), .int .i64 (.lit 6), .int .i64 (.lit 0), .int .i64 (.lit 0), .int .i64 (.lit 0)], 2, false),
   some ([.int .i64 (.lit 0), .int .i64 (.lit 1), .int .i64 (.lit 0), .int .i64 (.lit 2), .int .i64 (.lit 4), .int .i64 (.lit 1), .int .i64 (.lit 3), .int .i64 (.lit 4), .int .i64 (.lit 2), .int .i64 (.lit 3)], 3, false),
   some ([.bool (.lit false), .bool (.lit false), .bool (.lit true), .bool (.lit false), .bool (.lit false), .bool (.lit true), .bool (.lit false), .bool (.lit true), .bool (.lit true), .bool (.lit true)], 4, false),
   some ([.sl 11 0 32 (.lit 32)], 219, false),
   some ([.int .i64 (.lit 0), .int .i64 (.lit 0), .int .i64 (.lit 0), .int .i64 (.lit 0), .int .i64 (.lit 0), .int .i64 (.lit 0), .int .i64 (.lit 0), .int .i64 (.lit 0), .int .i64 (.lit 0), .int .i64 (.lit 0), .int .i64 (.lit 0), .int .i64 (.lit 0), .int .i64 (.lit 0), .int .i64 (.lit 0), .int .i64 (.lit 0), .int .i64 (.lit 0), .int .i64 (.lit 0), .int .i64 (.lit 0), .int .i64 (.lit 0), .int .i64 (.lit 0), .int .i64 (.lit 0), .int .i64 (.lit 0), .int .i64 (.lit 0), .int .i64 (.lit 0), .int .i64 (.lit 0), .int .i64 (.lit 0), .int .i64 (.lit 0), .int .i64 (.lit 0), .int .i64 (.lit 0), .int .i64 (.lit 0), .int .i64 (.lit 0), .int .i64 (.lit 0)], 299, false)]
  (.tup [.agg [.sl 12 0 10 (.lit 10), .sl 13 0 4 (.lit 4), .sl 14 0 4 (.lit 4)], .agg [.int .i64 (.lit 96), .int .i64 (.lit 96), .bool (.lit false), .sl 15 0 5 (.rest 0)], .int .i64 (.lit 0)])
  [some ([.int .i64 (.lit 4), .int .i64 (.lit 0), .int .i64 (.lit 3), .sl 4 0 5 (.lit 5), .sl 5 0 10 (.lit 10), .sl 6 0 10 (.lit 10), .sl 7 0 10 (.lit 10), .sl 8 0 10 (.lit 10), .sl 9 0 10 (.lit 10), .int .i64 (.lit 4), .int .i64 (.lit 10), .int .i64 (.lit 1), .int .i64 (.lit 4), .int .i64 (.lit 0), .int .i64 (.lit 10), .int .i64 (.lit 14), .int .i64 (.lit 18), .int .i64 (.lit 22), .int .i64 (.lit 23), .int .i64 (.lit 24), .int .i64 (.lit 25), .int .i64 (.lit 26), .int .i64 (.lit 32), .ptr 10 0, .int .i64 (.lit 50)], 166, false),
   some ([.int .i64 (.lit 0), .int .i64 (.lit 0), .int .i64 (.lit 5), .int .i64 (.lit 3), .int .i64 (.lit 2), .int .i64 (.lit 4), .int .i64 (.lit 6), .int .i64 (.lit 0), .int .i64 (.lit 0), .int .i64 (.lit 0)], 2, true),
   some ([.int .i64 (.lit (-9)), .int .i64 (.lit 5), .int .i64 (.lit 4), .int .i64 (.lit 0)], 2, false),
   some ([.int .i64 (.lit 4), .int .i64 (.lit 1), .int .i64 (.lit 1), .int .i64 (.lit 0)], 3, false),
   some ([.int .i64 (.lit 0), .int .i64 (.lit 2), .int .i64 (.lit 5), .int .i64 (.lit 8), .int .i64 (.lit 10)], 3, false),
   some ([.int .i64 (.lit 1), .int .i64 (.lit 2), .int .i64 (.lit 0), .int .i64 (.lit 3), .int .i64 (.lit 2), .int .i64 (.lit 0), .int .i64 (.lit 3), .int .i64 (.lit 1), .int .i64 (.lit 1), .int .i64 (.lit 2)], 3, false),
   some ([.int .i64 (.lit 2), .int .i64 (.lit 5), .int .i64 (.lit 0), .int .i64 (.lit 8), .int .i64 (.lit 7), .int .i64 (.lit 1), .int .i64 (.lit 9), .int .i64 (.lit 4), .int .i64 (.lit 3), .int .i64 (.lit 6)], 3, false),
   some ([.int .i64 (.lit 5), .int .i64 (.lit 4), .int .i64 (.lit 0), .int .i64 (.lit 3), .int .i64 (.lit 2), .int .i64 (.lit 0), .int .i64 (.lit 6), .int .i64 (.lit 0), .int .i64 (.lit 0), .int .i64 (.lit 0)], 2, false),
   some ([.int .i64 (.lit 0), .int .i64 (.lit 1), .int .i64 (.lit 0), .int .i64 (.lit 2), .int .i64 (.lit 4), .int .i64 (.lit 1), .int .i64 (.lit 3), .int .i64 (.lit 4), .int .i64 (.lit 2), .int .i64 (.lit 3)], 3, false),
   some ([.bool (.lit false), .bool (.lit false), .bool (.lit true), .bool (.lit false), .bool (.lit false), .bool (.lit true), .bool (.lit false), .bool (.lit true), .bool (.lit true), .bool (.lit true)], 4, false),
   some ([.sl 11 0 32 (.lit 32)], 219, false),
   some ([.int .i64 (.lit 0), .int .i64 (.lit 0), .int .i64 (.lit 5), .int .i64 (.lit 0), .int .i64 (.lit 0), .int .i64 (.lit 4), .int .i64 (.lit 0), .int .i64 (.lit 2), .int .i64 (.lit 3), .int .i64 (.lit 6), .int .i64 (.lit (-9)), .int .i64 (.lit 0), .int .i64 (.lit 0), .int .i64 (.lit 9), .int .i64 (.lit 4), .int .i64 (.lit 2), .int .i64 (.lit 1), .int .i64 (.lit 0), .int .i64 (.lit 0), .int .i64 (.lit 0), .int .i64 (.lit 0), .int .i64 (.lit 0), .int .i64 (.lit 0), .int .i64 (.lit 0), .int .i64 (.lit 1), .int .i64 (.lit 1), .int .i64 (.lit 2), .int .i64 (.lit 2), .int .i64 (.lit 1), .int .i64 (.lit 2), .int .i64 (.lit 0), .int .i64 (.lit 0)], 299, false),
   some ([.int .i64 (.lit 0), .int .i64 (.lit 0), .int .i64 (.lit 5), .int .i64 (.lit 0), .int .i64 (.lit 0), .int .i64 (.lit 4), .int .i64 (.lit 0), .int .i64 (.lit 2), .int .i64 (.lit 3), .int .i64 (.lit 6)], 2, false),
   some ([.int .i64 (.lit (-9)), .int .i64 (.lit 0), .int .i64 (.lit 0), .int .i64 (.lit 9)], 2, false),
   some ([.int .i64 (.lit 4), .int .i64 (.lit 2), .int .i64 (.lit 1), .int .i64 (.lit 0)], 3, false),
   some ([.int .i64 (.lit 0), .int .u8 (.lit 1), .int .i64 (.lit 2), .int .i64 (.lit 6), .int .i64 (.lit 4), .int .i64 (.lit 1), .int .i64 (.lit 0), .int .i64 (.lit 0), .int .u8 (.lit 1), .int .i64 (.lit 1), .int .i64 (.lit 3), .int .i64 (.lit 3), .int .i64 (.lit 1), .int .i64 (.lit 0), .int .i64 (.lit 0), .int .u8 (.lit 2), .int .i64 (.lit 1), .int .i64 (.lit 0), .int .i64 (.lit 0), .int .i64 (.lit 2), .int .i64 (.lit 1), .int .i64 (.lit 0), .int .u8 (.lit 1), .int .i64 (.lit 1), .int .i64 (.lit 4), .int .i64 (.lit 2), .int .i64 (.lit 2), .int .i64 (.lit 1), .int .i64 (.lit 0), .int .u8 (.lit 1), .int .i64 (.lit 2), .int .i64 (.lit 6), .int .i64 (.lit 2), .int .i64 (.lit 1), .int .i64 (.lit 0)], 92, true)] = true := by kernel_rfl
def Z18 : List (FuncId × Vx.XK) := (58, .deep [.ptr 0 0, .agg [.sl 1 0 10 (.rest 0), .sl 2 0 4 (.lit 4), .sl 3 0 4 (.lit 4)], .nils, .int .i64 (.lit 1073741824)]
  [some ([.int .i64 (.lit 4), .int .i64 (.lit 0), .int .i64 (.lit 3), .sl 4 0 5 (.lit 5), .sl 5 0 10 (.lit 10), .sl 6 0 10 (.lit 10), .sl 7 0 10 (.lit 10), .sl 8 0 10 (.lit 10), .sl 9 0 10 (.lit 10), .int .i64 (.lit 4), .int .i64 (.lit 10), .int .i64 (.lit 1), .int .i64 (.lit 4), .int .i64 (.lit 0), .int .i64 (.lit 10), .int .i64 (.lit 14), .int .i64 (.lit 18), .int .i64 (.lit 22), .int .i64 (.lit 23), .int .i64 (.lit 24), .int .i64 (.lit 25), .int .i64 (.lit 26), .int .i64 (.lit 32), .ptr 10 0, .int .i64 (.lit 50)], 166, false),
   some ([.int .i64 (.lit 0), .int .i64 (.lit 0), .int .i64 (.lit 5), .int .i64 (.lit 3), .int .i64 (.lit 2), .int .i64 (.lit 4), .int .i64 (.lit 6), .int .i64 (.lit 0), .int .i64 (.lit 0), .int .i64 (.lit 0)], 2, true),
   some ([.int .i64 (.lit (-9)), .int .i64 (.lit 5), .int .i64 (.lit 4), .int .i64 (.lit 0)], 2, false),
   some ([.int .i64 (.lit 4), .int .i64 (.lit 1), .int .i64 (.lit 1), .int .i64 (.lit 0)], 3, false),
   some ([.int .i64 (.lit 0), .int .i64 (.lit 2), .int .i64 (.lit 5), .int .i64 (.lit 8), .int .i64 (.lit 10)], 3, false),
   some ([.int .i64 (.lit 1), .int .i64 (.lit 2), .int .i64 (.lit 0), .int .i64 (.lit 3), .int .i64 (.lit 2), .int .i64 (.lit 0), .int .i64 (.lit 3), .int .i64 (.lit 1), .int .i64 (.lit 1), .int .i64 (.lit 2)], 3, false),
   some ([.int .i64 (.lit 2), .int .i64 (.lit 5), .int .i64 (.lit 0), .int .i64 (.lit 8), .int .i64 (.lit 7), .int .i64 (.lit 1), .int .i64 (.lit 9), .int .i64 (.lit 4), .int .i64 (.lit 3), .int .i64 (.lit 6)], 3, false),
   some ([.int .i64 (.lit 5), .int .i64 (.lit 4), .int .i64 (.lit 0), .int .i64 (.lit 3), .int .i64 (.lit 2), .int .i64 (.lit 0), .int .i64 (.lit 6), .int .i64 (.lit 0), .int .i64 (.lit 0), .int .i64 (.lit 0)], 2, false),
   some ([.int .i64 (.lit 0), .int .i64 (.lit 1), .int .i64 (.lit 0), .int .i64 (.lit 2), .int .i64 (.lit 4), .int .i64 (.lit 1), .int .i64 (.lit 3), .int .i64 (.lit 4), .int .i64 (.lit 2), .int .i64 (.lit 3)], 3, false),
   some ([.bool (.lit false), .bool (.lit false), .bool (.lit true), .bool (.lit false), .bool (.lit false), .bool (.lit true), .bool (.lit false), .bool (.lit true), .bool (.lit true), .bool (.lit true)], 4, false),
   some ([.sl 11 0 32 (.lit 32)], 219, false),
   some ([.int .i64 (.lit 0), .int .i64 (.lit 0), .int .i64 (.lit 0), .int .i64 (.lit 0), .int .i64 (.lit 0), .int .i64 (.lit 0), .int .i64 (.lit 0), .int .i64 (.lit 0), .int .i64 (.lit 0), .int .i64 (.lit 0), .int .i64 (.lit 0), .int .i64 (.lit 0), .int .i64 (.lit 0), .int .i64 (.lit 0), .int .i64 (.lit 0), .int .i64 (.lit 0), .int .i64 (.lit 0), .int .i64 (.lit 0), .int .i64 (.lit 0), .int .i64 (.lit 0), .int .i64 (.lit 0), .int .i64 (.lit 0), .int .i64 (.lit 0), .int .i64 (.lit 0), .int .i64 (.lit 0), .int .i64 (.lit 0), .int .i64 (.lit 0), .int .i64 (.lit 0), .int .i64 (.lit 0), .int .i64 (.lit 0), .int .i64 (.lit 0), .int .i64 (.lit 0)], 299, false)]
  (.tup [.agg [.sl 12 0 10 (.lit 10), .sl 13 0 4 (.lit 4), .sl 14 0 4 (.lit 4)], .agg [.int .i64 (.lit 96), .int .i64 (.lit 96), .bool (.lit false), .sl 15 0 5 (.rest 0)], .int .i64 (.lit 0)])
  [some ([.int .i64 (.lit 4), .int .i64 (.lit 0), .int .i64 (.lit 3), .sl 4 0 5 (.lit 5), .sl 5 0 10 (.lit 10), .sl 6 0 10 (.lit 10), .sl 7 0 10 (.lit 10), .sl 8 0 10 (.lit 10), .sl 9 0 10 (.lit 10), .int .i64 (.lit 4), .int .i64 (.lit 10), .int .i64 (.lit 1), .int .i64 (.lit 4), .int .i64 (.lit 0), .int .i64 (.lit 10), .int .i64 (.lit 14), .int .i64 (.lit 18), .int .i64 (.lit 22), .int .i64 (.lit 23), .int .i64 (.lit 24), .int .i64 (.lit 25), .int .i64 (.lit 26), .int .i64 (.lit 32), .ptr 10 0, .int .i64 (.lit 50)], 166, false),
   some ([.int .i64 (.lit 0), .int .i64 (.lit 0), .int .i64 (.lit 5), .int .i64 (.lit 3), .int .i64 (.lit 2), .int .i64 (.lit 4), .int .i64 (.lit 6), .int .i64 (.lit 0), .int .i64 (.lit 0), .int .i64 (.lit 0)], 2, true),
   some ([.int .i64 (.lit (-9)), .int .i64 (.lit 5), .int .i64 (.lit 4), .int .i64 (.lit 0)], 2, false),
   some ([.int .i64 (.lit 4), .int .i64 (.lit 1), .int .i64 (.lit 1), .int .i64 (.lit 0)], 3, false),
   some ([.int .i64 (.lit 0), .int .i64 (.lit 2), .int .i64 (.lit 5), .int .i64 (.lit 8), .int .i64 (.lit 10)], 3, false),
   some ([.int .i64 (.lit 1), .int .i64 (.lit 2), .int .i64 (.lit 0), .int .i64 (.lit 3), .int .i64 (.lit 2), .int .i64 (.lit 0), .int .i64 (.lit 3), .int .i64 (.lit 1), .int .i64 (.lit 1), .int .i64 (.lit 2)], 3, false),
   some ([.int .i64 (.lit 2), .int .i64 (.lit 5), .int .i64 (.lit 0), .int .i64 (.lit 8), .int .i64 (.lit 7), .int .i64 (.lit 1), .int .i64 (.lit 9), .int .i64 (.lit 4), .int .i64 (.lit 3), .int .i64 (.lit 6)], 3, false),
   some ([.int .i64 (.lit 5), .int .i64 (.lit 4), .int .i64 (.lit 0), .int .i64 (.lit 3), .int .i64 (.lit 2), .int .i64 (.lit 0), .int .i64 (.lit 6), .int .i64 (.lit 0), .int .i64 (.lit 0), .int .i64 (.lit 0)], 2, false),
   some ([.int .i64 (.lit 0), .int .i64 (.lit 1), .int .i64 (.lit 0), .int .i64 (.lit 2), .int .i64 (.lit 4), .int .i64 (.lit 1), .int .i64 (.lit 3), .int .i64 (.lit 4), .int .i64 (.lit 2), .int .i64 (.lit 3)], 3, false),
   some ([.bool (.lit false), .bool (.lit false), .bool (.lit true), .bool (.lit false), .bool (.lit false), .bool (.lit true), .bool (.lit false), .bool (.lit true), .bool (.lit true), .bool (.lit true)], 4, false),
   some ([.sl 11 0 32 (.lit 32)], 219, false),
   some ([.int .i64 (.lit 0), .int .i64 (.lit 0), .int .i64 (.lit 5), .int .i64 (.lit 0), .int .i64 (.lit 0), .int .i64 (.lit 4), .int .i64 (.lit 0), .int .i64 (.lit 2), .int .i64 (.lit 3), .int .i64 (.lit 6), .int .i64 (.lit (-9)), .int .i64 (.lit 0), .int .i64 (.lit 0), .int .i64 (.lit 9), .int .i64 (.lit 4), .int .i64 (.lit 2), .int .i64 (.lit 1), .int .i64 (.lit 0), .int .i64 (.lit 0), .int .i64 (.lit 0), .int .i64 (.lit 0), .int .i64 (.lit 0), .int .i64 (.lit 0), .int .i64 (.lit 0), .int .i64 (.lit 1), .int .i64 (.lit 1), .int .i64 (.lit 2), .int .i64 (.lit 2), .int .i64 (.lit 1), .int .i64 (.lit 2), .int .i64 (.lit 0), .int .i64 (.lit 0)], 299, false),
   some ([.int .i64 (.lit 0), .int .i64 (.lit 0), .int .i64 (.lit 5), .int .i64 (.lit 0), .int .i64 (.lit 0), .int .i64 (.lit 4), .int .i64 (.lit 0), .int .i64 (.lit 2), .int .i64 (.lit 3), .int .i64 (.lit 6)], 2, false),
   some ([.int .i64 (.lit (-9)), .int .i64 (.lit 0), .int .i64 (.lit 0), .int .i64 (.lit 9)], 2, false),
   some ([.int .i64 (.lit 4), .int .i64 (.lit 2), .int .i64 (.lit 1), .int .i64 (.lit 0)], 3, false),
   some ([.int .i64 (.lit 0), .int .u8 (.lit 1), .int .i64 (.lit 2), .int .i64 (.lit 6), .int .i64 (.lit 4), .int .i64 (.lit 1), .int .i64 (.lit 0), .int .i64 (.lit 0), .int .u8 (.lit 1), .int .i64 (.lit 1), .int .i64 (.lit 3), .int .i64 (.lit 3), .int .i64 (.lit 1), .int .i64 (.lit 0), .int .i64 (.lit 0), .int .u8 (.lit 2), .int .i64 (.lit 1), .int .i64 (.lit 0), .int .i64 (.lit 0), .int .i64 (.lit 2), .int .i64 (.lit 1), .int .i64 (.lit 0), .int .u8 (.lit 1), .int .i64 (.lit 1), .int .i64 (.lit 4), .int .i64 (.lit 2), .int .i64 (.lit 2), .int .i64 (.lit 1), .int .i64 (.lit 0), .int .u8 (.lit 1), .int .i64 (.lit 2), .int .i64 (.lit 6), .int .i64 (.lit 2), .int .i64 (.lit 1), .int .i64 (.lit 0)], 92, true)]) :: Rx
theorem Z5j : Vx.XsOk Tryz.prog Z18 := ⟨Vx.deep_of Vm Z1e Z56, Z1e⟩
def Rz : List (FuncId × Vx.XK) := (70, .deep [.agg [.int .i64 (.lit 4), .int .i64 (.lit 0), .int .i64 (.lit 3), .sl 0 0 5 (.lit 5)], .sl 1 0 5 (.rest 0)]
  [some ([.int .i64 (.lit 0), .int .i64 (.lit 1), .int .i64 (.lit 5), .int .i64 (.lit 0), .int .i64 (.lit 2), .int .i64 (.lit 4), .int .i64 (.lit 1), .int .i64 (.lit 3), .int .i64 (.lit 3), .int .i64 (.lit 2), .int .i64 (.lit 3), .int .i64 (.lit 6), .int .i64 (.lit 1), .int .i64 (.lit 2), .int .i64 (.lit 2)], 55, false),
   some ([.int .i64 (.lit 5), .int .i64 (.lit 4), .int .i64 (.lit 3), .int .i64 (.lit 6), .int .i64 (.lit 2)], 2, true)]
  (.tup [.sl 2 0 4 (.rest 0), .bool (.lit true)])
  [some ([.int .i64 (.lit 0), .int .i64 (.lit 1), .int .i64 (.lit 5), .int .i64 (.lit 0), .int .i64 (.lit 2), .int .i64 (.lit 4), .int .i64 (.lit 1), .int .i64 (.lit 3), .int .i64 (.lit 3), .int .i64 (.lit 2), .int .i64 (.lit 3), .int .i64 (.lit 6), .int .i64 (.lit 1), .int .i64 (.lit 2), .int .i64 (.lit 2)], 55, false),
   some ([.int .i64 (.lit 5), .int .i64 (.lit 4), .int .i64 (.lit 3), .int .i64 (.lit 6), .int .i64 (.lit 2)], 2, true),
   some ([.int .i64 (.lit 0), .int .i64 (.lit 1), .int .i64 (.lit 2), .int .i64 (.lit 3)], 3, true)]) :: Z18
theorem Z35 : Vx.XsOk Tryz.prog Rz := ⟨ordX, Z5j⟩
theorem Z5y : Vx.okD Tryz.prog Rz 1000 58 [.ptr 0 0, .agg [.sl 1 0 10 (.rest 0), .sl 2 0 4 (.lit 4), .sl 3 0 4 (.lit 4)], .sl 4 0 4 (.lit 4), .int .i64 (.lit 1073741824)]
  [some ([.int .i64 (.lit 4), .int .i64 (.lit 0), .int .i64 (.lit 3), .sl 5 0 5 (.lit 5), .sl 6 0 10 (.lit 10), .sl 7 0 10 (.lit 10), .sl 8 0 10 (.lit 10), .sl 9 0 10 (.lit 10), .sl 10 0 10 (.lit 10), .int .i64 (.lit 4), .int .i64 (.lit 10), .int .i64 (.lit 3), .int .i64 (.lit 4), .int .i64 (.lit 0), .int .i64 (.lit 10), .int .i64 (.lit 14), .int .i64 (.lit 18), .int .i64 (.lit 22), .int .i64 (.lit 23), .int .i64 (.lit 24), .int .i64 (.lit 25), .int .i64 (.lit 26), .int .i64 (.lit 44), .ptr 11 0, .int .i64 (.lit 1)], 166, false),
   some ([.int .i64 (.lit 0), .int .i64 (.lit 0), .int .i64 (.lit 5), .int .i64 (.lit 3), .int .i64 (.lit 2), .int .i64 (.lit 4), .int .i64 (.lit 6), .int .i64 (.lit 0), .int .i64 (.lit 0), .int .i64 (.lit 0)], 2, true),
   some ([.int .i64 (.lit (-9)), .int .i64 (.lit 5), .int .i64 (.lit 4), .int .i64 (.lit 0)], 2, false),
   some ([.int .i64 (.lit 4), .int .i64 (.lit 1), .int .i64 (.lit 1), .int .i64 (.lit 0)], 3, false),
   some ([.int .i64 (.lit 2), .int .i64 (.lit 0), .int .i64 (.lit 1), .int .i64 (.lit 1)], 3, false),
   some ([.int .i64 (.lit 0), .int .i64 (.lit 2), .int .i64 (.lit 5), .int .i64 (.lit 8), .int .i64 (.lit 10)], 3, false),
   some ([.int .i64 (.lit 1), .int .i64 (.lit 2), .int .i64 (.lit 0), .int .i64 (.lit 3), .int .i64 (.lit 2), .int .i64 (.lit 0), .int .i64 (.lit 3), .int .i64 (.lit 1), .int .i64 (.lit 1), .int .i64 (.lit 2)], 3, false),
   some ([.int .i64 (.lit 2), .int .i64 (.lit 5), .int .i64 (.lit 0), .int .i64 (.lit 8), .int .i64 (.lit 7), .int .i64 (.lit 1), .int .i64 (.lit 9), .int .i64 (.lit 4), .int .i64 (.lit 3), .int .i64 (.lit 6)], 3, false),
   some ([.int .i64 (.lit 5), .int .i64 (.lit 4), .int .i64 (.lit 0), .int .i64 (.lit 3), .int .i64 (.lit 2), .int .i64 (.lit 0), .int .i64 (.lit 6), .int .i64 (.lit 0), .int .i64 (.lit 0), .int .i64 (.lit 0)], 2, false),
   some ([.int .i64 (.lit 0), .int .i64 (.lit 1), .int .i64 (.lit 0), .int .i64 (.lit 2), .int .i64 (.lit 4), .int .i64 (.lit 1), .int .i64 (.lit 3), .int .i64 (.lit 4), .int .i64 (.lit 2), .int .i64 (.lit 3)], 3, false),
   some ([.bool (.lit false), .bool (.lit false), .bool (.lit true), .bool (.lit false), .bool (.lit false), .bool (.lit true), .bool (.lit false), .bool (.lit true), .bool (.lit true), .bool (.lit true)], 4, false),
   some ([.sl 12 0 44 (.lit 44)], 219, false),
   some ([.int .i64 (.lit 0), .int .i64 (.lit 0), .int .i64 (.lit 0), .int .i64 (.lit 0), .int .i64 (.lit 0), .int .i64 (.lit 0), .int .i64 (.lit 0), .int .i64 (.lit 0), .int .i64 (.lit 0), .int .i64 (.lit 0), .int .i64 (.lit 0), .int .i64 (.lit 0), .int .i64 (.lit 0), .int .i64 (.lit 0), .int .i64 (.lit 0), .int .i64 (.lit 0), .int .i64 (.lit 0), .int .i64 (.lit 0), .int .i64 (.lit 0), .int .i64 (.lit 0), .int .i64 (.lit 0), .int .i64 (.lit 0), .int .i64 (.lit 0), .int .i64 (.lit 0), .int .i64 (.lit 0), .int .i64 (.lit 0), .int .i64 (.lit 0), .int .i64 (.lit 0), .int .i64 (.lit 0), .int .i64 (.lit 0), .int .i64 (.lit 0), .int .i64 (.lit 0), .int .i64 (.lit 0), .int .i64 (.lit 0), .int .i64 (.lit 0), .int .i64 (.lit 0), .int .i64 (.lit 0), .int .i64 (.lit 0), .int .i64 (.lit 0), .int .i64 (.lit 0), .int .i64 (.lit 0), .int .i64 (.lit 0), .int .i64 (.lit 0), .int .i64 (.lit 0)], 299, false)]
  (.tup [.agg [.sl 13 0 10 (.lit 10), .sl 14 0 4 (.lit 4), .sl 15 0 4 (.lit 4)], .agg [.int .i64 (.lit 102), .int .i64 (.lit 34), .bool (.lit true), .sl 16 0 3 (.rest 0)], .int .i64 (.lit 0)])
  [some ([.int .i64 (.lit 4), .int .i64 (.lit 0), .int .i64 (.lit 3), .sl 5 0 5 (.lit 5), .sl 6 0 10 (.lit 10), .sl 7 0 10 (.lit 10), .sl 8 0 10 (.lit 10), .sl 9 0 10 (.lit 10), .sl 10 0 10 (.lit 10), .int .i64 (.lit 4), .int .i64 (.lit 10), .int .i64 (.lit 3), .int .i64 (.lit 4), .int .i64 (.lit 0), .int .i64 (.lit 10), .int .i64 (.lit 14), .int .i64 (.lit 18), .int .i64 (.lit 22), .int .i64 (.lit 23), .int .i64 (.lit 24), .int .i64 (.lit 25), .int .i64 (.lit 26), .int .i64 (.lit 44), .ptr 11 0, .int .i64 (.lit 1)], 166, false),
   some ([.int .i64 (.lit 0), .int .i64 (.lit 0), .int .i64 (.lit 5), .int .i64 (.lit 3), .int .i64 (.lit 2), .int .i64 (.lit 4), .int .i64 (.lit 6), .int .i64 (.lit 0), .int .i64 (.lit 0), .int .i64 (.lit 0)], 2, true),
   some ([.int .i64 (.lit (-9)), .int .i64 (.lit 5), .int .i64 (.lit 4), .int .i64 (.lit 0)], 2, false),
   some ([.int .i64 (.lit 4), .int .i64 (.lit 1), .int .i64 (.lit 1), .int .i64 (.lit 0)], 3, false),
   some ([.int .i64 (.lit 2), .int .i64 (.lit 0), .int .i64 (.lit 1), .int .i64 (.lit 1)], 3, false),
   some ([.int .i64 (.lit 0), .int .i64 (.lit 2), .int .i64 (.lit 5), .int .i64 (.lit 8), .int .i64 (.lit 10)], 3, false),
   some ([.int .i64 (.lit 1), .int .i64 (.lit 2), .int .i64 (.lit 0), .int .i64 (.lit 3), .int .i64 (.lit 2), .int .i64 (.lit 0), .int .i64 (.lit 3), .int .i64 (.lit 1), .int .i64 (.lit 1), .int .i64 (.lit 2)], 3, false),
   some ([.int .i64 (.lit 2), .int .i64 (.lit 5), .int .i64 (.lit 0), .int .i64 (.lit 8), .int .i64 (.lit 7), .int .i64 (.lit 1), .int .i64 (.lit 9), .int .i64 (.lit 4), .int .i64 (.lit 3), .int .i64 (.lit 6)], 3, false),
   some ([.int .i64 (.lit 5), .int .i64 (.lit 4), .int .i64 (.lit 0), .int .i64 (.lit 3), .int .i64 (.lit 2), .int .i64 (.lit 0), .int .i64 (.lit 6), .int .i64 (.lit 0), .int .i64 (.lit 0), .int .i64 (.lit 0)], 2, false),
   some ([.int .i64 (.lit 0), .int .i64 (.lit 1), .int .i64 (.lit 0), .int .i64 (.lit 2), .int .i64 (.lit 4), .int .i64 (.lit 1), .int .i64 (.lit 3), .int .i64 (.lit 4), .int .i64 (.lit 2), .int .i64 (.lit 3)], 3, false),
   some ([.bool (.lit false), .bool (.lit false), .bool (.lit true), .bool (.lit false), .bool (.lit false), .bool (.lit true), .bool (.lit false), .bool (.lit true), .bool (.lit true), .bool (.lit true)], 4, false),
   some ([.sl 12 0 44 (.lit 44)], 219, false),
   some ([.int .i64 (.lit 0), .int .i64 (.lit 0), .int .i64 (.lit 5), .int .i64 (.lit 0), .int .i64 (.lit 2), .int .i64 (.lit 4), .int .i64 (.lit 2), .int .i64 (.lit 0), .int .i64 (.lit 3), .int .i64 (.lit 4), .int .i64 (.lit (-9)), .int .i64 (.lit 2), .int .i64 (.lit 0), .int .i64 (.lit 7), .int .i64 (.lit 4), .int .i64 (.lit 2), .int .i64 (.lit 1), .int .i64 (.lit 0), .int .i64 (.lit 0), .int .i64 (.lit 0), .int .i64 (.lit 0), .int .i64 (.lit 0), .int .i64 (.lit 0), .int .i64 (.lit 1), .int .i64 (.lit 3), .int .i64 (.lit 1), .int .i64 (.lit 1), .int .i64 (.lit 1), .int .i64 (.lit 1), .int .i64 (.lit 0), .int .i64 (.lit 0), .int .i64 (.lit 0), .int .i64 (.lit 1), .int .i64 (.lit 1), .int .i64 (.lit 2), .int .i64 (.lit 0), .int .i64 (.lit 0), .int .i64 (.lit 0), .int .i64 (.lit 0), .int .i64 (.lit 0), .int .i64 (.lit 0), .int .i64 (.lit 0), .int .i64 (.lit 0), .int .i64 (.lit 0)], 299, false),
   some ([.int .i64 (.lit 0), .int .i64 (.lit 0), .int .i64 (.lit 5), .int .i64 (.lit 0), .int .i64 (.lit 2), .int .i64 (.lit 4), .int .i64 (.lit 2), .int .i64 (.lit 0), .int .i64 (.lit 3), .int .i64 (.lit 4)], 2, false),
   some ([.int .i64 (.lit (-9)), .int .i64 (.lit 2), .int .i64 (.lit 0), .int .i64 (.lit 7)], 2, false),
   some ([.int .i64 (.lit 4), .int .i64 (.lit 2), .int .i64 (.lit 1), .int .i64 (.lit 0)], 3, false),
   some ([.int .i64 (.lit 1), .int .u8 (.lit 1), .int .i64 (.lit 2), .int .i64 (.lit 6), .int .i64 (.lit 4), .int .i64 (.lit 1), .int .i64 (.lit 0), .int .i64 (.lit 0), .int .u8 (.lit 1), .int .i64 (.lit 1), .int .i64 (.lit 3), .int .i64 (.lit 3), .int .i64 (.lit 1), .int .i64 (.lit 0), .int .i64 (.lit 0), .int .u8 (.lit 2), .int .i64 (.lit 1), .int .i64 (.lit 0), .int .i64 (.lit 0), .int .i64 (.lit 2), .int .i64 (.lit 1)], 92, true)] = true := by kernel_rfl
def Rh : List (FuncId × Vx.XK) := (58, .deep [.ptr 0 0, .agg [.sl 1 0 10 (.rest 0), .sl 2 0 4 (.lit 4), .sl 3 0 4 (.lit 4)], .sl 4 0 4 (.lit 4), .int .i64 (.lit 1073741824)]
  [some ([.int .i64 (.lit 4), .int .i64 (.lit 0), .int .i64 (.lit 3), .sl 5 0 5 (.lit 5), .sl 6 0 10 (.lit 10), .sl 7 0 10 (.lit 10), .sl 8 0 10 (.lit 10), .sl 9 0 10 (.lit 10), .sl 10 0 10 (.lit 10), .int .i64 (.lit 4), .int .i64 (.lit 10), .int .i64 (.lit 3), .int .i64 (.lit 4), .int .i64 (.lit 0), .int .i64 (.lit 10), .int .i64 (.lit 14), .int .i64 (.lit 18), .int .i64 (.lit 22), .int .i64 (.lit 23), .int .i64 (.lit 24), .int .i64 (.lit 25), .int .i64 (.lit 26), .int .i64 (.lit 44), .ptr 11 0, .int .i64 (.lit 1)], 166, false),
   some ([.int .i64 (.lit 0), .int .i64 (.lit 0), .int .i64 (.lit 5), .int .i64 (.lit 3), .int .i64 (.lit 2), .int .i64 (.lit 4), .int .i64 (.lit 6), .int .i64 (.lit 0), .int .i64 (.lit 0), .int .i64 (.lit 0)], 2, true),
   some ([.int .i64 (.lit (-9)), .int .i64 (.lit 5), .int .i64 (.lit 4), .int .i64 (.lit 0)], 2, false),
   some ([.int .i64 (.lit 4), .int .i64 (.lit 1), .int .i64 (.lit 1), .int .i64 (.lit 0)], 3, false),
   some ([.int .i64 (.lit 2), .int .i64 (.lit 0), .int .i64 (.lit 1), .int .i64 (.lit 1)], 3, false),
   some ([.int .i64 (.lit 0), .int .i64 (.lit 2), .int .i64 (.lit 5), .int .i64 (.lit 8), .int .i64 (.lit 10)], 3, false),
   some ([.int .i64 (.lit 1), .int .i64 (.lit 2), .int .i64 (.lit 0), .int .i64 (.lit 3), .int .i64 (.lit 2), .int .i64 (.lit 0), .int .i64 (.lit 3), .int .i64 (.lit 1), .int .i64 (.lit 1), .int .i64 (.lit 2)], 3, false),
   some ([.int .i64 (.lit 2), .int .i64 (.lit 5), .int .i64 (.lit 0), .int .i64 (.lit 8), .int .i64 (.lit 7), .int .i64 (.lit 1), .int .i64 (.lit 9), .int .i64 (.lit 4), .int .i64 (.lit 3), .int .i64 (.lit 6)], 3, false),
   some ([.int .i64 (.lit 5), .int .i64 (.lit 4), .int .i64 (.lit 0), .int .i64 (.lit 3), .int .i64 (.lit 2), .int .i64 (.lit 0), .int .i64 (.lit 6), .int .i64 (.lit 0), .int .i64 (.lit 0), .int .i64 (.lit 0)], 2, false),
   some ([.int .i64 (.lit 0), .int .i64 (.lit 1), .int .i64 (.lit 0), .int .i64 (.lit 2), .int .i64 (.lit 4), .int .i64 (.lit 1), .int .i64 (.lit 3), .int .i64 (.lit 4), .int .i64 (.lit 2), .int .i64 (.lit 3)], 3, false),
   some ([.bool (.lit false), .bool (.lit false), .bool (.lit true), .bool (.lit false), .bool (.lit false), .bool (.lit true), .bool (.lit false), .bool (.lit true), .bool (.lit true), .bool (.lit true)], 4, false),
   some ([.sl 12 0 44 (.lit 44)], 219, false),
   some ([.int .i64 (.lit 0), .int .i64 (.lit 0), .int .i64 (.lit 0), .int .i64 (.lit 0), .int .i64 (.lit 0), .int .i64 (.lit 0), .int .i64 (.lit 0), .int .i64 (.lit 0), .int .i64 (.lit 0), .int .i64 (.lit 0), .int .i64 (.lit 0), .int .i64 (.lit 0), .int .i64 (.lit 0), .int .i64 (.lit 0), .int .i64 (.lit 0), .int .i64 (.lit 0), .int .i64 (.lit 0), .int .i64 (.lit 0), .int .i64 (.lit 0), .int .i64 (.lit 0), .int .i64 (.lit 0), .int .i64 (.lit 0), .int .i64 (.lit 0), .int .i64 (.lit 0), .int .i64 (.lit 0), .int .i64 (.lit 0), .int .i64 (.lit 0), .int .i64 (.lit 0), .int .i64 (.lit 0), .int .i64 (.lit 0), .int .i64 (.lit 0), .int .i64 (.lit 0), .int .i64 (.lit 0), .int .i64 (.lit 0), .int .i64 (.lit 0), .int .i64 (.lit 0), .int .i64 (.lit 0), .int .i64 (.lit 0), .int .i64 (.lit 0), .int .i64 (.lit 0), .int .i64 (.lit 0), .int .i64 (.lit 0), .int .i64 (.lit 0), .int .i64 (.lit 0)], 299, false)]
  (.tup [.agg [.sl 13 0 10 (.lit 10), .sl 14 0 4 (.lit 4), .sl 15 0 4 (.lit 4)], .agg [.int .i64 (.lit 102), .int .i64 (.lit 34), .bool (.lit true), .sl 16 0 3 (.rest 0)], .int .i64 (.lit 0)])
  [some ([.int .i64 (.lit 4), .int .i64 (.lit 0), .int .i64 (.lit 3), .sl 5 0 5 (.lit 5), .sl 6 0 10 (.lit 10), .sl 7 0 10 (.lit 10), .sl 8 0 10 (.lit 10), .sl 9 0 10 (.lit 10), .sl 10 0 10 (.lit 10), .int .i64 (.lit 4), .int .i64 (.lit 10), .int .i64 (.lit 3), .int .i64 (.lit 4), .int .i64 (.lit 0), .int .i64 (.lit 10), .int .i64 (.lit 14), .int .i64 (.lit 18), .int .i64 (.lit 22), .int .i64 (.lit 23), .int .i64 (.lit 24), .int .i64 (.lit 25), .int .i64 (.lit 26), .int .i64 (.lit 44), .ptr 11 0, .int .i64 (.lit 1)], 166, false),
   some ([.int .i64 (.lit 0), .int .i64 (.lit 0), .int .i64 (.lit 5), .int .i64 (.lit 3), .int .i64 (.lit 2), .int .i64 (.lit 4), .int .i64 (.lit 6), .int .i64 (.lit 0), .int .i64 (.lit 0), .int .i64 (.lit 0)], 2, true),
   some ([.int .i64 (.lit (-9)), .int .i64 (.lit 5), .int .i64 (.lit 4), .int .i64 (.lit 0)], 2, false),
   some ([.int .i64 (.lit 4), .int .i64 (.lit 1), .int .i64 (.lit 1), .int .i64 (.lit 0)], 3, false),
   some ([.int .i64 (.lit 2), .int .i64 (.lit 0), .int .i64 (.lit 1), .int .i64 (.lit 1)], 3, false),
   some ([.int .i64 (.lit 0), .int .i64 (.lit 2), .int .i64 (.lit 5), .int .i64 (.lit 8), .int .i64 (.lit 10)], 3, false),
   some ([.int .i64 (.lit 1), .int .i64 (.lit 2), .int .i64 (.lit 0), .int .i64 (.lit 3), .int .i64 (.lit 2), .int .i64 (.lit 0), .int .i64 (.lit 3), .int .i64 (.lit 1), .int .i64 (.lit 1), .int .i64 (.lit 2)], 3, false),
   some ([.int .i64 (.lit 2), .int .i64 (.lit 5), .int .i64 (.lit 0), .int .i64 (.lit 8), .int .i64 (.lit 7), .int .i64 (.lit 1), .int .i64 (.lit 9), .int .i64 (.lit 4), .int .i64 (.lit 3), .int .i64 (.lit 6)], 3, false),
   some ([.int .i64 (.lit 5), .int .i64 (.lit 4), .int .i64 (.lit 0), .int .i64 (.lit 3), .int .i64 (.lit 2), .int .i64 (.lit 0), .int .i64 (.lit 6), .int .i64 (.lit 0), .int .i64 (.lit 0), .int .i64 (.lit 0)], 2, false),
   some ([.int .i64 (.lit 0), .int .i64 (.lit 1), .int .i64 (.lit 0), .int .i64 (.lit 2), .int .i64 (.lit 4), .int .i64 (.lit 1), .int .i64 (.lit 3), .int .i64 (.lit 4), .int .i64 (.lit 2), .int .i64 (.lit 3)], 3, false),
   some ([.bool (.lit false), .bool (.lit false), .bool (.lit true), .bool (.lit false), .bool (.lit false), .bool (.lit true), .bool (.lit false), .bool (.lit true), .bool (.lit true), .bool (.lit true)], 4, false),
   some ([.sl 12 0 44 (.lit 44)], 219, false),
   some ([.int .i64 (.lit 0), .int .i64 (.lit 0), .int .i64 (.lit 5), .int .i64 (.lit 0), .int .i64 (.lit 2), .int .i64 (.lit 4), .int .i64 (.lit 2), .int .i64 (.lit 0), .int .i64 (.lit 3), .int .i64 (.lit 4), .int .i64 (.lit (-9)), .int .i64 (.lit 2), .int .i64 (.lit 0), .int .i64 (.lit 7), .int .i64 (.lit 4), .int .i64 (.lit 2), .int .i64 (.lit 1), .int .i64 (.lit 0), .int .i64 (.lit 0), .int .i64 (.lit 0), .int .i64 (.lit 0), .int .i64 (.lit 0), .int .i64 (.lit 0), .int .i64 (.lit 1), .int .i64 (.lit 3), .int .i64 (.lit 1), .int .i64 (.lit 1), .int .i64 (.lit 1), .int .i64 (.lit 1), .int .i64 (.lit 0), .int .i64 (.lit 0), .int .i64 (.lit 0), .int .i64 (.lit 1), .int .i64 (.lit 1), .int .i64 (.lit 2), .int .i64 (.lit 0), .int .i64 (.lit 0), .int .i64 (.lit 0), .int .i64 (.lit 0), .int .i64 (.lit 0), .int .i64 (.lit 0), .int .i64 (.lit 0), .int .i64 (.lit 0), .int .i64 (.lit 0)], 299, false),
   some ([.int .i64 (.lit 0), .int .i64 (.lit 0), .int .i64 (.lit 5), .int .i64 (.lit 0), .int .i64 (.lit 2), .int .i64 (.lit 4), .int .i64 (.lit 2), .int .i64 (.lit 0), .int .i64 (.lit 3), .int .i64 (.lit 4)], 2, false),
   some ([.int .i64 (.lit (-9)), .int .i64 (.lit 2), .int .i64 (.lit 0), .int .i64 (.lit 7)], 2, false),
   some ([.int .i64 (.lit 4), .int .i64 (.lit 2), .int .i64 (.lit 1), .int .i64 (.lit 0)], 3, false),
   some ([.int .i64 (.lit 1), .int .u8 (.lit 1), .int .i64 (.lit 2), .int .i64 (.lit 6), .int .i64 (.lit 4), .int .i64 (.lit 1), .int .i64 (.lit 0), .int .i64 (.lit 0), .int .u8 (.lit 1), .int .i64 (.lit 1), .int .i64 (.lit 3), .int .i64 (.lit 3), .int .i64 (.lit 1), .int .i64 (.lit 0), .int .i64 (.lit 0), .int .u8 (.lit 2), .int .i64 (.lit 1), .int .i64 (.lit 0), .int .i64 (.lit 0), .int .i64 (.lit 2), .int .i64 (.lit 1)], 92, true)]) :: Rz
theorem Z15 : Vx.XsOk Tryz.prog Rh := ⟨Vx.deep_of Vm Z35 Z5y, Z35⟩
theorem Z53 : Vx.okD Tryz.prog Rh 1000 58 [.ptr 0 0, .agg [.sl 1 0 10 (.rest 0), .sl 2 0 4 (.rest 0), .sl 3 0 4 (.lit 4)], .sl 4 0 0 (.lit 0), .int .i64 (.lit 1073741824)]
  [some ([.int .i64 (.lit 4), .int .i64 (.lit 0), .int .i64 (.lit 3), .sl 5 0 5 (.lit 5), .sl 6 0 10 (.lit 10), .sl 7 0 10 (.lit 10), .sl 8 0 10 (.lit 10), .sl 9 0 10 (.lit 10), .sl 10 0 10 (.lit 10), .int .i64 (.lit 4), .int .i64 (.lit 10), .int .i64 (.lit 3), .int .i64 (.lit 4), .int .i64 (.lit 0), .int .i64 (.lit 10), .int .i64 (.lit 14), .int .i64 (.lit 18), .int .i64 (.lit 22), .int .i64 (.lit 23), .int .i64 (.lit 24), .int .i64 (.lit 25), .int .i64 (.lit 26), .int .i64 (.lit 44), .ptr 11 0, .int .i64 (.lit 1)], 166, false),
   some ([.int .i64 (.lit 0), .int .i64 (.lit 0), .int .i64 (.lit 5), .int .i64 (.lit 0), .int .i64 (.lit 2), .int .i64 (.lit 4), .int .i64 (.lit 2), .int .i64 (.lit 0), .int .i64 (.lit 3), .int .i64 (.lit 4)], 2, true),
   some ([.int .i64 (.lit (-9)), .int .i64 (.lit 2), .int .i64 (.lit 0), .int .i64 (.lit 7)], 2, true),
   some ([.int .i64 (.lit 4), .int .i64 (.lit 2), .int .i64 (.lit 1), .int .i64 (.lit 0)], 3, false),
   some ([.int .i64 (.lit 2), .int .i64 (.lit 0), .int .i64 (.lit 1), .int .i64 (.lit 1)], 3, false),
   some ([.int .i64 (.lit 0), .int .i64 (.lit 2), .int .i64 (.lit 5), .int .i64 (.lit 8), .int .i64 (.lit 10)], 3, false),
   some ([.int .i64 (.lit 1), .int .i64 (.lit 2), .int .i64 (.lit 0), .int .i64 (.lit 3), .int .i64 (.lit 2), .int .i64 (.lit 0), .int .i64 (.lit 3), .int .i64 (.lit 1), .int .i64 (.lit 1), .int .i64 (.lit 2)], 3, false),
   some ([.int .i64 (.lit 2), .int .i64 (.lit 5), .int .i64 (.lit 0), .int .i64 (.lit 8), .int .i64 (.lit 7), .int .i64 (.lit 1), .int .i64 (.lit 9), .int .i64 (.lit 4), .int .i64 (.lit 3), .int .i64 (.lit 6)], 3, false),
   some ([.int .i64 (.lit 5), .int .i64 (.lit 4), .int .i64 (.lit 0), .int .i64 (.lit 3), .int .i64 (.lit 2), .int .i64 (.lit 0), .int .i64 (.lit 6), .int .i64 (.lit 0), .int .i64 (.lit 0), .int .i64 (.lit 0)], 2, false),
   some ([.int .i64 (.lit 0), .int .i64 (.lit 1), .int .i64 (.lit 0), .int .i64 (.lit 2), .int .i64 (.lit 4), .int .i64 (.lit 1), .int .i64 (.lit 3), .int .i64 (.lit 4), .int .i64 (.lit 2), .int .i64 (.lit 3)], 3, false),
   some ([.bool (.lit false), .bool (.lit false), .bool (.lit true), .bool (.lit false), .bool (.lit false), .bool (.lit true), .bool (.lit false), .bool (.lit true), .bool (.lit true), .bool (.lit true)], 4, false),
   some ([.sl 12 0 44 (.lit 44)], 219, false),
   some ([.int .i64 (.lit 0), .int .i64 (.lit 0), .int .i64 (.lit 0), .int .i64 (.lit 0), .int .i64 (.lit 0), .int .i64 (.lit 0), .int .i64 (.lit 0), .int .i64 (.lit 0), .int .i64 (.lit 0), .int .i64 (.lit 0), .int .i64 (.lit 0), .int .i64 (.lit 0), .int .i64 (.lit 0), .int .i64 (.lit 0), .int .i64 (.lit 0), .int .i64 (.lit 0), .int .i64 (.lit 0), .int .i64 (.lit 0), .int .i64 (.lit 0), .int .i64 (.lit 0), .int .i64 (.lit 0), .int .i64 (.lit 0), .int .i64 (.lit 0), .int .i64 (.lit 0), .int .i64 (.lit 0), .int .i64 (.lit 0), .int .i64 (.lit 0), .int .i64 (.lit 0), .int .i64 (.lit 0), .int .i64 (.lit 0), .int .i64 (.lit 0), .int .i64 (.lit 0), .int .i64 (.lit 0), .int .i64 (.lit 0), .int .i64 (.lit 0), .int .i64 (.lit 0), .int .i64 (.lit 0), .int .i64 (.lit 0), .int .i64 (.lit 0), .int .i64 (.lit 0), .int .i64 (.lit 0), .int .i64 (.lit 0), .int .i64 (.lit 0), .int .i64 (.lit 0)], 299, false)]
  (.tup [.agg [.sl 13 0 10 (.lit 10), .sl 14 0 4 (.lit 4), .sl 15 0 4 (.lit 4)], .agg [.int .i64 (.lit 176), .int .i64 (.lit 59), .bool (.lit false), .sl 16 0 2 (.rest 0)], .int .i64 (.lit 0)])
  [some ([.int .i64 (.lit 4), .int .i64 (.lit 0), .int .i64 (.lit 3), .sl 5 0 5 (.lit 5), .sl 6 0 10 (.lit 10), .sl 7 0 10 (.lit 10), .sl 8 0 10 (.lit 10), .sl 9 0 10 (.lit 10), .sl 10 0 10 (.lit 10), .int .i64 (.lit 4), .int .i64 (.lit 10), .int .i64 (.lit 3), .int .i64 (.lit 4), .int .i64 (.lit 0), .int .i64 (.lit 10), .int .i64 (.lit 14), .int .i64 (.lit 18), .int .i64 (.lit 22), .int .i64 (.lit 23), .int .i64 (.lit 24), .int .i64 (.lit 25), .int .i64 (.lit 26), .int .i64 (.lit 44), .ptr 11 0, .int .i64 (.lit 1)], 166, false),
   some ([.int .i64 (.lit 0), .int .i64 (.lit 0), .int .i64 (.lit 5), .int .i64 (.lit 0), .int .i64 (.lit 2), .int .i64 (.lit 4), .int .i64 (.lit 2), .int .i64 (.lit 0), .int .i64 (.lit 3), .int .i64 (.lit 4)], 2, true),
   some ([.int .i64 (.lit (-9)), .int .i64 (.lit 2), .int .i64 (.lit 0), .int .i64 (.lit 7)], 2, true),
   some ([.int .i64 (.lit 4), .int .i64 (.lit 2), .int .i64 (.lit 1), .int .i64 (.lit 0)], 3, false),
   some ([.int .i64 (.lit 2), .int .i64 (.lit 0), .int .i64 (.lit 1), .int .i64 (.lit 1)], 3, false),
   some ([.int .i64 (.lit 0), .int .i64 (.lit 2), .int .i64 (.lit 5), .int .i64 (.lit 8), .int .i64 (.lit 10)], 3, false),
   some ([.int .i64 (.lit 1), .int .i64 (.lit 2), .int .i64 (.lit 0), .int .i64 (.lit 3), .int .i64 (.lit 2), .int .i64 (.lit 0), .int .i64 (.lit 3), .int .i64 (.lit 1), .int .i64 (.lit 1), .int .i64 (.lit 2)], 3, false),
   some ([.int .i64 (.lit 2), .int .i64 (.lit 5), .int .i64 (.lit 0), .int .i64 (.lit 8), .int .i64 (.lit 7), .int .i64 (.lit 1), .int .i64 (.lit 9), .int .i64 (.lit 4), .int .i64 (.lit 3), .int .i64 (.lit 6)], 3, false),
   some ([.int .i64 (.lit 5), .int .i64 (.lit 4), .int .i64 (.lit 0), .int .i64 (.lit 3), .int .i64 (.lit 2), .int .i64 (.lit 0), .int .i64 (.lit 6), .int .i64 (.lit 0), .int .i64 (.lit 0), .int .i64 (.lit 0)], 2, false),
   some ([.int .i64 (.lit 0), .int .i64 (.lit 1), .int .i64 (.lit 0), .int .i64 (.lit 2), .int .i64 (.lit 4), .int .i64 (.lit 1), .int .i64 (.lit 3), .int .i64 (.lit 4), .int .i64 (.lit 2), .int .i64 (.lit 3)], 3, false),
   some ([.bool (.lit false), .bool (.lit false), .bool (.lit true), .bool (.lit false), .bool (.lit false), .bool (.lit true), .bool (.lit false), .bool (.lit true), .bool (.lit true), .bool (.lit true)], 4, false),
   some ([.sl 12 0 44 (.lit 44)], 219, false),
   some ([.int .i64 (.lit 0), .int .i64 (.lit 0), .int .i64 (.lit 5), .int .i64 (.lit 0), .int .i64 (.lit 0), .int .i64 (.lit 4), .int .i64 (.lit 0), .int .i64 (.lit 2), .int .i64 (.lit 3), .int .i64 (.lit 6), .int .i64 (.lit (-9)), .int .i64 (.lit 0), .int .i64 (.lit 0), .int .i64 (.lit 9), .int .i64 (.lit 4), .int .i64 (.lit 2), .int .i64 (.lit 1), .int .i64 (.lit 0), .int .i64 (.lit 0), .int .i64 (.lit 0), .int .i64 (.lit 0), .int .i64 (.lit 0), .int .i64 (.lit 0), .int .i64 (.lit 0), .int .i64 (.lit 3), .int .i64 (.lit 1), .int .i64 (.lit 2), .int .i64 (.lit 2), .int .i64 (.lit 1), .int .i64 (.lit 2), .int .i64 (.lit 0), .int .i64 (.lit 0), .int .i64 (.lit 0), .int .i64 (.lit 0), .int .i64 (.lit 0), .int .i64 (.lit 0), .int .i64 (.lit 0), .int .i64 (.lit 0), .int .i64 (.lit 0), .int .i64 (.lit 0), .int .i64 (.lit 0), .int .i64 (.lit 0), .int .i64 (.lit 0), .int .i64 (.lit 0)], 299, false),
   some ([.int .i64 (.lit 0), .int .i64 (.lit 0), .int .i64 (.lit 5), .int .i64 (.lit 0), .int .i64 (.lit 0), .int .i64 (.lit 4), .int .i64 (.lit 0), .int .i64 (.lit 2), .int .i64 (.lit 3), .int .i64 (.lit 6)], 2, false),
   some ([.int .i64 (.lit (-9)), .int .i64 (.lit 0), .int .i64 (.lit 0), .int .i64 (.lit 9)], 2, false),
   some ([.int .i64 (.lit 4), .int .i64 (.lit 2), .int .i64 (.lit 1), .int .i64 (.lit 0)], 3, false),
   some ([.int .i64 (.lit 0), .int .u8 (.lit 1), .int .i64 (.lit 1), .int .i64 (.lit 4), .int .i64 (.lit 2), .int .i64 (.lit 2), .int .i64 (.lit 1), .int .i64 (.lit 2), .int .u8 (.lit 1), .int .i64 (.lit 2), .int .i64 (.lit 6), .int .i64 (.lit 2), .int .i64 (.lit 1), .int .i64 (.lit 0)], 92, true)] = true := by kernel_rfl
def Z1f : List (FuncId × Vx.XK) := (58, .deep [.ptr 0 0, .agg [.sl 1 0 10 (.rest 0), .sl 2 0 4 (.rest 0), .sl 3 0 4 (.lit 4)], .sl 4 0 0 (.lit 0), .int .i64 (.lit 1073741824)]
  [some ([.int .i64 (.lit 4), .int .i64 (.lit 0), .int .i64 (.lit 3), .sl 5 0 5 (.lit 5), .sl 6 0 10 (.lit 10), .sl 7 0 10 (.lit 10), .sl 8 0 10 (.lit 10), .sl 9 0 10 (.lit 10), .sl 10 0 10 (.lit 10), .int .i64 (.lit 4), .int .i64 (.lit 10), .int .i64 (.lit 3), .int .i64 (.lit 4), .int .i64 (.lit 0), .int .i64 (.lit 10), .int .i64 (.lit 14), .int .i64 (.lit 18), .int .i64 (.lit 22), .int .i64 (.lit 23), .int .i64 (.lit 24), .int .i64 (.lit 25), .int .i64 (.lit 26), .int .i64 (.lit 44), .ptr 11 0, .int .i64 (.lit 1)], 166, false),
   some ([.int .i64 (.lit 0), .int .i64 (.lit 0), .int .i64 (.lit 5), .int .i64 (.lit 0), .int .i64 (.lit 2), .int .i64 (.lit 4), .int .i64 (.lit 2), .int .i64 (.lit 0), .int .i64 (.lit 3), .int .i64 (.lit 4)], 2, true),
   some ([.int .i64 (.lit (-9)), .int .i64 (.lit 2), .int .i64 (.lit 0), .int .i64 (.lit 7)], 2, true),
   some ([.int .i64 (.lit 4), .int .i64 (.lit 2), .int .i64 (.lit 1), .int .i64 (.lit 0)], 3, false),
   some ([.int .i64 (.lit 2), .int .i64 (.lit 0), .int .i64 (.lit 1), .int .i64 (.lit 1)], 3, false),
   some ([.int .i64 (.lit 0), .int .i64 (.lit 2), .int .i64 (.lit 5), .int .i64 (.lit 8), .int .i64 (.lit 10)], 3, false),
   some ([.int .i64 (.lit 1), .int .i64 (.lit 2), .int .i64 (.lit 0), .int .i64 (.lit 3), .int .i64 (.lit 2), .int .i64 (.lit 0), .int .i64 (.lit 3), .int .i64 (.lit 1), .int .i64 (.lit 1), .int .i64 (.lit 2)], 3, false),
   some ([.int .i64 (.lit 2), .int .i64 (.lit 5), .int .i64 (.lit 0), .int .i64 (.lit 8), .int .i64 (.lit 7), .int .i64 (.lit 1), .int .i64 (.lit 9), .int .i64 (.lit 4), .int .i64 (.lit 3), .int .i64 (.lit 6)], 3, false),
   some ([.int .i64 (.lit 5), .int .i64 (.lit 4), .int .i64 (.lit 0), .int .i64 (.lit 3), .int .i64 (.lit 2), .int .i64 (.lit 0), .int .i64 (.lit 6), .int .i64 (.lit 0), .int .i64 (.lit 0), .int .i64 (.lit 0)], 2, false),
   some ([.int .i64 (.lit 0), .int .i64 (.lit 1), .int .i64 (.lit 0), .int .i64 (.lit 2), .int .i64 (.lit 4), .int .i64 (.lit 1), .int .i64 (.lit 3), .int .i64 (.lit 4), .int .i64 (.lit 2), .int .i64 (.lit 3)], 3, false),
   some ([.bool (.lit false), .bool (.lit false), .bool (.lit true), .bool (.lit false), .bool (.lit false), .bool (.lit true), .bool (.lit false), .bool (.lit true), .bool (.lit true), .bool (.lit true)], 4, false),
   some ([.sl 12 0 44 (.lit 44)], 219, false),
   some ([.int .i64 (.lit 0), .int .i64 (.lit 0), .int .i64 (.lit 0), .int .i64 (.lit 0), .int .i64 (.lit 0), .int .i64 (.lit 0), .int .i64 (.lit 0), .int .i64 (.lit 0), .int .i64 (.lit 0), .int .i64 (.lit 0), .int .i64 (.lit 0), .int .i64 (.lit 0), .int .i64 (.lit 0), .int .i64 (.lit 0), .int .i64 (.lit 0), .int .i64 (.lit 0), .int .i64 (.lit 0), .int .i64 (.lit 0), .int .i64 (.lit 0), .int .i64 (.lit 0), .int .i64 (.lit 0), .int .i64 (.lit 0), .int .i64 (.lit 0), .int .i64 (.lit 0), .int .i64 (.lit 0), .int .i64 (.lit 0), .int .i64 (.lit 0), .int .i64 (.lit 0), .int .i64 (.lit 0), .int .i64 (.lit 0), .int .i64 (.lit 0), .int .i64 (.lit 0), .int .i64 (.lit 0), .int .i64 (.lit 0), .int .i64 (.lit 0), .int .i64 (.lit 0), .int .i64 (.lit 0), .int .i64 (.lit 0), .int .i64 (.lit 0), .int .i64 (.lit 0), .int .i64 (.lit 0), .int .i64 (.lit 0), .int .i64 (.lit 0), .int .i64 (.lit 0)], 299, false)]
  (.tup [.agg [.sl 13 0 10 (.lit 10), .sl 14 0 4 (.lit 4), .sl 15 0 4 (.lit 4)], .agg [.int .i64 (.lit 176), .int .i64 (.lit 59), .bool (.lit false), .sl 16 0 2 (.rest 0)], .int .i64 (.lit 0)])
  [some ([.int .i64 (.lit 4), .int .i64 (.lit 0), .int .i64 (.lit 3), .sl 5 0 5 (.lit 5), .sl 6 0 10 (.lit 10), .sl 7 0 10 (.lit 10), .sl 8 0 10 (.lit 10), .sl 9 0 10 (.lit 10), .sl 10 0 10 (.lit 10), .int .i64 (.lit 4), .int .i64 (.lit 10), .int .i64 (.lit 3), .int .i64 (.lit 4), .int .i64 (.lit 0), .int .i64 (.lit 10), .int .i64 (.lit 14), .int .i64 (.lit 18), .int .i64 (.lit 22), .int .i64 (.lit 23), .int .i64 (.lit 24), .int .i64 (.lit 25), .int .i64 (.lit 26), .int .i64 (.lit 44), .ptr 11 0, .int .i64 (.lit 1)], 166, false),
   some ([.int .i64 (.lit 0), .int .i64 (.lit 0), .int .i64 (.lit 5), .int .i64 (.lit 0), .int .i64 (.lit 2), .int .i64 (.lit 4), .int .i64 (.lit 2), .int .i64 (.lit 0), .int .i64 (.lit 3), .int .i64 (.lit 4)], 2, true),
   some ([.int .i64 (.lit (-9)), .int .i64 (.lit 2), .int .i64 (.lit 0), .int .i64 (.lit 7)], 2, true),
   some ([.int .i64 (.lit 4), .int .i64 (.lit 2), .int .i64 (.lit 1), .int .i64 (.lit 0)], 3, false),
   some ([.int .i64 (.lit 2), .int .i64 (.lit 0), .int .i64 (.lit 1), .int .i64 (.lit 1)], 3, false),
   some ([.int .i64 (.lit 0), .int .i64 (.lit 2), .int .i64 (.lit 5), .int .i64 (.lit 8), .int .i64 (.lit 10)], 3, false),
   some ([.int .i64 (.lit 1), .int .i64 (.lit 2), .int .i64 (.lit 0), .int .i64 (.lit 3), .int .i64 (.lit 2), .int .i64 (.lit 0), .int .i64 (.lit 3), .int .i64 (.lit 1), .int .i64 (.lit 1), .int .i64 (.lit 2)], 3, false),
   some ([.int .i64 (.lit 2), .int .i64 (.lit 5), .int .i64 (.lit 0), .int .i64 (.lit 8), .int .i64 (.lit 7), .int .i64 (.lit 1), .int .i64 (.lit 9), .int .i64 (.lit 4), .int .i64 (.lit 3), .int .i64 (.lit 6)], 3, false),
   some ([.int .i64 (.lit 5), .int .i64 (.lit 4), .int .i64 (.lit 0), .int .i64 (.lit 3), .int .i64 (.lit 2), .int .i64 (.lit 0), .int .i64 (.lit 6), .int .i64 (.lit 0), .int .i64 (.lit 0), .int .i64 (.lit 0)], 2, false),
   some ([.int .i64 (.lit 0), .int .i64 (.lit 1), .int .i64 (.lit 0), .int .i64 (.lit 2), .int .i64 (.lit 4), .int .i64 (.lit 1), .int .i64 (.lit 3), .int .i64 (.lit 4), .int .i64 (.lit 2), .int .i64 (.lit 3)], 3, false),
   some ([.bool (.lit false), .bool (.lit false), .bool (.lit true), .bool (.lit false), .bool (.lit false), .bool (.lit true), .bool (.lit false), .bool (.lit true), .bool (.lit true), .bool (.lit true)], 4, false),
   some ([.sl 12 0 44 (.lit 44)], 219, false),
   some ([.int .i64 (.lit 0), .int .i64 (.lit 0), .int .i64 (.lit 5), .int .i64 (.lit 0), .int .i64 (.lit 0), .int .i64 (.lit 4), .int .i64 (.lit 0), .int .i64 (.lit 2), .int .i64 (.lit 3), .int .i64 (.lit 6), .int .i64 (.lit (-9)), .int .i64 (.lit 0), .int .i64 (.lit 0), .int .i64 (.lit 9), .int .i64 (.lit 4), .int .i64 (.lit 2), .int .i64 (.lit 1), .int .i64 (.lit 0), .int .i64 (.lit 0), .int .i64 (.lit 0), .int .i64 (.lit 0), .int .i64 (.lit 0), .int .i64 (.lit 0), .int .i64 (.lit 0), .int .i64 (.lit 3), .int .i64 (.lit 1), .int .i64 (.lit 2), .int .i64 (.lit 2), .int .i64 (.lit 1), .int .i64 (.lit 2), .int .i64 (.lit 0), .int .i64 (.lit 0), .int .i64 (.lit 0), .int .i64 (.lit 0), .int .i64 (.lit 0), .int .i64 (.lit 0), .int .i64 (.lit 0), .int .i64 (.lit 0), .int .i64 (.lit 0), .int .i64 (.lit 0), .int .i64 (.lit 0), .int .i64 (.lit 0), .int .i64 (.lit 0), .int .i64 (.lit 0)], 299, false),
   some ([.int .i64 (.lit 0), .int .i64 (.lit 0), .int .i64 (.lit 5), .int .i64 (.lit 0), .int .i64 (.lit 0), .int .i64 (.lit 4), .int .i64 (.lit 0), .int .i64 (.lit 2), .int .i64 (.lit 3), .int .i64 (.lit 6)], 2, false),
   some ([.int .i64 (.lit (-9)), .int .i64 (.lit 0), .int .i64 (.lit 0), .int .i64 (.lit 9)], 2, false),
   some ([.int .i64 (.lit 4), .int .i64 (.lit 2), .int .i64 (.lit 1), .int .i64 (.lit 0)], 3, false),
   some ([.int .i64 (.lit 0), .int .u8 (.lit 1), .int .i64 (.lit 1), .int .i64 (.lit 4), .int .i64 (.lit 2), .int .i64 (.lit 2), .int .i64 (.lit 1), .int .i64 (.lit 2), .int .u8 (.lit 1), .int .i64 (.lit 2), .int .i64 (.lit 6), .int .i64 (.lit 2), .int .i64 (.lit 1), .int .i64 (.lit 0)], 92, true)]) :: Rh
theorem Z5f : Vx.XsOk Tryz.prog Z1f := ⟨Vx.deep_of Vm Z15 Z53, Z15⟩
theorem Z6b : Vx.okK Tryz.prog Z1f 1000 7 [] (.bool (.lit true)) = true := by kernel_rfl
theorem Z2v (w : World) {r0 : Bool} (H : Lc = some r0) : Fnc Tryz.prog 7 #[] w [] (fun v N => v = .bool r0 ∧ N = []) := by
 unfold Lc at H; injection H with H; subst H; exact Vx.awakeK Vm Z5f Z6b w
end Go.Proofs.YtgafnhfbeiofnaaGreat.Ax
namespace Go.Proofs.YtgafnhfbeiofnaaGreat.Ax
open Go Go.Acq Go.RowKit Go.Proofs
set_option maxHeartbeats 8000000
set_option maxRecDepth 20000
theorem Z68 : Xu Tryz.prog 30 3 = true := by kernel_rfl
theorem Z3z : Xu Tryz.prog 35 3 = true := by kernel_rfl
theorem Gy : Xu Tryz.prog 37 6 = true := by kernel_rfl
theorem Z66 : Yn Tryz.prog 5 = true := by kernel_rfl
theorem Z11 : Yn Tryz.prog 6 = true := by kernel_rfl
theorem Z1v : Yn Tryz.prog 7 = true := by kernel_rfl
theorem Z43 : Yn Tryz.prog 8 = true := by kernel_rfl
theorem Z0t : Uy Tryz.prog 37 [.i64, .i64, .i64, .i64, .i64, .i64] = true := by kernel_rfl
theorem Rk : Xd Tryz.prog 30 0 = some 0 := by kernel_rfl
theorem Z4y : Xd Tryz.prog 30 1 = some 1 := by kernel_rfl
theorem Z1q : Xd Tryz.prog 35 0 = some 0 := by kernel_rfl
theorem Z1d : Xd Tryz.prog 35 1 = some 1 := by kernel_rfl
theorem Z4r : Zq Tryz.prog 26 = some 1 := by kernel_rfl
theorem Z31 : Zq Tryz.prog 35 = some 3 := by kernel_rfl
theorem Z2g : Zq Tryz.prog 37 = some 6 := by kernel_rfl
theorem Z3b : Yr Tryz.prog 32 = true := by kernel_rfl
theorem Z1n : Yr Tryz.prog 33 = true := by kernel_rfl
theorem Z3t : Yl Tryz.prog 26 = some (iV 0) := by kernel_rfl
theorem Z3c : Yl Tryz.prog 35 = some (.agg #[.slice none 0 0, .slice none 0 0, iV 0]) := by kernel_rfl
theorem Z26 : Yl Tryz.prog 37 = some (.agg #[iV 0, iV 0, iV 0, iV 0, iV 0, iV 0]) := by kernel_rfl
theorem Rw {n0 : Net} {p1 : Plan} {a5 a7 : Option Addr} {a3 a4 a6 a2 : Nat} (w : World) (a8 : RS w [] Yk 3 a5 a3 a4 n0.Arcs) (a9 : RS w [] iC 1 a7 a6 a2 p1.Picks) {r0 : Int} (H : Uw n0 p1 = some r0) : Fnc Tryz.prog 6 #[.agg #[iV n0.N, iV n0.S, iV n0.T, .slice a5 a3 a4], .agg #[iV p1.Workers, iV p1.Limit, .slice a7 a6 a2]] w [] (fun v N => v = iV r0 ∧ N = []) := by
 unfold Uw at H; refine Yx (vs := [.agg #[iV n0.N, iV n0.S, iV n0.T, .slice a5 a3 a4], .agg #[iV p1.Workers, iV p1.Limit, .slice a7 a6 a2]]) Tryz.func6 rfl rfl (Inv.refl w) ?_; refine sR Y3 rfl ?_; refine Xj Za ?_; intro b1; refine Xj Za ?_; intro b3; refine aN Za ?_; refine Zo ?_; refine T.block ?_; refine Zo ?_; refine Wn (fun (x6 : Bool) => Gs n0 p1 x6 = some r0) (fun (x6 : Bool) => [(2, pV b1), (3, pV b3), (5, .bool x6)]) (fun (x6 : Bool) => [(eC b1 #[iV n0.N, iV n0.S, iV n0.T, .slice a5 a3 a4] 24), (eC b3 #[iV p1.Workers, iV p1.Limit, .slice a7 a6 a2] 30)]) ?_ ?_
 ·
  rcases Zs H with ⟨g5, H⟩ | ⟨g5, H⟩
  · refine rG Y9 rfl ?_; refine Zk Za Rk ?_; refine Zm Za Zx Zj rfl ?_; refine Zn Zl ?_; refine Zb Za ?_; refine Zy (t := 9) (b' := true) rfl (decide_eq_true g5) ?_; refine Zh Za ?_; refine Zh Za ?_; refine Zh Za ?_; refine Yv Zd ?_; refine Yq Za ?_; refine Zi ?_; exact Xe true H (aF rfl) (Zc Zt (Zc Ze Zf))
  · refine rG Y9 rfl ?_; refine Zk Za Rk ?_; refine Zm Za Zx Zj rfl ?_; refine Zn Zl ?_; refine Zb Za ?_; refine Zy (t := 9) (b' := false) rfl (decide_eq_false g5) ?_; refine Zk Za Rk ?_; refine Zm Za Zx Zj rfl ?_; refine Zn Zl ?_; refine Yw Zd ?_; refine Yq Za ?_; refine Zi ?_; exact Xe (decide (64 < p1.Workers)) H (aF rfl) (Zc Zt (Zc Ze Zf))
 ·
  rintro x6 H; unfold Gs at H; rcases Zs H with ⟨g7, H⟩ | ⟨g7, H⟩
  · refine Xn rfl g7 ?_; refine sR Y1 rfl ?_; refine aN Za ?_; refine T.ret ?_; refine Xm ?_; refine Yi ?_; obtain rfl := ret1 H; exact Zw Za (Res.tmp rfl) Zf ⟨rfl, rfl⟩
  ·
   refine Wk rfl (Bool.eq_false_iff.2 g7) ?_; refine sR Y4 rfl ?_; refine Zk Za Z4y ?_; refine Zm Za Zx Wb rfl ?_; refine Zn Zl ?_; refine aN Za ?_; rcases Zs H with ⟨g8, H⟩ | ⟨g8, H⟩
   · refine Xp rfl g8 ?_; refine sR Y1 rfl ?_; refine aN Za ?_; refine T.ret ?_; refine Xm ?_; refine Yi ?_; obtain rfl := ret1 H; exact Zw Za (Res.tmp rfl) Zf ⟨rfl, rfl⟩
   · refine Xo rfl g8 ?_; refine T.skip ?_; refine Xf ?_; refine Yh ?_; refine Zo ?_; obtain ⟨r9, b0, H⟩ := Zu H; refine rG Y3 rfl ?_; refine Yp Za Yz Zj rfl ?_; refine Yj Rv Za (fun wc hwc => Z0q (n0 := n0) wc (a8.mono hwc) b0) ?_; rintro _ _ ⟨rfl, rfl⟩; refine aN Za ?_; refine Zp (aT [4] rfl) ?_; refine T.ret ?_; obtain rfl := ret1 H; exact Zw Za (Res.tmp rfl) Zf ⟨rfl, rfl⟩
theorem Z54 {n0 : Net} {p1 : Plan} {a2 a7 : Option Addr} {a4 a5 a6 a3 : Nat} (w : World) (b6 : RS w [] Yk 3 a2 a4 a5 n0.Arcs) (b0 : RS w [] iC 1 a7 a6 a3 p1.Picks) {r0 : Answer} {r1 : Report} {r2 : Int} (H : Jz n0 p1 = some (r0, r1, r2)) : Fnc Tryz.prog 8 #[.agg #[iV n0.N, iV n0.S, iV n0.T, .slice a2 a4 a5], .agg #[iV p1.Workers, iV p1.Limit, .slice a7 a6 a3]] w [] (fun v N => ∃ (a8 : Option Nat) (b8 c3 : Nat) (d1 : List Value) (a9 : Option Nat) (c4 c9 : Nat) (d2 : List Value), v = .tuple #[.agg #[sV a8 b8 c3, sV a9 c4 c9, iV r0.Value], .agg #[iV r1.Phases, iV r1.Steps, iV r1.Pushes, iV r1.Lifts, iV r1.Repairs, iV r1.Alone], iV r2] ∧ N = [(eI a8 r0.Flow d1 2), (eA a9 boolC r0.Side d2 4)] ∧ r0.Flow.length = b8 ∧ b8 ≤ c3 ∧ d1.length = (c3 - b8) * 1 ∧ (a8 = none → c3 = 0) ∧ r0.Side.length = c4 ∧ c4 ≤ c9 ∧ d2.length = (c9 - c4) * 1 ∧ (a9 = none → c9 = 0)) := by
 unfold Jz at H; refine Z69 (vs := [.agg #[iV n0.N, iV n0.S, iV n0.T, .slice a2 a4 a5], .agg #[iV p1.Workers, iV p1.Limit, .slice a7 a6 a3]]) Tryz.func8 rfl rfl (Inv.refl w) ?_; refine sR Y5 rfl ?_; refine Xj Za ?_; intro b1; refine Xj Za ?_; intro b3; refine Wh Ym Z3c ?_; intro b5; refine Wh Ym Z26 ?_; intro b7; refine TO.alloc rfl rfl rfl Z3t ?_; intro b9; refine dS ?_; refine Zo ?_; obtain ⟨d3, d4, H⟩ := Zu H; refine rG Y4 rfl ?_; refine Yp Za Yz mm4 rfl ?_; refine Yp Za Z68 mm3 rfl ?_; refine Yj Z11 Za (fun wc hwc => Rw (n0 := n0) (p1 := p1) wc (b6.mono hwc) (b0.mono hwc) d4) ?_; rintro _ _ ⟨rfl, rfl⟩; refine aN Za ?_; refine sR Y2 rfl ?_; refine Zb Za ?_; refine Zn Zl ?_; refine dN ?_; rcases Zs H with ⟨d0, H⟩ | ⟨d0, H⟩
 · refine Xp rfl d0 ?_; refine sR Y6 rfl ?_; refine Wd (t := 35) [.slice none 0 0, .slice none 0 0, iV 0] [0, 1, 2] Za (by simp only [Xh, setCells, Value.cells, List.toList_toArray, List.getD_cons_zero, List.getD_cons_succ, List.set_cons_zero, List.set_cons_succ]; rfl) (by kernel_rfl) ?_; refine Wd (t := 37) [iV 0, iV 0, iV 0, iV 0, iV 0, iV 0] [0, 1, 2, 3, 4, 5] Za (by simp only [Xh, setCells, Value.cells, List.toList_toArray, List.getD_cons_zero, List.getD_cons_succ, List.set_cons_zero, List.set_cons_succ]; rfl) (by kernel_rfl) ?_; refine Zb Za ?_; refine Wc Za Xk Z31 Ym ?_; refine Wc Za Xk Z2g Ym ?_; refine Jg (cs' := [iV d3]) Za Xk Z4r Ym ?_; refine dN ?_; refine Zp (aT [4, 5, 6] rfl) ?_; refine T.ret ?_; refine Yi ?_; obtain ⟨rfl, rfl, rfl⟩ := ret3 H; exact X.retM3 [] Zd (Ya _) (Lr rfl Z3z mm2 rfl) (Lr rfl Gy Wb rfl) (Z4f rfl Ux Zj rfl) (Pick.none (Pick.none Zf)) ⟨none, 0, 0, ([]), none, 0, 0, ([]), rfl, rfl, rfl, (Nat.le_refl _), (Vg 0 _), (fun _ => rfl), rfl, (Nat.le_refl _), (Vg 0 _), (fun _ => rfl)⟩
 · refine Xo rfl d0 ?_; refine T.skip ?_; refine Yh ?_; refine Zp (aT [2, 3, 4, 5, 6] rfl) ?_; refine Zo ?_; cases H
theorem w_acequialaw25_SolverNone {n0 : Net} {workers1 limit2 : Int} {ends3 : Bool} {a6 : Option Addr} {a4 a5 : Nat} (w : World) (b7 : RS w [] Yk 3 a6 a4 a5 n0.Arcs) {r0 : Bool} (H : Nu n0 workers1 limit2 ends3 = some r0) : Fnc Tryz.prog 3 #[.agg #[iV n0.N, iV n0.S, iV n0.T, .slice a6 a4 a5], iV workers1, iV limit2, .bool ends3] w [] (fun v N => v = .bool r0 ∧ N = []) := by
 unfold Nu at H; refine Yx (vs := [.agg #[iV n0.N, iV n0.S, iV n0.T, .slice a6 a4 a5], iV workers1, iV limit2, .bool ends3]) Tryz.func3 rfl rfl (Inv.refl w) ?_; refine sR Y2 rfl ?_; refine Xj Za ?_; intro b1; refine aN Za ?_; refine Zo ?_; obtain ⟨r3, e4, H⟩ := Zu H; refine rG Y3 rfl ?_; refine Yp Za Yz Zj rfl ?_; refine Yj Z66 Za (fun wc hwc => Z57 (n0 := n0) (verts1 := 7) (arcs2 := 14) wc (b7.mono hwc) e4) ?_; rintro _ _ ⟨b8, n6, c7, j8, rfl, rfl, d7, b5, f5, b6⟩; refine Wc Za Zt Z0o Ym ?_; refine dS ?_; refine sR Y1 rfl ?_; refine Zb Za ?_; refine dN ?_; refine Wn (fun (a8 : Int) => Ku workers1 limit2 ends3 r3 a8 = some r0) (fun (a8 : Int) => [(1, iV workers1), (2, iV limit2), (3, .bool ends3), (4, pV b1)]) (fun (a8 : Int) => [(eC b1 #[iV r3.N, iV r3.S, iV a8, sV b8 n6 c7] 24), (eA b8 Yk r3.Arcs j8 55)]) ?_ ?_
 ·
  rcases Zs H with ⟨d8, H⟩ | ⟨d8, H⟩
  · refine Xn rfl d8 ?_; refine rG Y4 rfl ?_; refine Zk Za Ub ?_; refine Zm Za Zx Zj rfl ?_; refine Zk Za Ur ?_; refine Jg (cs' := [iV r3.N, iV r3.S, iV r3.S, sV b8 n6 c7]) Za Ze Xb Ym ?_; refine Zi ?_; exact Xe r3.S H (aF rfl) (Zc Ze (Zc Ze Zf))
  · refine Wk rfl (Bool.eq_false_iff.2 d8) ?_; refine T.skip ?_; exact Xe r3.T H (aF rfl) (Zc Ze (Zc Ze Zf))
 ·
  rintro a8 H; unfold Ku at H; refine Zo ?_; refine Zo ?_; refine Wn (fun (b9 : Bool) => Uc workers1 limit2 r3 a8 b9 = some r0) (fun (b9 : Bool) => [(1, iV workers1), (2, iV limit2), (4, pV b1), (32, .bool b9)]) (fun (b9 : Bool) => [(eC b1 #[iV r3.N, iV r3.S, iV a8, sV b8 n6 c7] 24), (eA b8 Yk r3.Arcs j8 55)]) ?_ ?_
  ·
   rcases Zs H with ⟨c3, H⟩ | ⟨c3, H⟩
   ·
    rcases Zs H with ⟨d2, H⟩ | ⟨d2, H⟩
    ·
     rcases Zs H with ⟨d9, H⟩ | ⟨d9, H⟩
     · refine rG Y14 rfl ?_; refine Zb Za ?_; refine Zn Zl ?_; refine Zb Za ?_; refine Zy (t := 21) (b' := true) rfl (decide_eq_true c3) ?_; refine Zb Za ?_; refine Zn Zl ?_; refine Yv Zd ?_; refine Zb Za ?_; refine Zy (t := 25) (b' := true) rfl (decide_eq_true d2) ?_; refine Zb Za ?_; refine Zn Zl ?_; refine Yv Zd ?_; refine Zb Za ?_; refine Zy (t := 29) (b' := true) rfl (decide_eq_true d9) ?_; refine Zb Za ?_; refine TO.not Za ?_; refine Yv Zd ?_; refine Zi ?_; exact Xe (!ends3) H (aF rfl) (Zc Ze (Zc Ze Zf))
     · refine rG Y14 rfl ?_; refine Zb Za ?_; refine Zn Zl ?_; refine Zb Za ?_; refine Zy (t := 21) (b' := true) rfl (decide_eq_true c3) ?_; refine Zb Za ?_; refine Zn Zl ?_; refine Yv Zd ?_; refine Zb Za ?_; refine Zy (t := 25) (b' := true) rfl (decide_eq_true d2) ?_; refine Zb Za ?_; refine Zn Zl ?_; refine Yv Zd ?_; refine Zb Za ?_; refine Zy (t := 29) (b' := false) rfl (decide_eq_false d9) ?_; refine Zh Za ?_; refine Zh Za ?_; refine Yw Zd ?_; refine Zi ?_; exact Xe false H (aF rfl) (Zc Ze (Zc Ze Zf))
    · refine rG Y14 rfl ?_; refine Zb Za ?_; refine Zn Zl ?_; refine Zb Za ?_; refine Zy (t := 21) (b' := true) rfl (decide_eq_true c3) ?_; refine Zb Za ?_; refine Zn Zl ?_; refine Yv Zd ?_; refine Zb Za ?_; refine Zy (t := 25) (b' := false) rfl (decide_eq_false d2) ?_; refine Zh Za ?_; refine Zh Za ?_; refine Yw Zd ?_; refine Zb Za ?_; refine Zh Za ?_; refine Zh Za ?_; refine Yw Zd ?_; refine Zi ?_; exact Xe false H (aF rfl) (Zc Ze (Zc Ze Zf))
   · refine rG Y14 rfl ?_; refine Zb Za ?_; refine Zn Zl ?_; refine Zb Za ?_; refine Zy (t := 21) (b' := false) rfl (decide_eq_false c3) ?_; refine Zh Za ?_; refine Zh Za ?_; refine Yw Zd ?_; refine Zb Za ?_; refine Zh Za ?_; refine Zh Za ?_; refine Yw Zd ?_; refine Zb Za ?_; refine Zh Za ?_; refine Zh Za ?_; refine Yw Zd ?_; refine Zi ?_; exact Xe false H (aF rfl) (Zc Ze (Zc Ze Zf))
  ·
   rintro b9 H; unfold Uc at H; rcases Zs H with ⟨e0, H⟩ | ⟨e0, H⟩
   ·
    refine Xn rfl e0 ?_; refine Zo ?_; obtain ⟨g5, e7, H⟩ := Zu H; rcases Zs H with ⟨e1, H⟩ | ⟨e1, H⟩
    · obtain ⟨g6, f6, H⟩ := Zu H; refine rG Y10 rfl ?_; refine Yp Za Yz Zj rfl ?_; refine Zb Za ?_; refine Zb Za ?_; refine Wd (t := 30) [iV 0, iV 0, .slice none 0 0] [0, 1, 2] Za (by simp only [Xh, setCells, Value.cells, List.toList_toArray, List.getD_cons_zero, List.getD_cons_succ, List.set_cons_zero, List.set_cons_succ]; rfl) (by kernel_rfl) ?_; refine Yj Z11 Za (fun wc hwc => Rw (n0 := (Net.mk r3.N r3.S a8 r3.Arcs)) (p1 := (Plan.mk workers1 limit2 ([]))) wc (hwc.rs (f := Yk) (s := 3) (xs := r3.Arcs) (j := j8) (fun _ => rfl) Wb d7 b5 b6) (RS.nil _ _ (fun _ => rfl)) e7) ?_; rintro _ _ ⟨rfl, rfl⟩; refine Zn Zl ?_; refine Zb Za ?_; refine Zy (t := 39) (b' := true) rfl (decide_eq_true e1) ?_; refine Yj Z1v Za (fun wc hwc => Z2v  wc  f6) ?_; rintro _ _ ⟨rfl, rfl⟩; refine Yv Zd ?_; refine aN Za ?_; refine Zp (aT [8] rfl) ?_; refine T.ret ?_; refine Yi ?_; obtain rfl := ret1 H; exact Zw Za (Res.tmp rfl) Zf ⟨rfl, rfl⟩
    · refine rG Y10 rfl ?_; refine Yp Za Yz Zj rfl ?_; refine Zb Za ?_; refine Zb Za ?_; refine Wd (t := 30) [iV 0, iV 0, .slice none 0 0] [0, 1, 2] Za (by simp only [Xh, setCells, Value.cells, List.toList_toArray, List.getD_cons_zero, List.getD_cons_succ, List.set_cons_zero, List.set_cons_succ]; rfl) (by kernel_rfl) ?_; refine Yj Z11 Za (fun wc hwc => Rw (n0 := (Net.mk r3.N r3.S a8 r3.Arcs)) (p1 := (Plan.mk workers1 limit2 ([]))) wc (hwc.rs (f := Yk) (s := 3) (xs := r3.Arcs) (j := j8) (fun _ => rfl) Wb d7 b5 b6) (RS.nil _ _ (fun _ => rfl)) e7) ?_; rintro _ _ ⟨rfl, rfl⟩; refine Zn Zl ?_; refine Zb Za ?_; refine Zy (t := 39) (b' := false) rfl (decide_eq_false e1) ?_; refine Zh Za ?_; refine Yw Zd ?_; refine aN Za ?_; refine Zp (aT [8] rfl) ?_; refine T.ret ?_; refine Yi ?_; obtain rfl := ret1 H; exact Zw Za (Res.tmp rfl) Zf ⟨rfl, rfl⟩
   ·
    refine Wk rfl (Bool.eq_false_iff.2 e0) ?_; refine T.skip ?_; refine Yh ?_; refine Zo ?_; obtain ⟨⟨a7, a2, d3⟩, f7, H⟩ := Zu H; refine rG Y14 rfl ?_; refine Yp Za Yz Zj rfl ?_; refine Zb Za ?_; refine Zb Za ?_; refine Wd (t := 30) [iV 0, iV 0, .slice none 0 0] [0, 1, 2] Za (by simp only [Xh, setCells, Value.cells, List.toList_toArray, List.getD_cons_zero, List.getD_cons_succ, List.set_cons_zero, List.set_cons_succ]; rfl) (by kernel_rfl) ?_; refine Yj Z43 Za (fun wc hwc => Z54 (n0 := (Net.mk r3.N r3.S a8 r3.Arcs)) (p1 := (Plan.mk workers1 limit2 ([]))) wc (hwc.rs (f := Yk) (s := 3) (xs := r3.Arcs) (j := j8) (fun _ => rfl) Wb d7 b5 b6) (RS.nil _ _ (fun _ => rfl)) f7) ?_; rintro _ _ ⟨a9, e8, e9, f0, b0, n35, f2, f3, rfl, rfl, c4, f8, f9, g0, c9, g1, g2, g3⟩; refine Zb Za ?_; refine TO.extract Zd ?_; refine TO.extract Zd ?_; refine TO.extract Zd ?_; refine Wh Ym Z3c ?_; intro d4; refine Wh Ym Z26 ?_; intro d5; refine Wc Za Zt Z31 Ym ?_; refine Wc Za Zt Z2g Ym ?_; refine aN Za ?_; refine Zp (aT [1, 2, 9, 10, 11] rfl) ?_; refine sR Y1 rfl ?_; refine aN Za ?_; refine Zo ?_; refine Wn (fun (a3 : Int) => Ke a7 a2 d3 a3 = some r0) (fun (a3 : Int) => [(9, pV d4), (10, pV d5), (11, iV d3), (12, iV a3)]) (fun (a3 : Int) => [(eC d4 #[sV a9 e8 e9, sV b0 n35 f2, iV a7.Value] 35), (eI a9 a7.Flow f0 2), (eA b0 boolC a7.Side f3 4), (eC d5 #[iV a2.Phases, iV a2.Steps, iV a2.Pushes, iV a2.Lifts, iV a2.Repairs, iV a2.Alone] 37)]) ?_ ?_
    ·
     refine T.block ?_; refine Zo ?_; refine Wn (fun (d0 : Bool) => Gl limit2 a7 a2 d3 d0 = some r0) (fun (d0 : Bool) => [(2, iV limit2), (9, pV d4), (10, pV d5), (11, iV d3), (12, iV 12), (51, .bool d0)]) (fun (d0 : Bool) => [(eC d4 #[sV a9 e8 e9, sV b0 n35 f2, iV a7.Value] 35), (eI a9 a7.Flow f0 2), (eA b0 boolC a7.Side f3 4), (eC d5 #[iV a2.Phases, iV a2.Steps, iV a2.Pushes, iV a2.Lifts, iV a2.Repairs, iV a2.Alone] 37)]) ?_ ?_
     ·
      rcases Zs H with ⟨e2, H⟩ | ⟨e2, H⟩
      · refine rG Y7 rfl ?_; refine Zb Za ?_; refine Zn Zl ?_; refine Zb Za ?_; refine Zy (t := 54) (b' := true) rfl (decide_eq_true e2) ?_; refine Zh Za ?_; refine Zh Za ?_; refine Yv Zd ?_; refine Yq Za ?_; refine Zi ?_; exact Xe true H (aF rfl) (Zc Zt (Zc Zt (Zc Zt (Zc Ze Zf))))
      · refine rG Y7 rfl ?_; refine Zb Za ?_; refine Zn Zl ?_; refine Zb Za ?_; refine Zy (t := 54) (b' := false) rfl (decide_eq_false e2) ?_; refine Zb Za ?_; refine Zn Zl ?_; refine Yw Zd ?_; refine Yq Za ?_; refine Zi ?_; exact Xe (decide (64 < workers1)) H (aF rfl) (Zc Zt (Zc Zt (Zc Zt (Zc Ze Zf))))
     ·
      rintro d0 H; unfold Gl at H; rcases Zs H with ⟨e3, H⟩ | ⟨e3, H⟩
      · refine Xn rfl e3 ?_; refine rG Y1 rfl ?_; refine Yq Za ?_; refine Zi ?_; refine Xf ?_; exact Xe 40 H (aF rfl) (Zc Ze (Zc Ze (Zc Ze (Zc Ze Zf))))
      ·
       refine Wk rfl (Bool.eq_false_iff.2 e3) ?_; refine sR Y3 rfl ?_; refine Zb Za ?_; refine Zn Zl ?_; refine aN Za ?_; rcases Zs H with ⟨e5, H⟩ | ⟨e5, H⟩
       · refine Xp rfl e5 ?_; refine rG Y1 rfl ?_; refine Yq Za ?_; refine Zi ?_; refine Xf ?_; exact Xe 2 H (aF rfl) (Zc Ze (Zc Ze (Zc Ze (Zc Ze Zf))))
       · refine Xo rfl e5 ?_; refine T.skip ?_; refine Xf ?_; exact Xe 12 H (aF rfl) (Zc Ze (Zc Ze (Zc Ze (Zc Ze Zf))))
    ·
     rintro a3 H; unfold Ke at H; refine Zo ?_; rcases Zs H with ⟨d1, H⟩ | ⟨d1, H⟩
     ·
      rcases Zs H with ⟨d6, H⟩ | ⟨d6, H⟩
      ·
       obtain ⟨f4, H⟩ := Yb H; rcases Zs H with ⟨e6, H⟩ | ⟨e6, H⟩
       · obtain ⟨g7, g4, H⟩ := Zu H; refine rG Y22 rfl ?_; refine Zb Za ?_; refine Zb Za ?_; refine Zn Zl ?_; refine Zb Za ?_; refine Zy (t := 64) (b' := true) rfl (decide_eq_true d1) ?_; refine Yp Za Gy mm3 rfl ?_; refine Wd (t := 37) [iV 0, iV 0, iV 0, iV 0, iV 0, iV 0] [0, 1, 2, 3, 4, 5] Za (by simp only [Xh, setCells, Value.cells, List.toList_toArray, List.getD_cons_zero, List.getD_cons_succ, List.set_cons_zero, List.set_cons_succ]; rfl) (by kernel_rfl) ?_; refine Rn (us := [a2.Phases, a2.Steps, a2.Pushes, a2.Lifts, a2.Repairs, a2.Alone]) (ws := [0, 0, 0, 0, 0, 0]) [.i64, .i64, .i64, .i64, .i64, .i64] Z0t rr9 ?_; refine Yv Zd ?_; refine Zb Za ?_; refine Zy (t := 69) (b' := true) rfl (decide_eq_true d6) ?_; refine Zk Za Z1q ?_; refine Zm Za Z3b Zj rfl ?_; refine Xv (xs := a7.Flow) c4 Zd Kh ?_; refine Zk Za Z1d ?_; refine Zm Za Z1n Zj rfl ?_; refine Xv (xs := a7.Side) c9 Zd Nv ?_; refine Xr f4 Zd ?_; refine Zn Zl ?_; refine Yv Zd ?_; refine Zb Za ?_; refine Zy (t := 79) (b' := true) rfl (decide_eq_true e6) ?_; refine Yj Z1v Za (fun wc hwc => Z2v  wc  g4) ?_; rintro _ _ ⟨rfl, rfl⟩; refine Yv Zd ?_; refine aN Za ?_; refine Zp (aT [8] rfl) ?_; refine T.ret ?_; obtain rfl := ret1 H; exact Zw Za (Res.tmp rfl) Zf ⟨rfl, rfl⟩
       · refine rG Y22 rfl ?_; refine Zb Za ?_; refine Zb Za ?_; refine Zn Zl ?_; refine Zb Za ?_; refine Zy (t := 64) (b' := true) rfl (decide_eq_true d1) ?_; refine Yp Za Gy mm3 rfl ?_; refine Wd (t := 37) [iV 0, iV 0, iV 0, iV 0, iV 0, iV 0] [0, 1, 2, 3, 4, 5] Za (by simp only [Xh, setCells, Value.cells, List.toList_toArray, List.getD_cons_zero, List.getD_cons_succ, List.set_cons_zero, List.set_cons_succ]; rfl) (by kernel_rfl) ?_; refine Rn (us := [a2.Phases, a2.Steps, a2.Pushes, a2.Lifts, a2.Repairs, a2.Alone]) (ws := [0, 0, 0, 0, 0, 0]) [.i64, .i64, .i64, .i64, .i64, .i64] Z0t rr9 ?_; refine Yv Zd ?_; refine Zb Za ?_; refine Zy (t := 69) (b' := true) rfl (decide_eq_true d6) ?_; refine Zk Za Z1q ?_; refine Zm Za Z3b Zj rfl ?_; refine Xv (xs := a7.Flow) c4 Zd Kh ?_; refine Zk Za Z1d ?_; refine Zm Za Z1n Zj rfl ?_; refine Xv (xs := a7.Side) c9 Zd Nv ?_; refine Xr f4 Zd ?_; refine Zn Zl ?_; refine Yv Zd ?_; refine Zb Za ?_; refine Zy (t := 79) (b' := false) rfl (decide_eq_false e6) ?_; refine Zh Za ?_; refine Yw Zd ?_; refine aN Za ?_; refine Zp (aT [8] rfl) ?_; refine T.ret ?_; obtain rfl := ret1 H; exact Zw Za (Res.tmp rfl) Zf ⟨rfl, rfl⟩
      · refine rG Y22 rfl ?_; refine Zb Za ?_; refine Zb Za ?_; refine Zn Zl ?_; refine Zb Za ?_; refine Zy (t := 64) (b' := true) rfl (decide_eq_true d1) ?_; refine Yp Za Gy mm3 rfl ?_; refine Wd (t := 37) [iV 0, iV 0, iV 0, iV 0, iV 0, iV 0] [0, 1, 2, 3, 4, 5] Za (by simp only [Xh, setCells, Value.cells, List.toList_toArray, List.getD_cons_zero, List.getD_cons_succ, List.set_cons_zero, List.set_cons_succ]; rfl) (by kernel_rfl) ?_; refine Rn (us := [a2.Phases, a2.Steps, a2.Pushes, a2.Lifts, a2.Repairs, a2.Alone]) (ws := [0, 0, 0, 0, 0, 0]) [.i64, .i64, .i64, .i64, .i64, .i64] Z0t rr9 ?_; refine Yv Zd ?_; refine Zb Za ?_; refine Zy (t := 69) (b' := false) rfl (decide_eq_false d6) ?_; refine Zh Za ?_; refine Zh Za ?_; refine Zh Za ?_; refine Zh Za ?_; refine Zh Za ?_; refine Zh Za ?_; refine Zh Za ?_; refine Zh Za ?_; refine Yw Zd ?_; refine Zb Za ?_; refine Zh Za ?_; refine Yw Zd ?_; refine aN Za ?_; refine Zp (aT [8] rfl) ?_; refine T.ret ?_; obtain rfl := ret1 H; exact Zw Za (Res.tmp rfl) Zf ⟨rfl, rfl⟩
     · refine rG Y22 rfl ?_; refine Zb Za ?_; refine Zb Za ?_; refine Zn Zl ?_; refine Zb Za ?_; refine Zy (t := 64) (b' := false) rfl (decide_eq_false d1) ?_; refine Zh Za ?_; refine Zh Za ?_; refine Zh Za ?_; refine Yw Zd ?_; refine Zb Za ?_; refine Zh Za ?_; refine Zh Za ?_; refine Zh Za ?_; refine Zh Za ?_; refine Zh Za ?_; refine Zh Za ?_; refine Zh Za ?_; refine Zh Za ?_; refine Yw Zd ?_; refine Zb Za ?_; refine Zh Za ?_; refine Yw Zd ?_; refine aN Za ?_; refine Zp (aT [8] rfl) ?_; refine T.ret ?_; obtain rfl := ret1 H; exact Zw Za (Res.tmp rfl) Zf ⟨rfl, rfl⟩
end Go.Proofs.YtgafnhfbeiofnaaGreat.Ax
namespace Go.Acq
open Go
def Vs (a : Arc) (v : Nat) : Nat := if a.fr = a.to then 0 else if a.fr = v ∨ a.to = v then 1 else 0
def Xs (al : List Arc) (v : Nat) : Nat → Nat
  | 0 => 0
  | k + 1 => Xs al v k + Vs (al.getD k default) v
def Ye (al : List Arc) : Nat → Nat
  | 0 => 0
  | v + 1 => Ye al v + Xs al v al.length
def Ys (a : Arc) (s : Bool) : Int := if s then a.to else a.fr
def pos (al : List Arc) (i : Nat) (s : Bool) : Nat := Ye al (Ys (al.getD i default) s).toNat + Xs al (Ys (al.getD i default) s).toNat i
def Jb (n : Nat) (al : List Arc) : Prop := ∀ i, i < al.length → ∀ s, 0 ≤ Ys (al.getD i default) s ∧ Ys (al.getD i default) s < n
theorem lset {α : Type} (xs : List α) (i j : Nat) (v d : α) : (xs.set i v).getD j d = if i = j ∧ i < xs.length then v else xs.getD j d := by
 rw [List.getD_eq_getElem?_getD, List.getD_eq_getElem?_getD, List.getElem?_set]
 split
 ·
  rename_i h; subst h
  split
  · rename_i h2; simp [h2]
  · rename_i h2; simp [h2]
 · rename_i h; simp [h]
theorem Ug {α : Type} {xs : List α} {i j : Nat} {v d : α} (h : i ≠ j) : (xs.set i v).getD j d = xs.getD j d := by
 rw [lset, if_neg (fun e => h e.1)]
theorem Z0n {α : Type} {xs : List α} {i : Nat} {v d : α} (h : i < xs.length) : (xs.set i v).getD i d = v := by
 rw [lset, if_pos ⟨rfl, h⟩]
theorem Rp {α : Type} (n j : Nat) (v : α) : (List.replicate n v).getD j v = v := by
 rw [List.getD_eq_getElem?_getD, List.getElem?_replicate]; split <;> simp
theorem hit_le (a : Arc) (v : Nat) : Vs a v ≤ 1 := by unfold Vs; split; omega; split <;> omega
theorem cnt_mono {al : List Arc} {v i j : Nat} (h : i ≤ j) : Xs al v i ≤ Xs al v j := by
 induction h with
 | refl => exact Nat.le_refl _
 | step _ ih => exact Nat.le_trans ih (Nat.le_add_right _ _)
theorem Z05 {al : List Arc} {u v : Nat} (h : u ≤ v) : Ye al u ≤ Ye al v := by
 induction h with
 | refl => exact Nat.le_refl _
 | step _ ih => exact Nat.le_trans ih (Nat.le_add_right _ _)
theorem hit_vtx {a : Arc} {s : Bool} (h : a.fr ≠ a.to) (h0 : 0 ≤ Ys a s) : Vs a (Ys a s).toNat = 1 := by
 unfold Vs; rw [if_neg h, if_pos]
 cases s
 · left; simp only [Ys] at h0 ⊢; simp only [Bool.false_eq_true, if_false] at h0 ⊢; omega
 · right; simp only [Ys] at h0 ⊢; simp only [if_true] at h0 ⊢; omega
theorem Gi {al : List Arc} {i j : Nat} {s : Bool} (hij : i < j) (h : (al.getD i default).fr ≠ (al.getD i default).to) (h0 : 0 ≤ Ys (al.getD i default) s) :
    Xs al (Ys (al.getD i default) s).toNat i < Xs al (Ys (al.getD i default) s).toNat j := by
  have h1 := cnt_mono (al := al) (v := (Ys (al.getD i default) s).toNat) (i := i + 1) (j := j) hij
  have h2 := hit_vtx h h0
  simp only [Xs] at h1
  omega
theorem pos_lt {al : List Arc} {n i : Nat} {s : Bool} (hi : i < al.length) (h : (al.getD i default).fr ≠ (al.getD i default).to) (he : Jb n al) : pos al i s < Ye al n := by
 have h1 := Gi (s := s) hi h (he i hi s).1
 have h2 := Z05 (al := al) (u := (Ys (al.getD i default) s).toNat + 1) (v := n) (by have := he i hi s; omega)
 simp only [Ye] at h2
 unfold pos; omega
theorem Z0f {al : List Arc} {n i j : Nat} {s t : Bool} (he : Jb n al) (hi : i < al.length) (hj : j < al.length) (h : (al.getD i default).fr ≠ (al.getD i default).to) (g : (al.getD j default).fr ≠ (al.getD j default).to)
    (e : pos al i s = pos al j t) : i = j ∧ s = t := by
  have hi1 := Gi (s := s) hi h (he i hi s).1
  have hj1 := Gi (s := t) hj g (he j hj t).1
  have hv : (Ys (al.getD i default) s).toNat = (Ys (al.getD j default) t).toNat := by
    rcases Nat.lt_trichotomy (Ys (al.getD i default) s).toNat (Ys (al.getD j default) t).toNat with h1 | h1 | h1
    · have := Z05 (al := al) (u := (Ys (al.getD i default) s).toNat + 1) h1
      simp only [Ye] at this
      unfold pos at e; omega
    · exact h1
    · have := Z05 (al := al) (u := (Ys (al.getD j default) t).toNat + 1) h1
      simp only [Ye] at this
      unfold pos at e; omega
  have hij : i = j := by
    rcases Nat.lt_trichotomy i j with h1 | h1 | h1
    · have h2 := Gi (s := s) h1 h (he i hi s).1
      unfold pos at e; rw [hv] at e h2; omega
    · exact h1
    · have h2 := Gi (s := t) h1 g (he j hj t).1
      unfold pos at e; rw [hv] at e; omega
  refine ⟨hij, ?_⟩
  subst hij
  have h1 := (he i hi s).1
  have h2 := (he i hi t).1
  cases s <;> cases t <;> first | rfl | (simp only [Ys, Bool.false_eq_true, if_false, if_true] at hv h1 h2; omega)
theorem Z19 {al : List Arc} {v r : Nat} : ∀ {k : Nat}, r < Xs al v k → ∃ i, i < k ∧ Xs al v i = r ∧ Vs (al.getD i default) v = 1
 | 0, h => by simp [Xs] at h
 | k + 1, h => by
  by_cases h1 : r < Xs al v k
  · obtain ⟨i, h2, h3⟩ := Z19 h1; exact ⟨i, by omega, h3⟩
  ·
   have := hit_le (al.getD k default) v
   simp only [Xs] at h
   exact ⟨k, by omega, by omega, by omega⟩
theorem Z2i {al : List Arc} {p : Nat} : ∀ {n : Nat}, p < Ye al n → ∃ v, v < n ∧ Ye al v ≤ p ∧ p < Ye al (v + 1)
 | 0, h => by simp [Ye] at h
 | n + 1, h => by
  by_cases h1 : p < Ye al n
  · obtain ⟨v, h2, h3⟩ := Z2i h1; exact ⟨v, by omega, h3⟩
  · exact ⟨n, by omega, by omega, h⟩
theorem pos_surj {al : List Arc} {n p : Nat} (h : p < Ye al n) : ∃ i s, i < al.length ∧ (al.getD i default).fr ≠ (al.getD i default).to ∧ pos al i s = p ∧ 0 ≤ Ys (al.getD i default) s ∧ Ys (al.getD i default) s < n ∧
    Ye al (Ys (al.getD i default) s).toNat ≤ p ∧ p < Ye al ((Ys (al.getD i default) s).toNat + 1) := by
  obtain ⟨v, hv, h1, h2⟩ := Z2i h
  simp only [Ye] at h2
  obtain ⟨i, hi, h3, h4⟩ := Z19 (al := al) (v := v) (r := p - Ye al v) (k := al.length) (by omega)
  unfold Vs at h4
  split at h4
  · omega
  · rename_i hne
    split at h4
    · rename_i ho
      rcases ho with ho | ho
      · refine ⟨i, false, hi, hne, ?_, ?_, ?_, ?_, ?_⟩ <;> simp only [pos, Ys, Bool.false_eq_true, if_false, ho, Int.toNat_natCast, Ye] <;> omega
      · refine ⟨i, true, hi, hne, ?_, ?_, ?_, ?_, ?_⟩ <;> simp only [pos, Ys, if_true, ho, Int.toNat_natCast, Ye] <;> omega
    · omega
def CsrAt (al : List Arc) (hs rs cs aa : List Int) (bs : List Bool) (k : Nat) : Prop :=
  ∀ i, i < k → (al.getD i default).fr ≠ (al.getD i default).to → ∀ s,
    hs.getD (pos al i s) 0 = Ys (al.getD i default) (!s) ∧ rs.getD (pos al i s) 0 = pos al i (!s) ∧ cs.getD (pos al i s) 0 = (if s then 0 else (al.getD i default).cap) ∧
    aa.getD (pos al i s) 0 = i ∧ bs.getD (pos al i s) false = s
structure CsrOK (al : List Arc) (n : Nat) (fs hs rs cs aa : List Int) (bs : List Bool) : Prop where
  lf : fs.length = n + 1
  lh : hs.length = Ye al n
  lr : rs.length = Ye al n
  lc : cs.length = Ye al n
  la : aa.length = Ye al n
  lb : bs.length = Ye al n
  hf : ∀ v, v ≤ n → fs.getD v 0 = Ye al v
  hat : CsrAt al hs rs cs aa bs al.length
theorem CsrAt.skip {al : List Arc} {hs rs cs aa : List Int} {bs : List Bool} {k : Nat} (h : CsrAt al hs rs cs aa bs k) (e : (al.getD k default).fr = (al.getD k default).to) : CsrAt al hs rs cs aa bs (k + 1) := by
 intro i hi hne s
 rcases Nat.lt_succ_iff_lt_or_eq.1 hi with h1 | h1
 · exact h i h1 hne s
 · subst h1; exact absurd e hne
theorem Ut {α : Type} {xs : List α} {p q j : Nat} {u v d : α} (hp : p < xs.length) (hq : q < xs.length) (hpq : p ≠ q) :
    ((xs.set p u).set q v).getD j d = if j = p then u else if j = q then v else xs.getD j d := by
  rw [lset, lset]
  by_cases h1 : j = p
  · subst h1; rw [if_pos rfl, if_neg (fun e => hpq e.1.symm), if_pos ⟨rfl, hp⟩]
  · rw [if_neg h1]
    by_cases h2 : j = q
    · subst h2; rw [if_pos rfl, if_pos ⟨rfl, by simpa using hq⟩]
    · rw [if_neg h2, if_neg (fun e => h2 e.1.symm), if_neg (fun e => h1 e.1.symm)]
theorem CsrAt.put {al : List Arc} {n : Nat} {hs rs cs aa : List Int} {bs : List Bool} {k : Nat} (h : CsrAt al hs rs cs aa bs k) (he : Jb n al) (hk : k < al.length) (hne : (al.getD k default).fr ≠ (al.getD k default).to)
    (lh : hs.length = Ye al n) (lr : rs.length = Ye al n) (lc : cs.length = Ye al n) (la : aa.length = Ye al n) (lb : bs.length = Ye al n) :
    CsrAt al ((hs.set (pos al k false) (al.getD k default).to).set (pos al k true) (al.getD k default).fr) ((rs.set (pos al k false) (pos al k true)).set (pos al k true) (pos al k false))
      ((cs.set (pos al k false) (al.getD k default).cap).set (pos al k true) 0) ((aa.set (pos al k false) k).set (pos al k true) k) ((bs.set (pos al k false) false).set (pos al k true) true) (k + 1) := by
  have hp : pos al k false < Ye al n := pos_lt hk hne he
  have hq : pos al k true < Ye al n := pos_lt hk hne he
  have hpq : pos al k false ≠ pos al k true := fun e => by have := (Z0f he hk hk hne hne e).2; cases this
  intro i hi hni s
  have hil : i < al.length := by omega
  rw [Ut (by omega) (by omega) hpq, Ut (by omega) (by omega) hpq, Ut (by omega) (by omega) hpq, Ut (by omega) (by omega) hpq, Ut (by omega) (by omega) hpq]
  by_cases hik : i = k
  · subst hik
    cases s
    · simp [Ys]
    · simp [Ys, hpq.symm]
  · have h1 : pos al i s ≠ pos al k false := fun e => hik (Z0f he hil hk hni hne e).1
    have h2 : pos al i s ≠ pos al k true := fun e => hik (Z0f he hil hk hni hne e).1
    simp only [if_neg h1, if_neg h2]
    exact h i (by omega) hni s
def Counted (al : List Arc) (m k : Nat) (fs : List Int) : Prop := fs.length = m + 1 ∧ fs.getD 0 0 = 0 ∧ ∀ v : Int, 0 ≤ v → v < m → fs.getD (v + 1).toNat 0 = Xs al v.toNat k
def Summed (al : List Arc) (m k : Nat) (fs : List Int) : Prop := fs.length = m + 1 ∧ (∀ u, u ≤ k → fs.getD u 0 = Ye al u) ∧ ∀ u, k ≤ u → u < m → fs.getD (u + 1) 0 = Xs al u al.length
theorem Counted.start (al : List Arc) (m : Nat) {p : Nat} (h : p = m + 1) : Counted al m 0 (List.replicate p 0) :=
 ⟨by simp [h], Rp _ _ _, fun v _ _ => by rw [Rp]; rfl⟩
theorem Counted.skip {al : List Arc} {m k : Nat} {fs : List Int} (h : Counted al m k fs) (e : (al.getD k default).fr = (al.getD k default).to) : Counted al m (k + 1) fs :=
 ⟨h.1, h.2.1, fun v h0 h1 => by rw [h.2.2 v h0 h1]; simp only [Xs, Vs, if_pos e, Nat.add_zero]⟩
theorem Counted.put {al : List Arc} {m k : Nat} {fs : List Int} (h : Counted al m k fs) (he : Jb m al) (hk : k < al.length) (hne : (al.getD k default).fr ≠ (al.getD k default).to) :
    Counted al m (k + 1) ((fs.set ((al.getD k default).fr + 1).toNat (fs.getD ((al.getD k default).fr + 1).toNat 0 + 1)).set ((al.getD k default).to + 1).toNat
      ((fs.set ((al.getD k default).fr + 1).toNat (fs.getD ((al.getD k default).fr + 1).toNat 0 + 1)).getD ((al.getD k default).to + 1).toNat 0 + 1)) := by
  have e0 := he k hk false
  have e1 := he k hk true
  simp only [Ys, Bool.false_eq_true, if_false, if_true] at e0 e1
  obtain ⟨hl, hz, hv⟩ := h
  refine ⟨by simpa using hl, ?_, ?_⟩
  · rw [Ug (by omega), Ug (by omega)]; exact hz
  · intro v h0 h1
    have hvv := hv v h0 h1
    rw [Ug (i := ((al.getD k default).fr + 1).toNat) (j := ((al.getD k default).to + 1).toNat) (by omega), Ut (by omega) (by omega) (by omega)]
    simp only [Xs, Vs, if_neg hne]
    by_cases a1 : v = (al.getD k default).fr
    · rw [if_pos (by omega), if_pos (by omega), ← a1, hvv]; omega
    · rw [if_neg (by omega)]
      by_cases a2 : v = (al.getD k default).to
      · rw [if_pos (by omega), if_pos (by omega), ← a2, hvv]; omega
      · rw [if_neg (by omega), if_neg (by omega), hvv]; omega
theorem Summed.put {al : List Arc} {m k : Nat} {fs : List Int} (h : Summed al m k fs) (hk : k < m) {i : Nat} (hi : i = k + 1) : Summed al m (k + 1) (fs.set i (fs.getD i 0 + fs.getD k 0)) := by
 subst hi
 obtain ⟨hl, h1, h2⟩ := h
 refine ⟨by simpa using hl, fun u hu => ?_, fun u h3 h4 => ?_⟩
 ·
  by_cases e : u = k + 1
  · subst e; rw [Z0n (by omega), h1 k (Nat.le_refl _), h2 k (Nat.le_refl _) hk]; simp [Ye]; omega
  · rw [Ug (by omega)]; exact h1 u (by omega)
 · rw [Ug (by omega)]; exact h2 u (by omega) h4
def MakeAt (al : List Arc) (m k : Nat) (nx hs rs cs aa : List Int) (bs : List Bool) : Prop :=
  (nx.length = m + 1 ∧ hs.length = Ye al m ∧ rs.length = Ye al m ∧ cs.length = Ye al m ∧ aa.length = Ye al m ∧ bs.length = Ye al m) ∧
  CsrAt al hs rs cs aa bs k ∧ ∀ v : Int, 0 ≤ v → v < m → nx.getD v.toNat 0 = Ye al v.toNat + Xs al v.toNat k
theorem MakeAt.start {al : List Arc} {m : Nat} {fs : List Int} (hl : fs.length = m + 1) (hf : ∀ u, u ≤ m → fs.getD u 0 = Ye al u) :
    MakeAt al m 0 fs (List.replicate (Ye al m) 0) (List.replicate (Ye al m) 0) (List.replicate (Ye al m) 0) (List.replicate (Ye al m) 0) (List.replicate (Ye al m) false) := by
  refine ⟨⟨hl, by simp, by simp, by simp, by simp, by simp⟩, fun i hi => by omega, fun v h0 h1 => ?_⟩
  rw [hf _ (by omega)]; simp [Xs]
theorem MakeAt.skip {al : List Arc} {m k : Nat} {nx hs rs cs aa : List Int} {bs : List Bool} (h : MakeAt al m k nx hs rs cs aa bs) (e : (al.getD k default).fr = (al.getD k default).to) : MakeAt al m (k + 1) nx hs rs cs aa bs :=
 ⟨h.1, h.2.1.skip e, fun v h0 h1 => by rw [h.2.2 v h0 h1]; simp only [Xs, Vs, if_pos e, Nat.add_zero]⟩
theorem MakeAt.at {al : List Arc} {m k : Nat} {nx hs rs cs aa : List Int} {bs : List Bool} (h : MakeAt al m k nx hs rs cs aa bs) (he : Jb m al) (hk : k < al.length) (s : Bool) : nx.getD (Ys (al.getD k default) s).toNat 0 = (pos al k s : Nat) := by
 rw [h.2.2 _ (he k hk s).1 (he k hk s).2]; simp only [pos]; omega
theorem MakeAt.put {al : List Arc} {m k : Nat} {nx hs rs cs aa : List Int} {bs : List Bool} (h : MakeAt al m k nx hs rs cs aa bs) (he : Jb m al) (hk : k < al.length) (hne : (al.getD k default).fr ≠ (al.getD k default).to) :
    MakeAt al m (k + 1) ((nx.set (al.getD k default).fr.toNat ((pos al k false : Nat) + 1)).set (al.getD k default).to.toNat ((pos al k true : Nat) + 1))
      ((hs.set (pos al k false) (al.getD k default).to).set (pos al k true) (al.getD k default).fr) ((rs.set (pos al k false) (pos al k true)).set (pos al k true) (pos al k false))
      ((cs.set (pos al k false) (al.getD k default).cap).set (pos al k true) 0) ((aa.set (pos al k false) k).set (pos al k true) k) ((bs.set (pos al k false) false).set (pos al k true) true) := by
  have g0 := h.at he hk false
  have g1 := h.at he hk true
  obtain ⟨⟨l0, l1, l2, l3, l4, l5⟩, hA, hv⟩ := h
  have e0 := he k hk false
  have e1 := he k hk true
  simp only [Ys, Bool.false_eq_true, if_false, if_true] at e0 e1 g0 g1
  refine ⟨⟨by simpa using l0, by simpa using l1, by simpa using l2, by simpa using l3, by simpa using l4, by simpa using l5⟩, hA.put he hk hne l1 l2 l3 l4 l5, fun v h0 h1 => ?_⟩
  have hvv := hv v h0 h1
  rw [Ut (by omega) (by omega) (by omega)]
  simp only [Xs, Vs, if_neg hne]
  by_cases a1 : v = (al.getD k default).fr
  · rw [if_pos (by omega), if_pos (by omega), ← g0, ← a1, hvv]; omega
  · rw [if_neg (by omega)]
    by_cases a2 : v = (al.getD k default).to
    · rw [if_pos (by omega), if_pos (by omega), ← g1, ← a2, hvv]; omega
    · rw [if_neg (by omega), if_neg (by omega), hvv]; omega
theorem MakeAt.done {al : List Arc} {m : Nat} {fs nx hs rs cs aa : List Int} {bs : List Bool} (h : MakeAt al m al.length nx hs rs cs aa bs) (hl : fs.length = m + 1) (hf : ∀ u, u ≤ m → fs.getD u 0 = Ye al u) : CsrOK al m fs hs rs cs aa bs :=
 ⟨hl, h.1.2.1, h.1.2.2.1, h.1.2.2.2.1, h.1.2.2.2.2.1, h.1.2.2.2.2.2, hf, h.2.1⟩
end Go.Acq
namespace Go.Acq
open Go
theorem next_ne {S m : Int} (h0 : 0 ≤ S) (h1 : S < m) (h2 : 2 ≤ m) : 0 ≤ (S + 1).tmod m ∧ (S + 1).tmod m < m ∧ (S + 1).tmod m ≠ S := by
 rw [Int.tmod_eq_emod_of_nonneg (by omega)]
 refine ⟨Int.emod_nonneg _ (by omega), Int.emod_lt_of_pos _ (by omega), ?_⟩
 by_cases h : S + 1 < m
 · rw [Int.emod_eq_of_lt (by omega) h]; omega
 · rw [show S + 1 = m by omega, Int.emod_self]; omega
theorem Z4x {x n : Int} (h : 0 ≤ x) (hn : 0 < n) : 0 ≤ x.tmod n ∧ x.tmod n < n := by
 rw [Int.tmod_eq_emod_of_nonneg h]
 exact ⟨Int.emod_nonneg _ (by omega), Int.emod_lt_of_pos _ hn⟩
def SomeAt (m : Nat) (ol : List Arc) : Prop := ∀ a, a ∈ ol → Ua m a = true ∧ 0 ≤ a.cap ∧ a.cap < 1125899906842624
theorem SomeAt.put {m : Nat} {ol : List Arc} {a : Arc} (h : SomeAt m ol) (h1 : 0 ≤ a.fr ∧ a.fr < m) (h2 : 0 ≤ a.to ∧ a.to < m) (h3 : 0 ≤ a.cap ∧ a.cap < 1125899906842624) : SomeAt m (ol ++ [a]) := by
 intro b hb
 rcases List.mem_append.1 hb with hb | hb
 · exact h b hb
 ·
  simp only [List.mem_singleton] at hb
  subst hb
  exact ⟨by simp [Ua, Va, h1, h2], h3⟩
theorem Z5p {m : Nat} {ol : List Arc} {left : Int} (h : SomeAt m ol) (hl : (ol.length : Int) * 1125899906842624 ≤ left) : (Wt left ol).isSome = true := by
 induction ol generalizing left with
 | nil => simp [Wt]
 | cons a ol ih =>
  have ha := (h a (.head _)).2
  simp only [List.length_cons] at hl
  have h2 : (0 : Int) ≤ (ol.length : Int) * 1125899906842624 := by omega
  simp only [Wt]
  rw [if_neg (by omega)]
  exact ih (fun b hb => h b (.tail _ hb)) (by omega)
theorem Z5i {m : Nat} {S T : Int} {ol : List Arc} (hm : 2 ≤ m) (hm2 : m ≤ 4096) (hS : 0 ≤ S ∧ S < m) (hT : 0 ≤ T ∧ T < m) (hST : T ≠ S) (h : SomeAt m ol) (hl : ol.length ≤ 4096) : Vj m S T ol = 0 := by
 have h1 : ol.all (Ua m) = true := List.all_eq_true.2 fun a ha => (h a ha).1
 have h2 : ol.all Uo = true := List.all_eq_true.2 fun a ha => by simp [Uo, (h a ha).2.1]
 have h3 : (Wt 4611686018427387904 ol).isSome = true := Z5p h (by omega)
 unfold Vj
 rw [if_neg (by omega), if_neg (by omega), if_neg (by simp [Va, hS, hT, Ne.symm hST]), if_neg (by simp [h1]), if_neg (by simp [h2]), if_neg (by
  cases e : Wt 4611686018427387904 ol with
  | none => rw [e] at h3; cases h3
  | some x => simp)]
def WithinAt (al : List Arc) (n k : Nat) (fl : List Int) : Prop := fl.length = n ∧
  (∀ i, i < k → 0 ≤ fl.getD i 0 ∧ fl.getD i 0 ≤ (al.getD i default).cap ∧ ((al.getD i default).fr = (al.getD i default).to → fl.getD i 0 = 0)) ∧ ∀ i, k ≤ i → fl.getD i 0 = 0
theorem WithinAt.start (al : List Arc) (n : Nat) : WithinAt al n 0 (List.replicate n 0) := ⟨by simp, fun i h => by omega, fun i _ => Rp _ _ _⟩
theorem WithinAt.skip {al : List Arc} {n k : Nat} {fl : List Int} (h : WithinAt al n k fl) (hc : 0 ≤ (al.getD k default).cap) : WithinAt al n (k + 1) fl := by
 refine ⟨h.1, fun i hi => ?_, fun i hi => h.2.2 i (by omega)⟩
 rcases Nat.lt_succ_iff_lt_or_eq.1 hi with h1 | h1
 · exact h.2.1 i h1
 · subst h1; have := h.2.2 i (Nat.le_refl _); rw [this]; exact ⟨Int.le_refl _, hc, fun _ => rfl⟩
theorem WithinAt.put {al : List Arc} {n k : Nat} {fl : List Int} {v : Int} (h : WithinAt al n k fl) (hk : k < n) (h0 : 0 ≤ v) (h1 : v ≤ (al.getD k default).cap) (hne : (al.getD k default).fr ≠ (al.getD k default).to) : WithinAt al n (k + 1) (fl.set k v) := by
 refine ⟨by simpa using h.1, fun i hi => ?_, fun i hi => by rw [Ug (by omega)]; exact h.2.2 i (by omega)⟩
 by_cases e : i = k
 · subst e; rw [Z0n (by rw [h.1]; exact hk)]; exact ⟨h0, h1, fun e => absurd e hne⟩
 · rw [Ug (by omega)]; exact h.2.1 i (by omega)
def resOK (aa cs : List Int) (bs : List Bool) (fl : List Int) (j : Nat) : Prop := aa.getD j 0 < fl.length ∧ (bs.getD j false = true ∨ (0 ≤ fl.getD (aa.getD j 0).toNat 0 ∧ fl.getD (aa.getD j 0).toNat 0 ≤ cs.getD j 0))
def resV (aa cs : List Int) (bs : List Bool) (fl : List Int) (j : Nat) : Int := if bs.getD j false = true then fl.getD (aa.getD j 0).toNat 0 else cs.getD j 0 - fl.getD (aa.getD j 0).toNat 0
def ResAt (aa cs : List Int) (bs : List Bool) (fl : List Int) (L k : Nat) (rl : List Int) : Prop := rl.length = L ∧ ∀ j, j < k → resOK aa cs bs fl j ∧ rl.getD j 0 = resV aa cs bs fl j
theorem ResAt.put {aa cs : List Int} {bs : List Bool} {fl : List Int} {L k : Nat} {rl : List Int} {v : Int} (h : ResAt aa cs bs fl L k rl) (hk : k < L) (h1 : resOK aa cs bs fl k) (h2 : v = resV aa cs bs fl k) : ResAt aa cs bs fl L (k + 1) (rl.set k v) := by
 refine ⟨by simpa using h.1, fun j hj => ?_⟩
 by_cases e : j = k
 · subst e; rw [Z0n (by rw [h.1]; exact hk)]; exact ⟨h1, h2⟩
 · rw [Ug (by omega)]; exact h.2 j (by omega)
end Go.Acq
namespace Go.Acq
open Go
theorem CsrOK.place {al : List Arc} {m : Nat} {fs hs rs cs aa : List Int} {bs : List Bool} (h : CsrOK al m fs hs rs cs aa bs) {j : Nat} (hj : j < Ye al m) :
    ∃ i s, i < al.length ∧ (al.getD i default).fr ≠ (al.getD i default).to ∧ pos al i s = j ∧ hs.getD j 0 = Ys (al.getD i default) (!s) ∧ rs.getD j 0 = pos al i (!s) ∧ cs.getD j 0 = (if s then 0 else (al.getD i default).cap) ∧ aa.getD j 0 = i ∧ bs.getD j false = s := by
  obtain ⟨i, s, hi, hne, hp, _⟩ := pos_surj hj
  have := h.hat i hi hne s
  rw [hp] at this
  exact ⟨i, s, hi, hne, hp, this⟩
end Go.Acq
namespace Go.Acq
open Go
theorem Nn {α : Type} {m : Option α} {v : α} (h : Ok m (fun a => a = v)) : m = some v := by obtain ⟨a, h1, h2⟩ := h; rw [h1, h2]
theorem Vr {α : Type} {m : Option α} {v : α} {Q : α → Prop} (h : m = some v) (q : Q v) : Ok m Q := ⟨v, h, q⟩
abbrev lenok (n : Nat) : Prop := n ≤ 9223372036854775807
theorem Jx {x n : Int} (h1 : n ≤ 4611686018427387904) : Ud x n = some (Vo x n) := by
 unfold Ud Vo
 by_cases h : n < 1
 · rw [if_pos h, if_pos h]
 ·
  have a1 := Int.tmod_lt_of_pos x (show 0 < n by omega)
  have a2 := Z1i x (show 0 < n by omega)
  rw [if_neg h, if_neg h, Lw (by omega), Lw (by constructor <;> omega), Lw (by omega)]
theorem Nq (n : Net) (v : Int) : Uq n v = some (Va n.N v) := by
 unfold Uq Va
 by_cases h : 0 ≤ v <;> simp [h]
theorem s_rules4 (n : Net) (a : Arc) : Gd n a = some (Ua n.N a) := by
 unfold Gd Ua
 rw [Nq, Nq]
 simp only [Option.bind_some]
 cases Va n.N a.fr <;> simp
theorem s_of4 (n : Net) (h : lenok n.Arcs.length) : Gj n = some (n.Arcs.all (Ua n.N)) := by
 refine Nn ?_
 unfold Gj Ly Gz
 refine Ok.bind.2 (Ok.bind.2 (Ok.bind.2 (Ok.loop (fun x => 0 ≤ x ∧ x ≤ n.Arcs.length ∧ ∀ i, i < x.toNat → Ua n.N (n.Arcs.getD i default) = true) (fun x => (n.Arcs.length - x).toNat) ⟨by omega, by omega, fun i hi => by omega⟩ (by unfold Xc; omega) ?_)))
 rintro x ⟨h0, h1, h2⟩
 unfold Gp Lk
 refine Ok.ite.2 ⟨fun hx => ?_, fun hx => ?_⟩
 ·
  refine Ok.gd.2 ⟨(by omega), Ok.bind.2 (Ok.bind.2 (Vr (s_rules4 _ _) (Ok.some.2 (Ok.ite.2 ⟨fun hb => ?_, fun hb => ?_⟩))))⟩
  ·
   refine Ok.some.2 (Ok.some.2 (Ok.some.2 (Ok.some.2 ?_)))
   simp only [h0, decide_true, Bool.not_true]
   refine Eq.symm (Bool.eq_false_iff.2 fun hall => ?_)
   have := List.all_eq_true.1 hall _ (Z02 (show x.toNat < n.Arcs.length by omega) default)
   rw [this] at hb; cases hb
  ·
   refine Ok.gd.2 ⟨(by omega), Ok.some.2 ⟨⟨by omega, by omega, fun i hi => ?_⟩, by omega⟩⟩
   rcases Nat.lt_or_ge i x.toNat with h3 | h3
   · exact h2 i h3
   · rw [show i = x.toNat by omega]; simpa using hb
 ·
  refine Ok.some.2 (Ok.some.2 (Ok.some.2 (Ok.some.2 ?_)))
  refine Eq.symm (List.all_eq_true.2 fun a ha => ?_)
  obtain ⟨i, hi, rfl⟩ := List.getElem_of_mem ha
  have := h2 i (by omega)
  rwa [List.getD_eq_getElem?_getD, List.getElem?_eq_getElem hi] at this
theorem s_of5 (n : Net) (h : lenok n.Arcs.length) : Gb n = some (n.Arcs.all Uo) := by
 refine Nn ?_
 unfold Gb Nz Ln
 refine Ok.bind.2 (Ok.bind.2 (Ok.bind.2 (Ok.loop (fun x => 0 ≤ x ∧ x ≤ n.Arcs.length ∧ ∀ i, i < x.toNat → Uo (n.Arcs.getD i default) = true) (fun x => (n.Arcs.length - x).toNat) ⟨by omega, by omega, fun i hi => by omega⟩ (by unfold Xc; omega) ?_)))
 rintro x ⟨h0, h1, h2⟩
 unfold Ge Lh Lb
 refine Ok.ite.2 ⟨fun hx => ?_, fun hx => ?_⟩
 ·
  refine Ok.gd.2 ⟨(by omega), Ok.bind.2 (Ok.bind.2 (Ok.some.2 (Ok.some.2 (Ok.ite.2 ⟨fun hb => ?_, fun hb => ?_⟩))))⟩
  ·
   refine Ok.some.2 (Ok.some.2 (Ok.some.2 (Ok.some.2 ?_)))
   simp only [h0, decide_true, Bool.not_true]
   refine Eq.symm (Bool.eq_false_iff.2 fun hall => ?_)
   have := List.all_eq_true.1 hall _ (Z02 (show x.toNat < n.Arcs.length by omega) default)
   simp only [Uo] at this
   rw [this] at hb; cases hb
  ·
   refine Ok.gd.2 ⟨(by omega), Ok.some.2 ⟨⟨by omega, by omega, fun i hi => ?_⟩, by omega⟩⟩
   rcases Nat.lt_or_ge i x.toNat with h3 | h3
   · exact h2 i h3
   · rw [show i = x.toNat by omega]; simpa [Uo] using hb
 ·
  refine Ok.some.2 (Ok.some.2 (Ok.some.2 (Ok.some.2 ?_)))
  refine Eq.symm (List.all_eq_true.2 fun a ha => ?_)
  obtain ⟨i, hi, rfl⟩ := List.getElem_of_mem ha
  have := h2 i (by omega)
  rwa [List.getD_eq_getElem?_getD, List.getElem?_eq_getElem hi] at this
theorem s_Sum (n : Net) (h : lenok n.Arcs.length) : Gr n = some (match Wt 4611686018427387904 n.Arcs with | some l => (4611686018427387904 - l, true) | none => (0, false)) := by
 refine Nn ?_
 unfold Gr
 refine Ok.bind.2 (Ok.loop (fun s => 0 ≤ s.2 ∧ s.2 ≤ n.Arcs.length ∧ 0 ≤ s.1 ∧ s.1 ≤ 4611686018427387904 ∧ Wt 4611686018427387904 n.Arcs = Wt s.1 (n.Arcs.drop s.2.toNat)) (fun s => (n.Arcs.length - s.2).toNat) ⟨by simp, by simp, by simp, by simp, by simp⟩ (by unfold Xc; simp; omega) ?_)
 rintro ⟨left, x⟩ ⟨h0, h1, h2, h3, h4⟩
 simp only at h0 h1 h2 h3 h4 ⊢
 unfold Gk Ju
 refine Ok.ite.2 ⟨fun hx => ?_, fun hx => ?_⟩
 ·
  rw [Z4g (by omega)] at h4
  refine Ok.gd.2 ⟨(by omega), Ok.ite.2 ⟨fun hb => ?_, fun hb => ?_⟩⟩
  ·
   rw [if_pos rfl]
   refine Ok.some.2 (Ok.some.2 ?_)
   rw [h4, if_pos (.inl hb)]
  ·
   by_cases hc : left < (n.Arcs.getD x.toNat default).cap
   ·
    rw [if_pos (decide_eq_true hc)]
    refine Ok.some.2 (Ok.some.2 ?_)
    rw [h4, if_pos (.inr hc)]
   ·
    rw [if_neg (by simpa using hc)]
    refine Ok.gd.2 ⟨(by omega), Ok.gd.2 ⟨(by omega), Ok.some.2 ⟨⟨by simp only; omega, by simp only; omega, by simp only; omega, by simp only; omega, ?_⟩, by simp only; omega⟩⟩⟩
    rw [h4, if_neg (by omega)]
    simp only
    rw [show (x + 1).toNat = x.toNat + 1 by omega]
 ·
  unfold Np
  refine Ok.some.2 (Ok.gd.2 ⟨(by omega), Ok.some.2 ?_⟩)
  rw [h4, List.drop_eq_nil_of_le (by omega)]
  rfl
theorem s_Check (n : Net) (h : lenok n.Arcs.length) : Ja n = some (Vj n.N n.S n.T n.Arcs) := by
 unfold Ja La Lu Lv Lj Le Lm Gv Nw
 rw [Nq, Nq, s_of4 n h, s_of5 n h, s_Sum n h]
 unfold Vj
 simp only [Option.bind_some]
 by_cases h1 : 2 ≤ n.N ∧ n.N ≤ 4096
 ·
  rw [if_pos h1.1, if_neg (not_not_intro h1)]
  simp only [Option.bind_some, decide_eq_true h1.2, Bool.not_true, Bool.false_eq_true, if_false]
  by_cases h2 : (n.Arcs.length : Int) ≤ 16384
  ·
   rw [if_neg (by simp [h2]), if_neg (not_not_intro h2)]
   by_cases h3 : Va n.N n.S = true ∧ Va n.N n.T = true ∧ n.S ≠ n.T
   ·
    rw [if_pos h3.1, if_pos h3.2.1, if_neg (not_not_intro h3)]
    simp only [Option.bind_some, decide_eq_true h3.2.2, Bool.not_true, Bool.false_eq_true, if_false]
    cases h4 : n.Arcs.all (Ua n.N)
    · simp
    ·
     cases h5 : n.Arcs.all Uo
     · simp
     · cases h6 : Wt 4611686018427387904 n.Arcs <;> simp
   ·
    rw [if_pos h3]
    by_cases a1 : Va n.N n.S = true
    ·
     by_cases a2 : Va n.N n.T = true
     ·
      have a3 : ¬ n.S ≠ n.T := fun e => h3 ⟨a1, a2, e⟩
      simp [a1, a2, a3]
     · simp [a1, a2]
    · simp [a1]
  · rw [if_pos (by simp [h2]), if_pos h2]
 ·
  rw [if_pos h1]
  by_cases a1 : 2 ≤ n.N
  ·
   have a2 : ¬ n.N ≤ 4096 := fun e => h1 ⟨a1, e⟩
   simp [a1, a2]
  · simp [a1]
end Go.Acq
namespace Go.Acq
open Go
structure NetIn (n : Net) : Prop where
  nN : i64ok n.N
  nS : i64ok n.S
  nT : i64ok n.T
  arcs : ∀ a, a ∈ n.Arcs → i64ok a.fr ∧ i64ok a.to ∧ i64ok a.cap
  len : n.Arcs.length ≤ 9223372036854775807
structure Made (n : Net) (v a : Int) : Prop where
  check : Vj n.N n.S n.T n.Arcs = 0
  rows : SomeAt n.N.toNat n.Arcs
  verts : n.N ≤ v
  arcs : (n.Arcs.length : Int) ≤ a
  ends : 2 ≤ n.N ∧ 0 ≤ n.S ∧ n.S < n.N ∧ 0 ≤ n.T ∧ n.T < n.N ∧ n.S ≠ n.T
theorem s_Some {n : Net} {v a : Int} (h : NetIn n) (hv0 : 2 ≤ v) (hv1 : v ≤ 4096) (ha0 : 0 ≤ a) (ha1 : a ≤ 4096) : Ok (Jv n v a) (fun r => Made r v a) := by
 have hN := Gf (x := n.N) (n := v - 1) (by omega)
 unfold Jv
 refine Ok.gd.2 ⟨(by omega), Ok.bind.2 (Vr (Jx (by omega)) (Ok.gd.2 ⟨(by omega), ?_⟩))⟩
 obtain ⟨m, hm⟩ : ∃ m : Nat, 2 + Vo n.N (v - 1) = m := ⟨(2 + Vo n.N (v - 1)).toNat, by omega⟩
 rw [hm]
 have hS := Gf (x := n.S) (n := (m : Int)) (by omega)
 have hT := Gf (x := n.T) (n := (m : Int)) (by omega)
 refine Ok.bind.2 (Vr (Jx (by omega)) (Ok.bind.2 (Vr (Jx (by omega)) ?_)))
 have key : ∀ t : Int, 0 ≤ t → t < m → t ≠ Vo n.S m → Ok (Jo n a (Vo n.N (v - 1)) (Vo n.S m) t) (fun r => Made r v a) := by
  intro t t0 t1 t2
  unfold Jo
  refine Ok.gd.2 ⟨(by omega), Ok.bind.2 ?_⟩
  obtain ⟨q, hq⟩ : ∃ q : Nat, min (n.Arcs.length : Int) a = q := ⟨(min (n.Arcs.length : Int) a).toNat, by omega⟩
  obtain ⟨al, hal⟩ : ∃ l, l = n.Arcs.take (q : Int).toNat := ⟨_, rfl⟩
  have hlen : al.length = q := by rw [hal, List.length_take]; omega
  have hcap : ∀ b, b ∈ al → i64ok b.cap := fun b hb => (h.arcs b (List.mem_of_mem_take (by rw [← hal]; exact hb))).2.2
  refine Ok.lp (fun s => ∃ k : Nat, s.2 = k ∧ k ≤ q ∧ s.1.length = k ∧ SomeAt m s.1) (fun s => (q - s.2).toNat) ⟨0, rfl, by omega, rfl, fun b hb => by cases hb⟩ (by unfold Xc; simp only; omega) ?_
  rintro ⟨ol, x⟩ ⟨k, h1, h2, h3, h4⟩ P next exit
  simp only at h1 h2 h3 h4 next ⊢
  subst h1
  unfold Jy
  rw [hq, ← hal]
  simp only [Int.toNat_natCast]
  refine Ok.ite.2 ⟨fun hx => ?_, fun hx => ?_⟩
  ·
   have hkl : k < al.length := by omega
   have hc := hcap _ (Z02 hkl default)
   have hj : ∀ c : Int, 0 ≤ c → Ok (Kz n a (Vo n.N (v - 1)) ol k c) P := by
    intro c hc0
    unfold Kz
    rw [hq, ← hal, hm]
    refine Ok.bind.2 (Vr (Jx (by omega)) (Ok.bind.2 (Vr (Jx (by omega)) (Ok.gd.2 ⟨?_, Ok.gd.2 ⟨(by omega), Ok.some.2 (next _ ⟨k + 1, by simp, by omega, by simp [h3], ?_⟩ (by simp only; omega))⟩⟩))))
    · rw [List.length_append, h3]; simp only [List.length_cons, List.length_nil]; constructor <;> omega
    · exact h4.put (Gf (by omega)) (Gf (by omega)) (Z4x hc0 (by omega))
   refine Ok.gd.2 ⟨(by omega), Ok.ite.2 ⟨fun hn => ?_, fun hn => ?_⟩⟩
   · exact Ok.gd.2 ⟨by constructor <;> omega, Ok.gd.2 ⟨by constructor <;> omega, hj (-((al.getD k default).cap + 1)) (by omega)⟩⟩
   · exact hj (al.getD k default).cap (by omega)
  ·
   refine Ok.some.2 (exit _ ?_)
   unfold Ld
   refine Ok.some.2 ?_
   rw [hm]
   exact ⟨Z5i (by omega) (by omega) hS ⟨t0, t1⟩ t2 h4 (show ol.length ≤ 4096 by omega), by simpa using h4, by simp only; omega, by show (ol.length : Int) ≤ a; omega, ⟨by simp only; omega, hS.1, hS.2, t0, t1, fun e => t2 e.symm⟩⟩
 refine Ok.ite.2 ⟨fun he => ?_, fun he => ?_⟩
 ·
  refine Ok.gd.2 ⟨(by omega), Ok.gd.2 ⟨by omega, ?_⟩⟩
  obtain ⟨n1, n2, n3⟩ := next_ne hS.1 hS.2 (by omega)
  exact key _ n1 n2 n3
 · exact key _ hT.1 hT.2 (fun e => he e.symm)
end Go.Acq
namespace Go.Acq
open Go
theorem s_SChk (n : Net) (w l : Int) (q : List Int) (h : lenok n.Arcs.length) : Uw n ⟨w, l, q⟩ = some (if w < 1 ∨ 64 < w then 40 else if l < 1 then 2 else Vj n.N n.S n.T n.Arcs) := by
 unfold Uw Gs
 rw [s_Check n h]
 by_cases h1 : w < 1
 · simp [h1]
 ·
  by_cases h2 : 64 < w
  · simp [h1, h2]
  ·
   by_cases h3 : l < 1
   · simp [h1, h2, h3]
   · simp [h1, h2, h3]
theorem Lp {n : Net} {p : Plan} {e : Int} (h : Uw n p = some e) (he : e ≠ 0) : Jz n p = some (⟨[], [], 0⟩, ⟨0, 0, 0, 0, 0, 0⟩, e) := by
 unfold Jz
 rw [h, Option.bind_some, if_pos he]
theorem Nt (e : Int) : Ke ⟨[], [], 0⟩ ⟨0, 0, 0, 0, 0, 0⟩ e e = some true := by
 unfold Ke
 rw [if_pos rfl, if_pos rfl]
 rfl
theorem Nk {w l : Int} {r : Net} {T : Int} (hl : lenok r.Arcs.length) (hN : 2 ≤ r.N ∧ r.N ≤ 4096) (h : (w < 1 ∨ 64 < w) ∨ l < 1 ∨ Vj r.N r.S T r.Arcs = 12) : Uc w l r T false = some true := by
 unfold Uc Gl
 rw [if_neg (by simp)]
 have hc := s_SChk ⟨r.N, r.S, T, r.Arcs⟩ w l [] hl
 simp only at hc
 by_cases h1 : w < 1
 ·
  rw [if_pos (.inl h1)] at hc
  rw [Lp hc (by omega), Option.bind_some]
  simp [h1, Nt]
 ·
  by_cases h2 : 64 < w
  ·
   rw [if_pos (.inr h2)] at hc
   rw [Lp hc (by omega), Option.bind_some]
   simp [h1, h2, Nt]
  ·
   rw [if_neg (by omega)] at hc
   by_cases h3 : l < 1
   ·
    rw [if_pos h3] at hc
    rw [Lp hc (by omega), Option.bind_some]
    simp [h1, h2, h3, Nt]
   ·
    rw [if_neg h3] at hc
    have h4 : Vj r.N r.S T r.Arcs = 12 := by rcases h with h | h | h <;> omega
    rw [h4] at hc
    rw [Lp hc (by omega), Option.bind_some]
    simp [h1, h2, h3, Nt]
theorem p_SolverNone {n : Net} {workers limit : Int} {ends : Bool} (hn : NetIn n) (hw : i64ok workers) (hl : i64ok limit) : Nu n workers limit ends = some true := by
 refine Nn ?_
 unfold Nu
 refine Ok.bind.2 (Ok.mono (s_Some hn (by omega) (by omega) (by omega) (by omega)) fun r hr => ?_)
 have ha := hr.arcs
 have hlen : lenok r.Arcs.length := by unfold lenok; omega
 have hv := hr.verts
 have he := hr.ends
 have hc := hr.check
 have hS : Vj r.N r.S r.S r.Arcs = 12 := by
  unfold Vj at hc ⊢
  by_cases a1 : ¬(2 ≤ r.N ∧ r.N ≤ 4096)
  · rw [if_pos a1] at hc; omega
  ·
   rw [if_neg a1] at hc ⊢
   by_cases a2 : ¬((r.Arcs.length : Int) ≤ 16384)
   · rw [if_pos a2] at hc; omega
   ·
    rw [if_neg a2] at hc ⊢
    rw [if_pos (by simp)]
 have key : ∀ T : Int, Vj r.N r.S T r.Arcs = (if ends = true then 12 else 0) → Ok (Ku workers limit ends r T) (fun b => b = true) := by
  intro T hT
  unfold Ku
  refine Ok.ite.2 ⟨fun a1 => Ok.ite.2 ⟨fun a2 => Ok.ite.2 ⟨fun a3 => ?_, fun a3 => ?_⟩, fun a2 => ?_⟩, fun a1 => ?_⟩
  ·
   cases ends with
   | true => exact Vr (Nk hlen (by omega) (.inr (.inr (by simpa using hT)))) rfl
   | false =>
    refine Vr (v := true) ?_ rfl
    unfold Uc
    have e := s_SChk ⟨r.N, r.S, T, r.Arcs⟩ workers limit [] hlen
    simp only at e
    rw [if_neg (by omega), if_neg (by omega), show Vj r.N r.S T r.Arcs = 0 by simpa using hT] at e
    rw [if_pos (by rfl), e, Option.bind_some, if_pos rfl]
    rfl
  · exact Vr (Nk hlen (by omega) (.inr (.inl (by omega)))) rfl
  · exact Vr (Nk hlen (by omega) (.inl (.inr (by omega)))) rfl
  · exact Vr (Nk hlen (by omega) (.inl (.inl (by omega)))) rfl
 refine Ok.ite.2 ⟨fun h => key _ (by rw [if_pos h]; exact hS), fun h => key _ (by rw [if_neg h]; exact hc)⟩
end Go.Acq
