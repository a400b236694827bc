/- Texts of this claim, one behind the other. -/
import Derived.Test.YtfdhelnfgfaeaaaA1
import Derived.Laws.Bits64b
import Derived.Deep.Slices
import Derived.Deep.Fields
import Derived.ChangeSame
import Derived.Lib.SmallJoins
import Derived.ProofKit
import Derived.ChangeArms
import Derived.RangeFuncSeq
import Derived.Conc.LoneCalls
import Derived.Conc.LoneSelectN
import Derived.Conc.SmallLaws
import Derived.Laws.StructEq
import Derived.Scope
import Derived.ChangeKeysEq
import Derived.Shelf.Spec.SlicesInsertGrow
set_option linter.unusedVariables false
set_option linter.unusedSimpArgs false
namespace Go.Acq
open Go
structure Net where
  N : Int
  S : Int
  T : Int
  Arcs : List Arc
  deriving DecidableEq
instance : Inhabited Net := ⟨⟨default, default, default, default⟩⟩
structure Csr where
  N : Int
  S : Int
  T : Int
  First : List Int
  Head : List Int
  Rev : List Int
  Cap : List Int
  Arc : List Int
  Back : List Bool
  deriving DecidableEq
instance : Inhabited Csr := ⟨⟨default, default, default, default, default, default, default, default, default⟩⟩
def Ro (x0 n1 : Int) : Option (Int) :=
  if n1 < 1 then
  (some 0)
  else
  gd (n1 ≠ 0) <|
  gd (i64ok ((x0.tmod n1) + n1)) <|
  gd (n1 ≠ 0) <|
  some (((x0.tmod n1) + n1).tmod n1)
def Z2h (n0 : Net) (a1 r6 : Int) (a0 : List Arc) (a2 c38 : Int) : Option ((List Arc × Int) ⊕ (List Arc)) :=
  Option.bind (Ro (((n0.Arcs.take (min (n0.Arcs.length : Int) a1).toNat).getD a2.toNat default).fr) (2 + r6)) fun a3 =>
  Option.bind (Ro (((n0.Arcs.take (min (n0.Arcs.length : Int) a1).toNat).getD a2.toNat default).to) (2 + r6)) fun a4 =>
  gd (apok (a0 ++ ([(Arc.mk a3 a4 (c38.tmod 1125899906842624))])).length 24) <|
  gd (i64ok (a2 + 1)) <|
  some (.inl ((a0 ++ ([(Arc.mk a3 a4 (c38.tmod 1125899906842624))])), (a2 + 1)))
def Z5p (n0 : Net) (a0 r6 : Int) (a1 : List Arc) (a2 : Int) : Option ((List Arc × Int) ⊕ (List Arc)) :=
  if a2 < ((n0.Arcs.take (min (n0.Arcs.length : Int) a0).toNat).length : Int) then
  (gd (inb a2 (n0.Arcs.take (min (n0.Arcs.length : Int) a0).toNat).length) <|
  if (((n0.Arcs.take (min (n0.Arcs.length : Int) a0).toNat).getD a2.toNat default).cap) < 0 then
  (gd (i64ok ((((n0.Arcs.take (min (n0.Arcs.length : Int) a0).toNat).getD a2.toNat default).cap) + 1)) <|
  gd (i64ok (-((((n0.Arcs.take (min (n0.Arcs.length : Int) a0).toNat).getD a2.toNat default).cap) + 1))) <|
  Z2h n0 a0 r6 a1 a2 (-((((n0.Arcs.take (min (n0.Arcs.length : Int) a0).toNat).getD a2.toNat default).cap) + 1)))
  else
  Z2h n0 a0 r6 a1 a2 (((n0.Arcs.take (min (n0.Arcs.length : Int) a0).toNat).getD a2.toNat default).cap))
  else
  some (.inr a1)
def Z8a (r6 a1 a2 : Int) (a0 : List Arc) : Option (Net) :=
  some (Net.mk (2 + r6) a1 a2 a0)
def Z34 (n0 : Net) (a0 r6 a1 a2 : Int) : Option (Net) :=
  gd (0 ≤ (min (n0.Arcs.length : Int) a0) ∧ (min (n0.Arcs.length : Int) a0) ≤ (n0.Arcs.length : Int)) <|
  Option.bind (Ym (fun s => Z5p n0 a0 r6 s.1 s.2) Yc ([], 0)) fun p2_0_0 => Z8a r6 a1 a2 p2_0_0
def Z40 (n0 : Net) (a0 a1 : Int) : Option (Net) :=
  gd (i64ok (a0 - 1)) <|
  Option.bind (Ro n0.N (a0 - 1)) fun r6 =>
  gd (i64ok (2 + r6)) <|
  Option.bind (Ro n0.S (2 + r6)) fun a2 =>
  Option.bind (Ro n0.T (2 + r6)) fun a3 =>
  if a2 = a3 then
  (gd (i64ok (a2 + 1)) <|
  gd ((2 + r6) ≠ 0) <|
  Z34 n0 a1 r6 a2 ((a2 + 1).tmod (2 + r6)))
  else
  Z34 n0 a1 r6 a2 a3
def Z7x  : Option (Unit) :=
  some ()
def Z9e  : Option (Unit) :=
  some ()
def Z8u  : Option (Unit) :=
  Option.bind Z7x fun _ =>
  Option.bind Z9e fun _ =>
  some ()
def Z7d (n0 : Net) : Option (Bool) :=
  if 2 ≤ n0.N then
  (some (decide (n0.N ≤ 4096)))
  else
  some false
def Z8c (n0 : Net) : Option (Bool) :=
  some (decide ((n0.Arcs.length : Int) ≤ 16384))
def Ry (n0 : Net) (v1 : Int) : Option (Bool) :=
  if 0 ≤ v1 then
  (some (decide (v1 < n0.N)))
  else
  some false
def Z74 (n0 : Net) : Option (Bool) :=
  Option.bind (Ry n0 n0.S) fun r3 =>
  if r3 = true then
  (Option.bind (Ry n0 n0.T) fun r6 =>
  if r6 = true then
  (some (decide (n0.S ≠ n0.T)))
  else
  some false)
  else
  some false
def Z3l (n0 : Net) (a1 : Arc) : Option (Bool) :=
  Option.bind (Ry n0 a1.fr) fun r5 =>
  if r5 = true then
  (Option.bind (Ry n0 a1.to) fun r8 =>
  some r8)
  else
  some false
def Z7m (a0 : Arc) (c2 : Net) : Option (Bool) :=
  Option.bind (Z3l c2 a0) fun r3 =>
  some (!r3)
def Z4w (s0 : List Arc) (a0 : Net) (x1 : Int) : Option ((Int) ⊕ (Int ⊕ Unit)) :=
  if x1 < (s0.length : Int) then
  (gd (inb x1 s0.length) <|
  Option.bind (Z7m (s0.getD x1.toNat default) a0) fun r4 =>
  if r4 = true then
  (some (.inr (.inl x1)))
  else
  gd (i64ok (x1 + 1)) <|
  some (.inl (x1 + 1)))
  else
  some (.inr (.inr ()))
def Zar  : Option (Int) :=
  some (-1)
def Z84 (s0 : List Arc) (a0 : Net) : Option (Int) :=
  Option.bind (Ym (fun s => Z4w s0 a0 s) Yc 0) fun o => match o with | .inl p1_0_0 => (some p1_0_0) | .inr () => Zar
def Z8m (s0 : List Arc) (a0 : Net) : Option (Bool) :=
  Option.bind (Z84 s0 a0) fun r1 =>
  some (decide (0 ≤ r1))
def Z45 (n0 : Net) : Option (Bool) :=
  Option.bind (Z8m n0.Arcs n0) fun r3 =>
  some (!r3)
def Z8d (n0 : Net) (a1 : Arc) : Option (Bool) :=
  some (decide (0 ≤ a1.cap))
def Z73 (a0 : Arc) (c2 : Net) : Option (Bool) :=
  Option.bind (Z8d c2 a0) fun r3 =>
  some (!r3)
def Z52 (s0 : List Arc) (a0 : Net) (x1 : Int) : Option ((Int) ⊕ (Int ⊕ Unit)) :=
  if x1 < (s0.length : Int) then
  (gd (inb x1 s0.length) <|
  Option.bind (Z73 (s0.getD x1.toNat default) a0) fun r4 =>
  if r4 = true then
  (some (.inr (.inl x1)))
  else
  gd (i64ok (x1 + 1)) <|
  some (.inl (x1 + 1)))
  else
  some (.inr (.inr ()))
def Za5  : Option (Int) :=
  some (-1)
def Z7g (s0 : List Arc) (a0 : Net) : Option (Int) :=
  Option.bind (Ym (fun s => Z52 s0 a0 s) Yc 0) fun o => match o with | .inl p1_0_0 => (some p1_0_0) | .inr () => Za5
def Z7l (s0 : List Arc) (a0 : Net) : Option (Bool) :=
  Option.bind (Z7g s0 a0) fun r1 =>
  some (decide (0 ≤ r1))
def Z3m (n0 : Net) : Option (Bool) :=
  Option.bind (Z7l n0.Arcs n0) fun r3 =>
  some (!r3)
def Z3a (n0 : Net) (a0 x4 : Int) (a1 : Bool) : Option ((Int × Int) ⊕ ((Int × Bool) ⊕ Int)) :=
  if a1 = true then
  (some (.inr (.inl (0, false))))
  else
  gd (i64ok (a0 - ((n0.Arcs.getD x4.toNat default).cap))) <|
  gd (i64ok (x4 + 1)) <|
  some (.inl ((a0 - ((n0.Arcs.getD x4.toNat default).cap)), (x4 + 1)))
def Z4y (n0 : Net) (a0 x4 : Int) : Option ((Int × Int) ⊕ ((Int × Bool) ⊕ Int)) :=
  if x4 < (n0.Arcs.length : Int) then
  (gd (inb x4 n0.Arcs.length) <|
  if ((n0.Arcs.getD x4.toNat default).cap) < 0 then
  (Z3a n0 a0 x4 true)
  else
  Z3a n0 a0 x4 (decide (a0 < ((n0.Arcs.getD x4.toNat default).cap))))
  else
  some (.inr (.inr a0))
def Z82 (a0 : Int) : Option (Int × Bool) :=
  gd (i64ok (4611686018427387904 - a0)) <|
  some ((4611686018427387904 - a0), true)
def Z6f (n0 : Net) : Option (Int × Bool) :=
  Option.bind (Ym (fun s => Z4y n0 s.1 s.2) Yc (4611686018427387904, 0)) fun o => match o with | .inl (p1_0_0, p1_0_1) => (some (p1_0_0, p1_0_1)) | .inr p1_1_0 => (Z82 p1_1_0)
def Z6p (n0 : Net) : Option (Bool) :=
  Option.bind (Z6f n0) fun (r3, r4) =>
  some r4
def Z9g  : Option (Int) :=
  some 0
def Z0k (n0 : Net) : Option (Int) :=
  Option.bind Z8u fun _ =>
  Option.bind (Z7d n0) fun a0 =>
  if (!a0) = true then
  (some 10)
  else
  Option.bind (Z8c n0) fun a1 =>
  if (!a1) = true then
  (some 11)
  else
  Option.bind (Z74 n0) fun a2 =>
  if (!a2) = true then
  (some 12)
  else
  Option.bind (Z45 n0) fun a3 =>
  if (!a3) = true then
  (some 13)
  else
  Option.bind (Z3m n0) fun a4 =>
  if (!a4) = true then
  (some 14)
  else
  Option.bind (Z6p n0) fun a5 =>
  if (!a5) = true then
  (some 15)
  else
  Z9g
def Z3x (n0 : Net) (a0 : List Int) (x9 : Int) : Option ((List Int × Int) ⊕ (List Int)) :=
  if x9 < (n0.Arcs.length : Int) then
  (gd (inb x9 n0.Arcs.length) <|
  if ((n0.Arcs.getD x9.toNat default).fr) ≠ ((n0.Arcs.getD x9.toNat default).to) then
  (gd (i64ok (((n0.Arcs.getD x9.toNat default).fr) + 1)) <|
  gd (inb (((n0.Arcs.getD x9.toNat default).fr) + 1) a0.length) <|
  gd (i64ok ((a0.getD (((n0.Arcs.getD x9.toNat default).fr) + 1).toNat 0) + 1)) <|
  gd (inb (((n0.Arcs.getD x9.toNat default).fr) + 1) a0.length) <|
  gd (i64ok (((n0.Arcs.getD x9.toNat default).to) + 1)) <|
  gd (inb (((n0.Arcs.getD x9.toNat default).to) + 1) (a0.set (((n0.Arcs.getD x9.toNat default).fr) + 1).toNat ((a0.getD (((n0.Arcs.getD x9.toNat default).fr) + 1).toNat 0) + 1)).length) <|
  gd (i64ok (((a0.set (((n0.Arcs.getD x9.toNat default).fr) + 1).toNat ((a0.getD (((n0.Arcs.getD x9.toNat default).fr) + 1).toNat 0) + 1)).getD (((n0.Arcs.getD x9.toNat default).to) + 1).toNat 0) + 1)) <|
  gd (inb (((n0.Arcs.getD x9.toNat default).to) + 1) (a0.set (((n0.Arcs.getD x9.toNat default).fr) + 1).toNat ((a0.getD (((n0.Arcs.getD x9.toNat default).fr) + 1).toNat 0) + 1)).length) <|
  gd (i64ok (x9 + 1)) <|
  some (.inl (((a0.set (((n0.Arcs.getD x9.toNat default).fr) + 1).toNat ((a0.getD (((n0.Arcs.getD x9.toNat default).fr) + 1).toNat 0) + 1)).set (((n0.Arcs.getD x9.toNat default).to) + 1).toNat (((a0.set (((n0.Arcs.getD x9.toNat default).fr) + 1).toNat ((a0.getD (((n0.Arcs.getD x9.toNat default).fr) + 1).toNat 0) + 1)).getD (((n0.Arcs.getD x9.toNat default).to) + 1).toNat 0) + 1)), (x9 + 1))))
  else
  gd (i64ok (x9 + 1)) <|
  some (.inl (a0, (x9 + 1))))
  else
  some (.inr a0)
def Z3o (n0 : Net) (a0 : List Int) (a1 : Int) : Option ((List Int × Int) ⊕ (List Int)) :=
  if a1 < n0.N then
  (gd (i64ok (a1 + 1)) <|
  gd (inb (a1 + 1) a0.length) <|
  gd (inb a1 a0.length) <|
  gd (i64ok ((a0.getD (a1 + 1).toNat 0) + (a0.getD a1.toNat 0))) <|
  gd (inb (a1 + 1) a0.length) <|
  gd (i64ok (a1 + 1)) <|
  some (.inl ((a0.set (a1 + 1).toNat ((a0.getD (a1 + 1).toNat 0) + (a0.getD a1.toNat 0))), (a1 + 1))))
  else
  some (.inr a0)
def Z7t (a0 : List Int) : Option (List Int) :=
  some a0
def Z9k (n0 : Net) (a0 : List Int) : Option (List Int) :=
  Option.bind (Ym (fun s => Z3o n0 s.1 s.2) Yc (a0, 0)) fun p3_0_0 => Z7t p3_0_0
def Z5u (n0 : Net) : Option (List Int) :=
  gd (i64ok (n0.N + 1)) <|
  gd (mkok (n0.N + 1)) <|
  Option.bind (Ym (fun s => Z3x n0 s.1 s.2) Yc ((List.replicate ((n0.N + 1).toNat) (0 : Int)), 0)) fun p1_0_0 => Z9k n0 p1_0_0
def Ln (s0 : List Int) : Option (List Int) :=
  gd (apok s0.length 8) <|
  some s0
def Z4z (a0 a4 a1 a3 : Int) (a2 : Bool) (c5 : List Int) (c6 : Csr) : Option (Int × List Int × Csr) :=
  gd (inb a0 c5.length) <|
  gd (inb a0 c5.length) <|
  gd (i64ok ((c5.getD a0.toNat 0) + 1)) <|
  gd (inb a0 c5.length) <|
  gd (inb (c5.getD a0.toNat 0) c6.Head.length) <|
  gd (inb (c5.getD a0.toNat 0) c6.Cap.length) <|
  gd (inb (c5.getD a0.toNat 0) c6.Arc.length) <|
  gd (inb (c5.getD a0.toNat 0) c6.Back.length) <|
  some ((c5.getD a0.toNat 0), (c5.set a0.toNat ((c5.getD a0.toNat 0) + 1)), (Csr.mk c6.N c6.S c6.T c6.First (c6.Head.set (c5.getD a0.toNat 0).toNat a4) c6.Rev (c6.Cap.set (c5.getD a0.toNat 0).toNat a1) (c6.Arc.set (c5.getD a0.toNat 0).toNat a3) (c6.Back.set (c5.getD a0.toNat 0).toNat a2)))
def Z59 (n0 : Net) (r8 a2 a0 a3 a4 : List Int) (a5 : List Bool) (a6 : List Int) (a1 : Int) : Option ((List Int × List Int × List Int × List Int × List Bool × List Int × Int) ⊕ (List Int × List Int × List Int × List Int × List Bool)) :=
  if a1 < (n0.Arcs.length : Int) then
  (gd (inb a1 n0.Arcs.length) <|
  if ((n0.Arcs.getD a1.toNat default).fr) = ((n0.Arcs.getD a1.toNat default).to) then
  (gd (i64ok (a1 + 1)) <|
  some (.inl (a2, a0, a3, a4, a5, a6, (a1 + 1))))
  else
  Option.bind (Z4z ((n0.Arcs.getD a1.toNat default).fr) ((n0.Arcs.getD a1.toNat default).to) ((n0.Arcs.getD a1.toNat default).cap) a1 false a6 (Csr.mk n0.N n0.S n0.T r8 a2 a0 a3 a4 a5)) fun (a7, b1, a8) =>
  Option.bind (Z4z ((n0.Arcs.getD a1.toNat default).to) ((n0.Arcs.getD a1.toNat default).fr) 0 a1 true b1 (Csr.mk n0.N n0.S n0.T r8 a8.Head a0 a8.Cap a8.Arc a8.Back)) fun (a9, b5, b0) =>
  gd (inb a7 a0.length) <|
  gd (inb a9 (a0.set a7.toNat a9).length) <|
  gd (i64ok (a1 + 1)) <|
  some (.inl (b0.Head, ((a0.set a7.toNat a9).set a9.toNat a7), b0.Cap, b0.Arc, b0.Back, b5, (a1 + 1))))
  else
  some (.inr (a2, a0, a3, a4, a5))
def Z75 (n0 : Net) (r8 a0 a1 a2 a3 : List Int) (a4 : List Bool) : Option (Csr × Int) :=
  some ((Csr.mk n0.N n0.S n0.T r8 a0 a1 a2 a3 a4), 0)
def Rx (n0 : Net) : Option (Csr × Int) :=
  Option.bind (Z0k n0) fun r5 =>
  if r5 ≠ 0 then
  (some ((Csr.mk 0 0 0 ([]) ([]) ([]) ([]) ([]) ([])), r5))
  else
  Option.bind (Z5u n0) fun r8 =>
  gd (inb n0.N r8.length) <|
  gd (mkok (r8.getD n0.N.toNat 0)) <|
  gd (mkok (r8.getD n0.N.toNat 0)) <|
  gd (mkok (r8.getD n0.N.toNat 0)) <|
  gd (mkok (r8.getD n0.N.toNat 0)) <|
  gd (mkok (r8.getD n0.N.toNat 0)) <|
  Option.bind (Ln r8) fun a0 =>
  Option.bind (Ym (fun s => Z59 n0 r8 s.1 s.2.1 s.2.2.1 s.2.2.2.1 s.2.2.2.2.1 s.2.2.2.2.2.1 s.2.2.2.2.2.2) Yc ((List.replicate ((r8.getD n0.N.toNat 0).toNat) (0 : Int)), (List.replicate ((r8.getD n0.N.toNat 0).toNat) (0 : Int)), (List.replicate ((r8.getD n0.N.toNat 0).toNat) (0 : Int)), (List.replicate ((r8.getD n0.N.toNat 0).toNat) (0 : Int)), (List.replicate ((r8.getD n0.N.toNat 0).toNat) (false : Bool)), a0, 0)) fun (p1_0_0, p1_0_1, p1_0_2, p1_0_3, p1_0_4) => Z75 n0 r8 p1_0_0 p1_0_1 p1_0_2 p1_0_3 p1_0_4
def Z03 (c0 : Csr) : Option (Int) :=
  some (c0.Head.length : Int)
def Z1a (c0 : Csr) (f1 a1 : List Int) (a0 : Int) (a2 : Bool) : Option ((List Int × Int) ⊕ ((List Int × Int) ⊕ (List Int))) :=
  if a2 = true then
  (some (.inr (.inl ([], 20))))
  else
  gd (inb a0 c0.Cap.length) <|
  gd (inb (c0.Arc.getD a0.toNat 0) f1.length) <|
  gd (i64ok ((c0.Cap.getD a0.toNat 0) - (f1.getD (c0.Arc.getD a0.toNat 0).toNat 0))) <|
  gd (inb a0 a1.length) <|
  gd (i64ok (a0 + 1)) <|
  some (.inl ((a1.set a0.toNat ((c0.Cap.getD a0.toNat 0) - (f1.getD (c0.Arc.getD a0.toNat 0).toNat 0))), (a0 + 1)))
def Z4b (c0 : Csr) (f1 : List Int) (r3 : Int) (a1 : List Int) (a0 : Int) : Option ((List Int × Int) ⊕ ((List Int × Int) ⊕ (List Int))) :=
  if a0 < ((List.replicate r3.toNat (0 : Int)).length : Int) then
  (gd (inb a0 c0.Arc.length) <|
  if (f1.length : Int) ≤ (c0.Arc.getD a0.toNat 0) then
  (some (.inr (.inl ([], 20))))
  else
  gd (inb a0 c0.Back.length) <|
  if (c0.Back.getD a0.toNat false) = true then
  (gd (inb (c0.Arc.getD a0.toNat 0) f1.length) <|
  gd (inb a0 a1.length) <|
  gd (i64ok (a0 + 1)) <|
  some (.inl ((a1.set a0.toNat (f1.getD (c0.Arc.getD a0.toNat 0).toNat 0)), (a0 + 1))))
  else
  gd (inb (c0.Arc.getD a0.toNat 0) f1.length) <|
  if (f1.getD (c0.Arc.getD a0.toNat 0).toNat 0) < 0 then
  (Z1a c0 f1 a1 a0 true)
  else
  gd (inb (c0.Arc.getD a0.toNat 0) f1.length) <|
  gd (inb a0 c0.Cap.length) <|
  Z1a c0 f1 a1 a0 (decide ((c0.Cap.getD a0.toNat 0) < (f1.getD (c0.Arc.getD a0.toNat 0).toNat 0))))
  else
  some (.inr (.inr a1))
def Z7k (a0 : List Int) : Option (List Int × Int) :=
  some (a0, 0)
def Z3b (c0 : Csr) (f1 : List Int) : Option (List Int × Int) :=
  Option.bind (Z03 c0) fun r3 =>
  gd (mkok r3) <|
  Option.bind (Ym (fun s => Z4b c0 f1 r3 s.1 s.2) Yc ((List.replicate r3.toNat (0 : Int)), 0)) fun o => match o with | .inl (p1_0_0, p1_0_1) => (some (p1_0_0, p1_0_1)) | .inr p1_1_0 => (Z7k p1_1_0)
def Z83 (k0 c1 : Int) : Option (Bool) :=
  some (decide (c1 ≤ k0))
def Z3f (s0 : List Int) (a0 x1 : Int) : Option ((Int) ⊕ (Int ⊕ Unit)) :=
  if x1 < (s0.length : Int) then
  (gd (inb x1 s0.length) <|
  Option.bind (Z83 (s0.getD x1.toNat 0) a0) fun r4 =>
  if r4 = true then
  (some (.inr (.inl x1)))
  else
  gd (i64ok (x1 + 1)) <|
  some (.inl (x1 + 1)))
  else
  some (.inr (.inr ()))
def Zbo  : Option (Int) :=
  some (-1)
def Z80 (s0 : List Int) (a0 : Int) : Option (Int) :=
  Option.bind (Ym (fun s => Z3f s0 a0 s) Yc 0) fun o => match o with | .inl p1_0_0 => (some p1_0_0) | .inr () => Zbo
def Z5n (s0 : List Int) (a0 : Int) : Option (Bool) :=
  Option.bind (Z80 s0 a0) fun r1 =>
  some (decide (0 ≤ r1))
def Z15 (c0 : Csr) (a2 a1 : List Int) (a0 : Int) (a3 : Bool) : Option ((List Int × Int) ⊕ ((List Int × Int) ⊕ (List Int))) :=
  if a3 = true then
  (some (.inr (.inl ([], 20))))
  else
  gd (inb a0 c0.Back.length) <|
  if (c0.Back.getD a0.toNat false) = true then
  (gd (inb a0 c0.Arc.length) <|
  gd (inb (c0.Arc.getD a0.toNat 0) a1.length) <|
  gd (i64ok (a0 + 1)) <|
  some (.inl ((a1.set (c0.Arc.getD a0.toNat 0).toNat (a2.getD a0.toNat 0)), (a0 + 1))))
  else
  gd (i64ok (a0 + 1)) <|
  some (.inl (a1, (a0 + 1)))
def Z65 (c0 : Csr) (a0 a2 : List Int) (a1 : Int) : Option ((List Int × Int) ⊕ ((List Int × Int) ⊕ (List Int))) :=
  if a1 < (a0.length : Int) then
  (gd (inb a1 a0.length) <|
  gd (inb a1 c0.Cap.length) <|
  gd (inb a1 c0.Rev.length) <|
  gd (inb (c0.Rev.getD a1.toNat 0) c0.Cap.length) <|
  if (a0.getD a1.toNat 0) < 0 then
  (Z15 c0 a0 a2 a1 true)
  else
  if (max (c0.Cap.getD a1.toNat 0) (c0.Cap.getD (c0.Rev.getD a1.toNat 0).toNat 0)) < (a0.getD a1.toNat 0) then
  (Z15 c0 a0 a2 a1 true)
  else
  gd (inb a1 c0.Rev.length) <|
  gd (inb (c0.Rev.getD a1.toNat 0) a0.length) <|
  gd (i64ok ((max (c0.Cap.getD a1.toNat 0) (c0.Cap.getD (c0.Rev.getD a1.toNat 0).toNat 0)) - (a0.getD a1.toNat 0))) <|
  Z15 c0 a0 a2 a1 (decide ((a0.getD (c0.Rev.getD a1.toNat 0).toNat 0) ≠ ((max (c0.Cap.getD a1.toNat 0) (c0.Cap.getD (c0.Rev.getD a1.toNat 0).toNat 0)) - (a0.getD a1.toNat 0)))))
  else
  some (.inr (.inr a2))
def Z7r (a0 : List Int) : Option (List Int × Int) :=
  some (a0, 0)
def Z0n (c0 : Csr) (a1 : List Int) (a0 : Int) (a2 : Bool) : Option (List Int × Int) :=
  if a2 = true then
  (some ([], 2))
  else
  gd (mkok a0) <|
  Option.bind (Ym (fun s => Z65 c0 a1 s.1 s.2) Yc ((List.replicate a0.toNat (0 : Int)), 0)) fun o => match o with | .inl (p2_0_0, p2_0_1) => (some (p2_0_0, p2_0_1)) | .inr p2_1_0 => (Z7r p2_1_0)
def Z0b (c0 : Csr) (a1 : List Int) (a0 : Int) : Option (List Int × Int) :=
  Option.bind (Z03 c0) fun r5 =>
  if (a1.length : Int) ≠ r5 then
  (Z0n c0 a1 a0 true)
  else
  if a0 < 0 then
  (Z0n c0 a1 a0 true)
  else
  if 16384 < a0 then
  (Z0n c0 a1 a0 true)
  else
  Option.bind (Z5n c0.Arc a0) fun a2 =>
  Z0n c0 a1 a0 a2
def Z8h (i0 : Int) (c1 : List Int) (c2 : Int) : Option (Bool) :=
  gd (inb i0 c1.length) <|
  some (decide (c2 ≤ (c1.getD i0.toNat 0)))
def Z4i (a0 : List Int) (a1 i1 j2 : Int) : Option ((Int × Int) ⊕ (Int)) :=
  if i1 < j2 then
  (gd (i64ok (i1 + j2)) <|
  gd (u64ok (i1 + j2)) <|
  gd (i64ok (Int.fdiv (i1 + j2) (2 ^ 1))) <|
  Option.bind (Z8h (Int.fdiv (i1 + j2) (2 ^ 1)) a0 a1) fun r7 =>
  if (!r7) = true then
  (gd (i64ok ((Int.fdiv (i1 + j2) (2 ^ 1)) + 1)) <|
  some (.inl (((Int.fdiv (i1 + j2) (2 ^ 1)) + 1), j2)))
  else
  some (.inl (i1, (Int.fdiv (i1 + j2) (2 ^ 1)))))
  else
  some (.inr i1)
def Z8k (a0 : Int) : Option (Int) :=
  some a0
def Z99 (n0 : Int) (a0 : List Int) (a1 : Int) : Option (Int) :=
  Option.bind (Ym (fun s => Z4i a0 a1 s.1 s.2) Yc (0, n0)) fun p1_0_0 => Z8k p1_0_0
def Z5i (a0 : List Int) (x1 : Int) : Option (Int) :=
  Option.bind (Z99 (a0.length : Int) a0 x1) fun r5 =>
  some r5
def Z4u (c0 : Csr) (a1 : Int) (x6 : Bool) : Option (Int × Bool) :=
  if x6 = true then
  (some (0, false))
  else
  gd (i64ok (a1 + 1)) <|
  Option.bind (Z5i c0.First (a1 + 1)) fun r9 =>
  gd (i64ok (r9 - 1)) <|
  some ((r9 - 1), true)
def Z1m (c0 : Csr) (a1 : Int) : Option (Int × Bool) :=
  if a1 < 0 then
  (Z4u c0 a1 true)
  else
  Option.bind (Z03 c0) fun r4 =>
  Z4u c0 a1 (decide (r4 ≤ a1))
def Z7w (a0 b1 : List Int) (x2 : Int) : Option ((Int) ⊕ (Bool ⊕ Unit)) :=
  if x2 < (a0.length : Int) then
  (gd (inb x2 a0.length) <|
  gd (inb x2 b1.length) <|
  if (a0.getD x2.toNat 0) ≠ (b1.getD x2.toNat 0) then
  (some (.inr (.inl false)))
  else
  gd (i64ok (x2 + 1)) <|
  some (.inl (x2 + 1)))
  else
  some (.inr (.inr ()))
def Zaw  : Option (Bool) :=
  some true
def Zbm (a0 b1 : List Int) : Option (Bool) :=
  if (a0.length : Int) ≠ (b1.length : Int) then
  (some false)
  else
  Option.bind (Ym (fun s => Z7w a0 b1 s) Yc 0) fun o => match o with | .inl p1_0_0 => (some p1_0_0) | .inr () => Zaw
end Go.Acq
namespace Go.Acq
open Go
structure Hop where
  Arc : Int
  Back : Bool
  deriving DecidableEq
instance : Inhabited Hop := ⟨⟨default, default⟩⟩
def Z48 (n0 : Net) (f1 : List Int) (x7 : Int) : Option ((Int) ⊕ (Bool ⊕ Unit)) :=
  if x7 < (n0.Arcs.length : Int) then
  (gd (inb x7 n0.Arcs.length) <|
  gd (inb x7 f1.length) <|
  if (f1.getD x7.toNat 0) < 0 then
  (some (.inr (.inl false)))
  else
  gd (inb x7 f1.length) <|
  if ((n0.Arcs.getD x7.toNat default).cap) < (f1.getD x7.toNat 0) then
  (some (.inr (.inl false)))
  else
  gd (i64ok (x7 + 1)) <|
  some (.inl (x7 + 1)))
  else
  some (.inr (.inr ()))
def Z8q  : Option (Bool) :=
  some true
def Rk (n0 : Net) (f1 : List Int) : Option (Bool) :=
  Option.bind (Z0k n0) fun r3 =>
  if r3 ≠ 0 then
  (some false)
  else
  if (f1.length : Int) ≠ (n0.Arcs.length : Int) then
  (some false)
  else
  Option.bind (Ym (fun s => Z48 n0 f1 s) Yc 0) fun o => match o with | .inl p1_0_0 => (some p1_0_0) | .inr () => Z8q
def Lk (s0 : List Int) : Option (List Int) :=
  gd (apok s0.length 8) <|
  some s0
def Z5j (n0 : Net) (f1 a1 : List Int) (a0 : Int) : Option ((List Int × Int) ⊕ (List Int)) :=
  if a0 < (n0.Arcs.length : Int) then
  (gd (inb a0 n0.Arcs.length) <|
  gd (inb ((n0.Arcs.getD a0.toNat default).fr) a1.length) <|
  gd (inb a0 f1.length) <|
  gd (i64ok ((a1.getD ((n0.Arcs.getD a0.toNat default).fr).toNat 0) - (f1.getD a0.toNat 0))) <|
  gd (inb ((n0.Arcs.getD a0.toNat default).fr) a1.length) <|
  gd (inb ((n0.Arcs.getD a0.toNat default).to) (a1.set ((n0.Arcs.getD a0.toNat default).fr).toNat ((a1.getD ((n0.Arcs.getD a0.toNat default).fr).toNat 0) - (f1.getD a0.toNat 0))).length) <|
  gd (inb a0 f1.length) <|
  gd (i64ok (((a1.set ((n0.Arcs.getD a0.toNat default).fr).toNat ((a1.getD ((n0.Arcs.getD a0.toNat default).fr).toNat 0) - (f1.getD a0.toNat 0))).getD ((n0.Arcs.getD a0.toNat default).to).toNat 0) + (f1.getD a0.toNat 0))) <|
  gd (inb ((n0.Arcs.getD a0.toNat default).to) (a1.set ((n0.Arcs.getD a0.toNat default).fr).toNat ((a1.getD ((n0.Arcs.getD a0.toNat default).fr).toNat 0) - (f1.getD a0.toNat 0))).length) <|
  gd (i64ok (a0 + 1)) <|
  some (.inl (((a1.set ((n0.Arcs.getD a0.toNat default).fr).toNat ((a1.getD ((n0.Arcs.getD a0.toNat default).fr).toNat 0) - (f1.getD a0.toNat 0))).set ((n0.Arcs.getD a0.toNat default).to).toNat (((a1.set ((n0.Arcs.getD a0.toNat default).fr).toNat ((a1.getD ((n0.Arcs.getD a0.toNat default).fr).toNat 0) - (f1.getD a0.toNat 0))).getD ((n0.Arcs.getD a0.toNat default).to).toNat 0) + (f1.getD a0.toNat 0))), (a0 + 1))))
  else
  some (.inr a1)
def Z72 (a0 : List Int) : Option (List Int × Int) :=
  some (a0, 0)
def Ll (n0 : Net) (f1 : List Int) : Option (List Int × Int) :=
  Option.bind (Rk n0 f1) fun r3 =>
  if (!r3) = true then
  (some ([], 20))
  else
  gd (mkok n0.N) <|
  Option.bind (Ym (fun s => Z5j n0 f1 s.1 s.2) Yc ((List.replicate n0.N.toNat (0 : Int)), 0)) fun p1_0_0 => Z72 p1_0_0
def Z6x (x0 : Int) : Option (Bool) :=
  some (decide (0 ≤ x0))
def Z5z (s0 : List Int) (v1 x1 : Int) : Option ((Int) ⊕ (Int ⊕ Unit)) :=
  if x1 < (s0.length : Int) then
  (gd (inb x1 s0.length) <|
  if v1 = (s0.getD x1.toNat 0) then
  (some (.inr (.inl x1)))
  else
  gd (i64ok (x1 + 1)) <|
  some (.inl (x1 + 1)))
  else
  some (.inr (.inr ()))
def Z7a  : Option (Int) :=
  some (-1)
def Z9r (s0 : List Int) (v1 : Int) : Option (Int) :=
  Option.bind (Ym (fun s => Z5z s0 v1 s) Yc 0) fun o => match o with | .inl p1_0_0 => (some p1_0_0) | .inr () => Z7a
def Z1x (s0 : List Int) (v1 : Int) : Option (Bool) :=
  Option.bind (Z9r s0 v1) fun r1 =>
  some (decide (0 ≤ r1))
def Z5y (a1 r3 : List Int) (a0 : Int) : Option ((Int) ⊕ (Bool ⊕ Unit)) :=
  if a0 < (r3.length : Int) then
  (gd (inb a0 r3.length) <|
  Option.bind (Z6x (r3.getD a0.toNat 0)) fun a2 =>
  if (!a2) = true then
  (Option.bind (Z1x a1 a0) fun a3 =>
  if (!a3) = true then
  (some (.inr (.inl false)))
  else
  gd (i64ok (a0 + 1)) <|
  some (.inl (a0 + 1)))
  else
  gd (i64ok (a0 + 1)) <|
  some (.inl (a0 + 1)))
  else
  some (.inr (.inr ()))
def Z7n (r4 : Int) : Option (Bool) :=
  some (decide (r4 = 0))
def Z7s (n0 : Net) (f1 a0 : List Int) : Option (Bool) :=
  Option.bind (Ll n0 f1) fun (r3, r4) =>
  Option.bind (Ym (fun s => Z5y a0 r3 s) Yc 0) fun o => match o with | .inl p1_0_0 => (some p1_0_0) | .inr () => (Z7n r4)
def Z1e (n0 : Net) (f1 : List Int) : Option (Bool) :=
  Option.bind (Z7s n0 f1 ([n0.S])) fun r5 =>
  some r5
def Z81 (x0 : Int) : Option (Bool) :=
  some (decide (x0 = 0))
def Z5v (a1 r3 : List Int) (a0 : Int) : Option ((Int) ⊕ (Bool ⊕ Unit)) :=
  if a0 < (r3.length : Int) then
  (gd (inb a0 r3.length) <|
  Option.bind (Z81 (r3.getD a0.toNat 0)) fun a2 =>
  if (!a2) = true then
  (Option.bind (Z1x a1 a0) fun a3 =>
  if (!a3) = true then
  (some (.inr (.inl false)))
  else
  gd (i64ok (a0 + 1)) <|
  some (.inl (a0 + 1)))
  else
  gd (i64ok (a0 + 1)) <|
  some (.inl (a0 + 1)))
  else
  some (.inr (.inr ()))
def Z78 (r4 : Int) : Option (Bool) :=
  some (decide (r4 = 0))
def Z8n (n0 : Net) (f1 a0 : List Int) : Option (Bool) :=
  Option.bind (Ll n0 f1) fun (r3, r4) =>
  Option.bind (Ym (fun s => Z5v a0 r3 s) Yc 0) fun o => match o with | .inl p1_0_0 => (some p1_0_0) | .inr () => (Z78 r4)
def Z5s (n0 : Net) (f1 : List Int) : Option (Bool) :=
  Option.bind (Z8n n0 f1 ([n0.S, n0.T])) fun r5 =>
  some r5
def Z5t (n0 : Net) (f1 : List Int) : Option (Int × Int) :=
  Option.bind (Z5s n0 f1) fun r3 =>
  if (!r3) = true then
  (some (0, 20))
  else
  Option.bind (Ll n0 f1) fun (r6, r7) =>
  gd (inb n0.T r6.length) <|
  some ((r6.getD n0.T.toNat 0), r7)
end Go.Acq
namespace Go.Acq
open Go
def Z5e (n0 : Net) (s1 : List Bool) : Option (Bool) :=
  Option.bind (Z0k n0) fun r3 =>
  if r3 = 0 then
  (if (s1.length : Int) = n0.N then
  (gd (inb n0.S s1.length) <|
  if (s1.getD n0.S.toNat false) = true then
  (gd (inb n0.T s1.length) <|
  some (!(s1.getD n0.T.toNat false)))
  else
  some false)
  else
  some false)
  else
  some false
def Zam (n0 : Net) (s1 : List Bool) : Option (Unit) :=
  some ()
def Z33 (s0 : List Bool) (v1 : Int) : Option (Bool) :=
  if v1 < (s0.length : Int) then
  (gd (inb v1 s0.length) <|
  some (s0.getD v1.toNat false))
  else
  some false
def Z6g {S_ X_ : Type} (a3 : S_ → (Int × Bool) → Option (S_ ⊕ X_)) (c1 : Net) (c2 : List Bool) (x1 : Int) (a1 : S_ ⊕ X_) : Option ((Int × (S_ ⊕ X_)) ⊕ ((S_ ⊕ X_))) :=
  if x1 < (c1.Arcs.length : Int) then
  (gd (inb x1 c1.Arcs.length) <|
  Option.bind (Z33 c2 ((c1.Arcs.getD x1.toNat default).fr)) fun r9 =>
  Option.bind (Z33 c2 ((c1.Arcs.getD x1.toNat default).to)) fun a2 =>
  if (!(r9 == a2)) = true then
  (Option.bind (Z42 a3 a1 (x1, r9)) fun a0 =>
  if (!a0.isLeft) = true then
  (some (.inr a0))
  else
  gd (i64ok (x1 + 1)) <|
  some (.inl ((x1 + 1), a0)))
  else
  gd (i64ok (x1 + 1)) <|
  some (.inl ((x1 + 1), a1)))
  else
  some (.inr a1)
def Z5b {S_ X_ : Type} (a0 : S_ → (Int × Bool) → Option (S_ ⊕ X_)) (c1 : Net) (c2 : List Bool) (a1 : S_ ⊕ X_) : Option ((S_ ⊕ X_)) :=
  Option.bind (Ym (fun s => Z6g a0 c1 c2 s.1 s.2) Yc (0, a1)) fun p1_0_0 => some p1_0_0
def Z2w (n0 : Net) (f1 : List Int) (a0 : Int) (a1 : Bool) : Option ((Unit) ⊕ (Unit)) :=
  if a1 = true then
  (gd (inb a0 f1.length) <|
  gd (inb a0 n0.Arcs.length) <|
  if (f1.getD a0.toNat 0) < ((n0.Arcs.getD a0.toNat default).cap) then
  (some (.inr ()))
  else
  if (!a1) = true then
  (gd (inb a0 f1.length) <|
  if 0 < (f1.getD a0.toNat 0) then
  (some (.inr ()))
  else
  some (.inl ()))
  else
  some (.inl ()))
  else
  if (!a1) = true then
  (gd (inb a0 f1.length) <|
  if 0 < (f1.getD a0.toNat 0) then
  (some (.inr ()))
  else
  some (.inl ()))
  else
  some (.inl ())
def Z47 (n0 : Net) (f1 : List Int) (s2 : List Bool) : Option (Bool) :=
  Option.bind (Z5e n0 s2) fun r7 =>
  if (!r7) = true then
  (some false)
  else
  Option.bind (Rk n0 f1) fun a0 =>
  if (!a0) = true then
  (some false)
  else
  Option.bind (Zam n0 s2) fun _ =>
  Option.bind (Z5b (fun s v => Z2w n0 f1 v.1 v.2) n0 s2 (.inl ())) fun t => match t with | .inl _ => (some true) | .inr _ => (some false)
def Z3e (n0 : Net) (f1 : List Int) : Option (Csr × List Int × Int) :=
  Option.bind (Rk n0 f1) fun r5 =>
  if (!r5) = true then
  (some ((Csr.mk 0 0 0 ([]) ([]) ([]) ([]) ([]) ([])), [], 20))
  else
  Option.bind (Rx n0) fun (r8, r9) =>
  if r9 ≠ 0 then
  (some (r8, [], r9))
  else
  Option.bind (Z3b r8 f1) fun (a0, a1) =>
  some (r8, a0, a1)
def Z3d (v0 : Int) (c1 : List Bool) (c2 : List Int) : Option (List Bool × List Int) :=
  gd (inb v0 c1.length) <|
  if (!(c1.getD v0.toNat false)) = true then
  (gd (inb v0 c1.length) <|
  gd (apok (c2 ++ ([v0])).length 8) <|
  some ((c1.set v0.toNat true), (c2 ++ ([v0]))))
  else
  some (c1, c2)
def Z6b (a0 : Int) (c1 : List Int) (c2 : Csr) : Option (Bool) :=
  gd (inb a0 c2.Rev.length) <|
  gd (inb (c2.Rev.getD a0.toNat 0) c1.length) <|
  some (decide (0 < (c1.getD (c2.Rev.getD a0.toNat 0).toNat 0)))
def Z6r (c0 : Csr) (a4 : List Int) (a3 : Csr) (a5 : Int) (a2 : List Bool) (a0 : List Int) (a1 : Int) : Option ((List Bool × List Int × Int) ⊕ (List Bool × List Int)) :=
  gd (inb a5 a0.length) <|
  gd (i64ok ((a0.getD a5.toNat 0) + 1)) <|
  gd (inb ((a0.getD a5.toNat 0) + 1) c0.First.length) <|
  if a1 < (c0.First.getD ((a0.getD a5.toNat 0) + 1).toNat 0) then
  (Option.bind (Z6b a1 a4 a3) fun a6 =>
  if a6 = true then
  (gd (inb a1 c0.Head.length) <|
  Option.bind (Z3d (c0.Head.getD a1.toNat 0) a2 a0) fun (a7, a8) =>
  gd (i64ok (a1 + 1)) <|
  some (.inl (a7, a8, (a1 + 1))))
  else
  gd (i64ok (a1 + 1)) <|
  some (.inl (a2, a0, (a1 + 1))))
  else
  some (.inr (a2, a0))
def Zai (a2 : Int) (a1 : List Bool) (a0 : List Int) : Option ((List Bool × List Int × Int) ⊕ (List Bool)) :=
  gd (i64ok (a2 + 1)) <|
  some (.inl (a1, a0, (a2 + 1)))
def Z8x (c0 : Csr) (a2 : List Int) (a1 : Csr) (a4 : List Bool) (a0 : List Int) (a3 : Int) : Option ((List Bool × List Int × Int) ⊕ (List Bool)) :=
  if a3 < (a0.length : Int) then
  (gd (inb a3 a0.length) <|
  gd (inb (a0.getD a3.toNat 0) c0.First.length) <|
  Option.bind (Ym (fun s => Z6r c0 a2 a1 a3 s.1 s.2.1 s.2.2) Yc (a4, a0, (c0.First.getD (a0.getD a3.toNat 0).toNat 0))) fun (p2_0_0, p2_0_1) => Zai a3 p2_0_0 p2_0_1)
  else
  some (.inr a4)
def Zbu (a0 : List Bool) : Option (List Bool) :=
  some a0
def Z8g (c0 : Csr) (a0 : Int) (a2 : List Int) (a1 : Csr) : Option (List Bool) :=
  gd (mkok c0.N) <|
  gd (inb a0 (List.replicate c0.N.toNat (false : Bool)).length) <|
  Option.bind (Ym (fun s => Z8x c0 a2 a1 s.1 s.2.1 s.2.2) Yc (((List.replicate c0.N.toNat (false : Bool)).set a0.toNat true), [a0], 0)) fun p1_0_0 => Zbu p1_0_0
def Z68 (a2 a0 : List Bool) (a1 : Int) : Option ((List Bool × Int) ⊕ (List Bool)) :=
  if a1 < (a2.length : Int) then
  (gd (inb a1 a0.length) <|
  gd (inb a1 a0.length) <|
  gd (i64ok (a1 + 1)) <|
  some (.inl ((a0.set a1.toNat (!(a0.getD a1.toNat false))), (a1 + 1))))
  else
  some (.inr a0)
def Z6z (a0 : List Bool) : Option (List Bool × Int) :=
  some (a0, 0)
def Z1u (n0 : Net) (f1 : List Int) : Option (List Bool × Int) :=
  Option.bind (Z3e n0 f1) fun (r3, r4, r5) =>
  if r5 ≠ 0 then
  (some ([], r5))
  else
  Option.bind (Z8g r3 n0.T r4 r3) fun a0 =>
  Option.bind (Ym (fun s => Z68 a0 s.1 s.2) Yc (a0, 0)) fun p1_0_0 => Z6z p1_0_0
end Go.Acq
namespace Go.Acq
open Go
structure CyclesSearch where
  n : Net
  out : List (List Int)
  at_ : List Int
  done : List Bool
  on : List Bool
  way : List Int
  deriving DecidableEq
instance : Inhabited CyclesSearch := ⟨⟨default, default, default, default, default, default⟩⟩
def Z4n (n0 : Net) (f1 : List Int) (a0 : List (List Int)) (a1 : Int) : Option ((List (List Int) × Int) ⊕ (List (List Int))) :=
  if a1 < (n0.Arcs.length : Int) then
  (gd (inb a1 n0.Arcs.length) <|
  gd (inb a1 f1.length) <|
  if 0 < (f1.getD a1.toNat 0) then
  (gd (inb ((n0.Arcs.getD a1.toNat default).fr) a0.length) <|
  gd (apok ((a0.getD ((n0.Arcs.getD a1.toNat default).fr).toNat []) ++ ([a1])).length 8) <|
  gd (i64ok (a1 + 1)) <|
  some (.inl ((a0.set ((n0.Arcs.getD a1.toNat default).fr).toNat ((a0.getD ((n0.Arcs.getD a1.toNat default).fr).toNat []) ++ ([a1]))), (a1 + 1))))
  else
  gd (i64ok (a1 + 1)) <|
  some (.inl (a0, (a1 + 1))))
  else
  some (.inr a0)
def Z8w (n0 : Net) (a0 : List (List Int)) : Option (CyclesSearch) :=
  some (CyclesSearch.mk n0 a0 (List.replicate n0.N.toNat (0 : Int)) (List.replicate n0.N.toNat (false : Bool)) (List.replicate n0.N.toNat (false : Bool)) ([]))
def Z1v (n0 : Net) (f1 : List Int) : Option (CyclesSearch) :=
  gd (mkok n0.N) <|
  gd (mkok n0.N) <|
  gd (mkok n0.N) <|
  gd (mkok n0.N) <|
  Option.bind (Ym (fun s => Z4n n0 f1 s.1 s.2) Yc ((List.replicate n0.N.toNat ([] : List Int)), 0)) fun p1_0_0 => Z8w n0 p1_0_0
def Z79 (k0 : Int) (c1 : CyclesSearch) (c2 : Int) : Option (Bool) :=
  gd (inb k0 c1.n.Arcs.length) <|
  some (decide (((c1.n.Arcs.getD k0.toNat default).fr) = c2))
def Z3n (s0 : List Int) (a1 : CyclesSearch) (a0 x1 : Int) : Option ((Int) ⊕ (Int ⊕ Unit)) :=
  if x1 < (s0.length : Int) then
  (gd (inb x1 s0.length) <|
  Option.bind (Z79 (s0.getD x1.toNat 0) a1 a0) fun r4 =>
  if r4 = true then
  (some (.inr (.inl x1)))
  else
  gd (i64ok (x1 + 1)) <|
  some (.inl (x1 + 1)))
  else
  some (.inr (.inr ()))
def Zb3  : Option (Int) :=
  some (-1)
def Z8s (s0 : List Int) (a1 : CyclesSearch) (a0 : Int) : Option (Int) :=
  Option.bind (Ym (fun s => Z3n s0 a1 a0 s) Yc 0) fun o => match o with | .inl p1_0_0 => (some p1_0_0) | .inr () => Zb3
def Z6i (s0 : CyclesSearch) (v1 a0 : Int) : Option (List Int) :=
  Option.bind (Ln s0.way) fun r5 =>
  gd (apok (r5 ++ ([a0])).length 8) <|
  Option.bind (Z8s (r5 ++ ([a0])) s0 v1) fun a1 =>
  gd (0 ≤ a1 ∧ a1 ≤ ((r5 ++ ([a0])).length : Int)) <|
  some ((r5 ++ ([a0])).drop a1.toNat)
def Z9f (v0 : Int) (c1 : CyclesSearch) : Option (Int × CyclesSearch) :=
  gd (inb v0 c1.done.length) <|
  gd (inb v0 c1.on.length) <|
  if (c1.way.length : Int) = 0 then
  (some ((-1), (CyclesSearch.mk c1.n c1.out c1.at_ (c1.done.set v0.toNat true) (c1.on.set v0.toNat false) c1.way)))
  else
  gd (i64ok ((c1.way.length : Int) - 1)) <|
  gd (inb ((c1.way.length : Int) - 1) c1.way.length) <|
  gd (i64ok ((c1.way.length : Int) - 1)) <|
  gd (0 ≤ ((c1.way.length : Int) - 1) ∧ ((c1.way.length : Int) - 1) ≤ (c1.way.length : Int)) <|
  gd (inb (c1.way.getD ((c1.way.length : Int) - 1).toNat 0) c1.n.Arcs.length) <|
  some ((c1.n.Arcs.getD (c1.way.getD ((c1.way.length : Int) - 1).toNat 0).toNat default).fr, (CyclesSearch.mk c1.n c1.out c1.at_ (c1.done.set v0.toNat true) (c1.on.set v0.toNat false) (c1.way.take ((c1.way.length : Int) - 1).toNat)))
def Z31 (s0 : CyclesSearch) (v9 : Int) (a3 a2 : List Bool) (a1 a0 : List Int) : Option ((List Int) ⊕ ((List Int × CyclesSearch) ⊕ (Int × List Int × List Bool × List Bool × List Int) ⊕ (List Int))) :=
  gd (inb v9 a0.length) <|
  gd (inb v9 s0.out.length) <|
  if (a0.getD v9.toNat 0) < ((s0.out.getD v9.toNat []).length : Int) then
  (gd (inb v9 s0.out.length) <|
  gd (inb v9 a0.length) <|
  gd (inb (a0.getD v9.toNat 0) (s0.out.getD v9.toNat []).length) <|
  gd (inb v9 a0.length) <|
  gd (i64ok ((a0.getD v9.toNat 0) + 1)) <|
  gd (inb v9 a0.length) <|
  gd (inb ((s0.out.getD v9.toNat []).getD (a0.getD v9.toNat 0).toNat 0) s0.n.Arcs.length) <|
  gd (inb ((s0.n.Arcs.getD ((s0.out.getD v9.toNat []).getD (a0.getD v9.toNat 0).toNat 0).toNat default).to) a2.length) <|
  if (a2.getD ((s0.n.Arcs.getD ((s0.out.getD v9.toNat []).getD (a0.getD v9.toNat 0).toNat 0).toNat default).to).toNat false) = true then
  (Option.bind (Z6i (CyclesSearch.mk s0.n s0.out (a0.set v9.toNat ((a0.getD v9.toNat 0) + 1)) a3 a2 a1) ((s0.n.Arcs.getD ((s0.out.getD v9.toNat []).getD (a0.getD v9.toNat 0).toNat 0).toNat default).to) ((s0.out.getD v9.toNat []).getD (a0.getD v9.toNat 0).toNat 0)) fun a4 =>
  some (.inr (.inl (a4, (CyclesSearch.mk s0.n s0.out (a0.set v9.toNat ((a0.getD v9.toNat 0) + 1)) a3 a2 a1)))))
  else
  gd (inb ((s0.n.Arcs.getD ((s0.out.getD v9.toNat []).getD (a0.getD v9.toNat 0).toNat 0).toNat default).to) a3.length) <|
  if (!(a3.getD ((s0.n.Arcs.getD ((s0.out.getD v9.toNat []).getD (a0.getD v9.toNat 0).toNat 0).toNat default).to).toNat false)) = true then
  (gd (apok (a1 ++ ([((s0.out.getD v9.toNat []).getD (a0.getD v9.toNat 0).toNat 0)])).length 8) <|
  gd (inb ((s0.n.Arcs.getD ((s0.out.getD v9.toNat []).getD (a0.getD v9.toNat 0).toNat 0).toNat default).to) a2.length) <|
  some (.inr (.inr (.inl ((s0.n.Arcs.getD ((s0.out.getD v9.toNat []).getD (a0.getD v9.toNat 0).toNat 0).toNat default).to, (a0.set v9.toNat ((a0.getD v9.toNat 0) + 1)), a3, (a2.set ((s0.n.Arcs.getD ((s0.out.getD v9.toNat []).getD (a0.getD v9.toNat 0).toNat 0).toNat default).to).toNat true), (a1 ++ ([((s0.out.getD v9.toNat []).getD (a0.getD v9.toNat 0).toNat 0)])))))))
  else
  some (.inl (a0.set v9.toNat ((a0.getD v9.toNat 0) + 1))))
  else
  some (.inr (.inr (.inr a0)))
def Z8z (s0 : CyclesSearch) (v9 : Int) (a2 a3 : List Bool) (a0 a1 : List Int) : Option ((Int × List Int × List Bool × List Bool × List Int) ⊕ ((List Int × CyclesSearch) ⊕ (List Int × List Bool × List Bool × List Int))) :=
  Option.bind (Z9f v9 (CyclesSearch.mk s0.n s0.out a1 a2 a3 a0)) fun (a5, a4) =>
  some (.inl (a5, a1, a4.done, a4.on, a4.way))
def Z3u (s0 : CyclesSearch) (v9 : Int) (a3 : List Int) (a1 a2 : List Bool) (a0 : List Int) : Option ((Int × List Int × List Bool × List Bool × List Int) ⊕ ((List Int × CyclesSearch) ⊕ (List Int × List Bool × List Bool × List Int))) :=
  if 0 ≤ v9 then
  (Option.bind (Ym (fun s => Z31 s0 v9 a1 a2 a0 s) Yc a3) fun o => match o with | .inl (p2_0_0, p2_0_1) => (some (.inr (.inl (p2_0_0, p2_0_1)))) | .inr (.inl (p2_1_0, p2_1_1, p2_1_2, p2_1_3, p2_1_4)) => (some (.inl (p2_1_0, p2_1_1, p2_1_2, p2_1_3, p2_1_4))) | .inr (.inr p2_2_0) => (Z8z s0 v9 a1 a2 a0 p2_2_0))
  else
  some (.inr (.inr (a3, a1, a2, a0)))
def Z98 (s0 : CyclesSearch) (a1 : List Int) (a2 a3 : List Bool) (a0 : List Int) : Option (List Int × CyclesSearch) :=
  some ([], (CyclesSearch.mk s0.n s0.out a1 a2 a3 a0))
def Z4a (s0 : CyclesSearch) (v1 : Int) : Option (List Int × CyclesSearch) :=
  gd (inb v1 s0.on.length) <|
  Option.bind (Ym (fun s => Z3u s0 s.1 s.2.1 s.2.2.1 s.2.2.2.1 s.2.2.2.2) Yc (v1, s0.at_, s0.done, (s0.on.set v1.toNat true), s0.way)) fun o => match o with | .inl (p1_0_0, p1_0_1) => (some (p1_0_0, p1_0_1)) | .inr (p1_1_0, p1_1_1, p1_1_2, p1_1_3) => (Z98 s0 p1_1_0 p1_1_1 p1_1_2 p1_1_3)
def Z3q (n0 : Net) (r3 : CyclesSearch) (a3 : List Int) (a0 a4 : List Bool) (a1 : List Int) (a2 : Int) : Option ((List Int × List Bool × List Bool × List Int × Int) ⊕ ((List Int) ⊕ Unit)) :=
  if a2 < n0.N then
  (gd (inb a2 a0.length) <|
  if (a0.getD a2.toNat false) = true then
  (gd (i64ok (a2 + 1)) <|
  some (.inl (a3, a0, a4, a1, (a2 + 1))))
  else
  Option.bind (Z4a (CyclesSearch.mk (Net.mk r3.n.N r3.n.S r3.n.T n0.Arcs) r3.out a3 a0 a4 a1) a2) fun (a6, a5) =>
  if 0 < (a6.length : Int) then
  (some (.inr (.inl a6)))
  else
  gd (i64ok (a2 + 1)) <|
  some (.inl (a5.at_, a5.done, a5.on, a5.way, (a2 + 1))))
  else
  some (.inr (.inr ()))
def Z9j  : Option (List Int) :=
  some ([])
def Z1k (n0 : Net) (f1 : List Int) : Option (List Int) :=
  Option.bind (Z1v n0 f1) fun r3 =>
  Option.bind (Ym (fun s => Z3q n0 r3 s.1 s.2.1 s.2.2.1 s.2.2.2.1 s.2.2.2.2) Yc (r3.at_, r3.done, r3.on, r3.way, 0)) fun o => match o with | .inl p1_0_0 => (some p1_0_0) | .inr () => Z9j
def Z5f (x0 : Int) : Option (Bool) :=
  some (decide (x0 ≠ x0))
def Z51 (x0 y1 : Int) : Option (Bool) :=
  Option.bind (Z5f x0) fun r1 =>
  if r1 = true then
  (Option.bind (Z5f y1) fun r4 =>
  if (!r4) = true then
  (some true)
  else
  some (decide (x0 < y1)))
  else
  some (decide (x0 < y1))
def Z4r (x0 : Int) : Option (Bool) :=
  some (decide (x0 ≠ x0))
def Z4g (x0 : List Int) (a0 i1 j2 : Int) : Option ((Int × Int) ⊕ (Int)) :=
  if i1 < j2 then
  (gd (i64ok (i1 + j2)) <|
  gd (u64ok (i1 + j2)) <|
  gd (i64ok (Int.fdiv (i1 + j2) (2 ^ 1))) <|
  gd (inb (Int.fdiv (i1 + j2) (2 ^ 1)) x0.length) <|
  Option.bind (Z51 (x0.getD (Int.fdiv (i1 + j2) (2 ^ 1)).toNat 0) a0) fun r8 =>
  if r8 = true then
  (gd (i64ok ((Int.fdiv (i1 + j2) (2 ^ 1)) + 1)) <|
  some (.inl (((Int.fdiv (i1 + j2) (2 ^ 1)) + 1), j2)))
  else
  some (.inl (i1, (Int.fdiv (i1 + j2) (2 ^ 1)))))
  else
  some (.inr i1)
def Z6t (x0 : List Int) (a0 a1 : Int) : Option (Int × Bool) :=
  if a1 < (x0.length : Int) then
  (gd (inb a1 x0.length) <|
  if (x0.getD a1.toNat 0) = a0 then
  (some (a1, true))
  else
  gd (inb a1 x0.length) <|
  Option.bind (Z4r (x0.getD a1.toNat 0)) fun a2 =>
  if a2 = true then
  (Option.bind (Z4r a0) fun a3 =>
  some (a1, a3))
  else
  some (a1, false))
  else
  some (a1, false)
def Z4q (x0 : List Int) (a0 : Int) : Option (Int × Bool) :=
  Option.bind (Ym (fun s => Z4g x0 a0 s.1 s.2) Yc (0, (x0.length : Int))) fun p1_0_0 => Z6t x0 a0 p1_0_0
def Z94 (xs : List Int) (i : Int) (vs : List Int) : Option (List Int) :=
  gd (0 ≤ i ∧ i ≤ (xs.length : Int) ∧ 0 < vs.length ∧ apok (xs ++ vs).length 8) <| some (xs.take i.toNat ++ vs ++ xs.drop i.toNat)
def Z6d (n0 : Net) (r6 : CyclesSearch) (a2 : Int) (a0 : List Int) (a1 : Int) : Option ((List Int × Int) ⊕ (List Int)) :=
  if a1 < ((r6.out.getD a2.toNat []).length : Int) then
  (gd (inb a1 (r6.out.getD a2.toNat []).length) <|
  gd (inb ((r6.out.getD a2.toNat []).getD a1.toNat 0) n0.Arcs.length) <|
  gd (inb ((n0.Arcs.getD ((r6.out.getD a2.toNat []).getD a1.toNat 0).toNat default).to) a0.length) <|
  gd (i64ok ((a0.getD ((n0.Arcs.getD ((r6.out.getD a2.toNat []).getD a1.toNat 0).toNat default).to).toNat 0) + 1)) <|
  gd (inb ((n0.Arcs.getD ((r6.out.getD a2.toNat []).getD a1.toNat 0).toNat default).to) a0.length) <|
  gd (i64ok (a1 + 1)) <|
  some (.inl ((a0.set ((n0.Arcs.getD ((r6.out.getD a2.toNat []).getD a1.toNat 0).toNat default).to).toNat ((a0.getD ((n0.Arcs.getD ((r6.out.getD a2.toNat []).getD a1.toNat 0).toNat default).to).toNat 0) + 1)), (a1 + 1))))
  else
  some (.inr a0)
def Z6v (a1 : Int) (a0 : List Int) : Option ((List Int × Int) ⊕ (List Int)) :=
  gd (i64ok (a1 + 1)) <|
  some (.inl (a0, (a1 + 1)))
def Z2b (n0 : Net) (r6 : CyclesSearch) (a0 : List Int) (a1 : Int) : Option ((List Int × Int) ⊕ (List Int)) :=
  if a1 < (r6.out.length : Int) then
  (gd (inb a1 r6.out.length) <|
  Option.bind (Ym (fun s => Z6d n0 r6 a1 s.1 s.2) Yc (a0, 0)) fun p2_0_0 => Z6v a1 p2_0_0)
  else
  some (.inr a0)
def Z1f (a2 a0 : List Int) (a1 : Int) : Option ((List Int × Int) ⊕ (List Int)) :=
  if a1 < (a2.length : Int) then
  (gd (inb a1 a2.length) <|
  if (a2.getD a1.toNat 0) = 0 then
  (gd (apok (a0 ++ ([a1])).length 8) <|
  gd (i64ok (a1 + 1)) <|
  some (.inl ((a0 ++ ([a1])), (a1 + 1))))
  else
  gd (i64ok (a1 + 1)) <|
  some (.inl (a0, (a1 + 1))))
  else
  some (.inr a0)
def Z2o (n0 : Net) (r6 : CyclesSearch) (a4 a0 a2 a3 : List Int) (a1 : Int) : Option ((List Int × List Int × Int) ⊕ (List Int × List Int × List Int)) :=
  if a1 < ((r6.out.getD (a0.getD (0 : Int).toNat 0).toNat []).length : Int) then
  (gd (inb a1 (r6.out.getD (a0.getD (0 : Int).toNat 0).toNat []).length) <|
  gd (inb ((r6.out.getD (a0.getD (0 : Int).toNat 0).toNat []).getD a1.toNat 0) n0.Arcs.length) <|
  gd (inb ((n0.Arcs.getD ((r6.out.getD (a0.getD (0 : Int).toNat 0).toNat []).getD a1.toNat 0).toNat default).to) a2.length) <|
  gd (i64ok ((a2.getD ((n0.Arcs.getD ((r6.out.getD (a0.getD (0 : Int).toNat 0).toNat []).getD a1.toNat 0).toNat default).to).toNat 0) - 1)) <|
  gd (inb ((n0.Arcs.getD ((r6.out.getD (a0.getD (0 : Int).toNat 0).toNat []).getD a1.toNat 0).toNat default).to) a2.length) <|
  gd (inb ((n0.Arcs.getD ((r6.out.getD (a0.getD (0 : Int).toNat 0).toNat []).getD a1.toNat 0).toNat default).to) (a2.set ((n0.Arcs.getD ((r6.out.getD (a0.getD (0 : Int).toNat 0).toNat []).getD a1.toNat 0).toNat default).to).toNat ((a2.getD ((n0.Arcs.getD ((r6.out.getD (a0.getD (0 : Int).toNat 0).toNat []).getD a1.toNat 0).toNat default).to).toNat 0) - 1)).length) <|
  if ((a2.set ((n0.Arcs.getD ((r6.out.getD (a0.getD (0 : Int).toNat 0).toNat []).getD a1.toNat 0).toNat default).to).toNat ((a2.getD ((n0.Arcs.getD ((r6.out.getD (a0.getD (0 : Int).toNat 0).toNat []).getD a1.toNat 0).toNat default).to).toNat 0) - 1)).getD ((n0.Arcs.getD ((r6.out.getD (a0.getD (0 : Int).toNat 0).toNat []).getD a1.toNat 0).toNat default).to).toNat 0) = 0 then
  (Option.bind (Z4q a3 ((n0.Arcs.getD ((r6.out.getD (a0.getD (0 : Int).toNat 0).toNat []).getD a1.toNat 0).toNat default).to)) fun (a5, a7) =>
  Option.bind (Z94 a3 a5 ([(n0.Arcs.getD ((r6.out.getD (a0.getD (0 : Int).toNat 0).toNat []).getD a1.toNat 0).toNat default).to])) fun a6 =>
  gd (i64ok (a1 + 1)) <|
  some (.inl ((a2.set ((n0.Arcs.getD ((r6.out.getD (a0.getD (0 : Int).toNat 0).toNat []).getD a1.toNat 0).toNat default).to).toNat ((a2.getD ((n0.Arcs.getD ((r6.out.getD (a0.getD (0 : Int).toNat 0).toNat []).getD a1.toNat 0).toNat default).to).toNat 0) - 1)), a6, (a1 + 1))))
  else
  gd (i64ok (a1 + 1)) <|
  some (.inl ((a2.set ((n0.Arcs.getD ((r6.out.getD (a0.getD (0 : Int).toNat 0).toNat []).getD a1.toNat 0).toNat default).to).toNat ((a2.getD ((n0.Arcs.getD ((r6.out.getD (a0.getD (0 : Int).toNat 0).toNat []).getD a1.toNat 0).toNat default).to).toNat 0) - 1)), a3, (a1 + 1))))
  else
  some (.inr (a2, (a4 ++ ([(a0.getD (0 : Int).toNat 0)])), a3))
def Z61 (n0 : Net) (r6 : CyclesSearch) (a2 a1 a0 : List Int) : Option ((List Int × List Int × List Int) ⊕ (List Int)) :=
  if 0 < (a0.length : Int) then
  (gd (inb 0 a0.length) <|
  gd (0 ≤ (1 : Int) ∧ (1 : Int) ≤ (a0.length : Int)) <|
  gd (apok (a1 ++ ([(a0.getD (0 : Int).toNat 0)])).length 8) <|
  gd (inb (a0.getD (0 : Int).toNat 0) r6.out.length) <|
  Option.bind (Ym (fun s => Z2o n0 r6 a1 a0 s.1 s.2.1 s.2.2) Yc (a2, (a0.drop (1 : Int).toNat), 0)) fun (p8_0_0, p8_0_1, p8_0_2) => some (.inl (p8_0_0, p8_0_1, p8_0_2)))
  else
  some (.inr a1)
def Z76 (n0 : Net) (a0 : List Int) : Option (List Int × Bool) :=
  if (a0.length : Int) < n0.N then
  (some ([], false))
  else
  some (a0, true)
def Z6y (n0 : Net) (r6 : CyclesSearch) (a1 a0 : List Int) : Option (List Int × Bool) :=
  Option.bind (Ym (fun s => Z61 n0 r6 s.1 s.2.1 s.2.2) Yc (a1, [], a0)) fun p7_0_0 => Z76 n0 p7_0_0
def Z7u (n0 : Net) (r6 : CyclesSearch) (a0 : List Int) : Option (List Int × Bool) :=
  Option.bind (Ym (fun s => Z1f a0 s.1 s.2) Yc ([], 0)) fun p5_0_0 => Z6y n0 r6 a0 p5_0_0
def Z4h (n0 : Net) (f1 : List Int) : Option (List Int × Bool) :=
  Option.bind (Rk n0 f1) fun r3 =>
  if (!r3) = true then
  (some ([], false))
  else
  Option.bind (Z1v n0 f1) fun r6 =>
  gd (mkok n0.N) <|
  Option.bind (Ym (fun s => Z2b n0 r6 s.1 s.2) Yc ((List.replicate n0.N.toNat (0 : Int)), 0)) fun p1_0_0 => Z7u n0 r6 p1_0_0
def Z2p (a2 a3 : List Int) (a0 a1 : Int) : Option ((Int × Int) ⊕ (Int)) :=
  if a1 < (a3.length : Int) then
  (gd (inb a1 a3.length) <|
  gd (inb (a3.getD a1.toNat 0) a2.length) <|
  gd (i64ok (a1 + 1)) <|
  some (.inl ((min a0 (a2.getD (a3.getD a1.toNat 0).toNat 0)), (a1 + 1))))
  else
  some (.inr a0)
def Z1c (a3 : List Int) (a0 : Int) (a1 : List Int) (a2 : Int) : Option ((List Int × Int) ⊕ (List Int)) :=
  if a2 < (a3.length : Int) then
  (gd (inb a2 a3.length) <|
  gd (inb (a3.getD a2.toNat 0) a1.length) <|
  gd (i64ok ((a1.getD (a3.getD a2.toNat 0).toNat 0) - a0)) <|
  gd (inb (a3.getD a2.toNat 0) a1.length) <|
  gd (i64ok (a2 + 1)) <|
  some (.inl ((a1.set (a3.getD a2.toNat 0).toNat ((a1.getD (a3.getD a2.toNat 0).toNat 0) - a0)), (a2 + 1))))
  else
  some (.inr a1)
def Z9p (a0 : Int) (a1 : List Int) : Option ((List Int × Int) ⊕ (List Int × Int × Int)) :=
  gd (i64ok (a0 + 1)) <|
  some (.inl (a1, (a0 + 1)))
def Z7h (a2 : List Int) (a1 : Int) (a3 : List Int) (a0 : Int) : Option ((List Int × Int) ⊕ (List Int × Int × Int)) :=
  Option.bind (Ym (fun s => Z1c a3 a0 s.1 s.2) Yc (a2, 0)) fun p4_0_0 => Z9p a1 p4_0_0
def Z6j (n0 : Net) (a0 : List Int) (a1 : Int) : Option ((List Int × Int) ⊕ (List Int × Int × Int)) :=
  Option.bind (Z1k n0 a0) fun a2 =>
  if (a2.length : Int) = 0 then
  (some (.inr (a0, a1, 0)))
  else
  gd (inb 0 a2.length) <|
  gd (inb (a2.getD (0 : Int).toNat 0) a0.length) <|
  Option.bind (Ym (fun s => Z2p a0 a2 s.1 s.2) Yc ((a0.getD (a2.getD (0 : Int).toNat 0).toNat 0), 0)) fun p2_0_0 => Z7h a0 a1 a2 p2_0_0
def Z5o (n0 : Net) (f1 : List Int) : Option (List Int × Int × Int) :=
  Option.bind (Rk n0 f1) fun r3 =>
  if (!r3) = true then
  (some ([], 0, 20))
  else
  Option.bind (Lk f1) fun r6 =>
  Option.bind (Ym (fun s => Z6j n0 s.1 s.2) Yc (r6, 0)) fun (p1_0_0, p1_0_1, p1_0_2) => some (p1_0_0, p1_0_1, p1_0_2)
end Go.Acq
namespace Go.Acq
open Go
end Go.Acq
namespace Go.Acq
open Go
def Z3i (n0 : Net) (a0 : List (List Int)) (x9 : Int) : Option ((List (List Int) × Int) ⊕ (List (List Int))) :=
  if x9 < (n0.Arcs.length : Int) then
  (gd (inb x9 n0.Arcs.length) <|
  gd (inb ((n0.Arcs.getD x9.toNat default).to) a0.length) <|
  gd (apok ((a0.getD ((n0.Arcs.getD x9.toNat default).to).toNat []) ++ ([x9])).length 8) <|
  gd (i64ok (x9 + 1)) <|
  some (.inl ((a0.set ((n0.Arcs.getD x9.toNat default).to).toNat ((a0.getD ((n0.Arcs.getD x9.toNat default).to).toNat []) ++ ([x9]))), (x9 + 1))))
  else
  some (.inr a0)
def Z7e (a0 : List (List Int)) : Option (List (List Int)) :=
  some a0
def Z5m (n0 : Net) : Option (List (List Int)) :=
  gd (mkok n0.N) <|
  Option.bind (Ym (fun s => Z3i n0 s.1 s.2) Yc ((List.replicate n0.N.toNat ([] : List Int)), 0)) fun p1_0_0 => Z7e p1_0_0
def Z6l (s0 : List Int) : Option (Unit) :=
  some ()
def Z5d {S_ X_ : Type} (a2 : S_ → (Int × Int) → Option (S_ ⊕ X_)) (c1 : List Int) (i2 : Int) (a1 : S_ ⊕ X_) : Option ((Int × (S_ ⊕ X_)) ⊕ ((S_ ⊕ X_))) :=
  if 0 ≤ i2 then
  (gd (inb i2 c1.length) <|
  Option.bind (Z42 a2 a1 (i2, (c1.getD i2.toNat 0))) fun a0 =>
  if (!a0.isLeft) = true then
  (some (.inr a0))
  else
  gd (i64ok (i2 - 1)) <|
  some (.inl ((i2 - 1), a0)))
  else
  some (.inr a1)
def Z4f {S_ X_ : Type} (a0 : S_ → (Int × Int) → Option (S_ ⊕ X_)) (c1 : List Int) (a1 : S_ ⊕ X_) : Option ((S_ ⊕ X_)) :=
  gd (i64ok ((c1.length : Int) - 1)) <|
  Option.bind (Ym (fun s => Z5d a0 c1 s.1 s.2) Yc (((c1.length : Int) - 1), a1)) fun p1_0_0 => some p1_0_0
def Z2z (n0 : Net) (a4 : List (List Int)) (a1 : Int) (a2 a0 : List Int) (a3 : Int) : Option ((List Int × List Int × Int) ⊕ (List Int × List Int)) :=
  if a3 < ((a4.getD a1.toNat []).length : Int) then
  (gd (inb a3 (a4.getD a1.toNat []).length) <|
  gd (inb a1 a0.length) <|
  gd (inb ((a4.getD a1.toNat []).getD a3.toNat 0) a2.length) <|
  gd (inb ((a4.getD a1.toNat []).getD a3.toNat 0) a2.length) <|
  gd (i64ok ((a2.getD ((a4.getD a1.toNat []).getD a3.toNat 0).toNat 0) - (min (a0.getD a1.toNat 0) (a2.getD ((a4.getD a1.toNat []).getD a3.toNat 0).toNat 0)))) <|
  gd (inb ((a4.getD a1.toNat []).getD a3.toNat 0) a2.length) <|
  gd (inb a1 a0.length) <|
  gd (i64ok ((a0.getD a1.toNat 0) - (min (a0.getD a1.toNat 0) (a2.getD ((a4.getD a1.toNat []).getD a3.toNat 0).toNat 0)))) <|
  gd (inb a1 a0.length) <|
  gd (inb ((a4.getD a1.toNat []).getD a3.toNat 0) n0.Arcs.length) <|
  gd (inb ((n0.Arcs.getD ((a4.getD a1.toNat []).getD a3.toNat 0).toNat default).fr) (a0.set a1.toNat ((a0.getD a1.toNat 0) - (min (a0.getD a1.toNat 0) (a2.getD ((a4.getD a1.toNat []).getD a3.toNat 0).toNat 0)))).length) <|
  gd (i64ok (((a0.set a1.toNat ((a0.getD a1.toNat 0) - (min (a0.getD a1.toNat 0) (a2.getD ((a4.getD a1.toNat []).getD a3.toNat 0).toNat 0)))).getD ((n0.Arcs.getD ((a4.getD a1.toNat []).getD a3.toNat 0).toNat default).fr).toNat 0) + (min (a0.getD a1.toNat 0) (a2.getD ((a4.getD a1.toNat []).getD a3.toNat 0).toNat 0)))) <|
  gd (inb ((n0.Arcs.getD ((a4.getD a1.toNat []).getD a3.toNat 0).toNat default).fr) (a0.set a1.toNat ((a0.getD a1.toNat 0) - (min (a0.getD a1.toNat 0) (a2.getD ((a4.getD a1.toNat []).getD a3.toNat 0).toNat 0)))).length) <|
  gd (i64ok (a3 + 1)) <|
  some (.inl ((a2.set ((a4.getD a1.toNat []).getD a3.toNat 0).toNat ((a2.getD ((a4.getD a1.toNat []).getD a3.toNat 0).toNat 0) - (min (a0.getD a1.toNat 0) (a2.getD ((a4.getD a1.toNat []).getD a3.toNat 0).toNat 0)))), ((a0.set a1.toNat ((a0.getD a1.toNat 0) - (min (a0.getD a1.toNat 0) (a2.getD ((a4.getD a1.toNat []).getD a3.toNat 0).toNat 0)))).set ((n0.Arcs.getD ((a4.getD a1.toNat []).getD a3.toNat 0).toNat default).fr).toNat (((a0.set a1.toNat ((a0.getD a1.toNat 0) - (min (a0.getD a1.toNat 0) (a2.getD ((a4.getD a1.toNat []).getD a3.toNat 0).toNat 0)))).getD ((n0.Arcs.getD ((a4.getD a1.toNat []).getD a3.toNat 0).toNat default).fr).toNat 0) + (min (a0.getD a1.toNat 0) (a2.getD ((a4.getD a1.toNat []).getD a3.toNat 0).toNat 0)))), (a3 + 1))))
  else
  some (.inr (a2, a0))
def Rh (n0 : Net) (a3 : List (List Int)) (a0 a1 : List Int) (a4 a2 : Int) : Option ((List Int × List Int) ⊕ (Empty)) :=
  if a2 = n0.S then
  (some (.inl (a0, a1)))
  else
  if a2 = n0.T then
  (some (.inl (a0, a1)))
  else
  gd (inb a2 a3.length) <|
  Option.bind (Ym (fun s => Z2z n0 a3 a2 s.1 s.2.1 s.2.2) Yc (a0, a1, 0)) fun (p2_0_0, p2_0_1) => some (.inl (p2_0_0, p2_0_1))
def Z30 (n0 : Net) (f1 : List Int) : Option (List Int × Int) :=
  Option.bind (Z1e n0 f1) fun r3 =>
  if (!r3) = true then
  (some ([], 20))
  else
  Option.bind (Z5o n0 f1) fun (r6, r7, r8) =>
  if r8 ≠ 0 then
  (some ([], r8))
  else
  Option.bind (Ll n0 r6) fun (a3, a1) =>
  if a1 ≠ 0 then
  (some ([], a1))
  else
  Option.bind (Z4h n0 r6) fun (a2, a6) =>
  Option.bind (Z5m n0) fun a4 =>
  Option.bind (Z6l a2) fun _ =>
  Option.bind (Z4f (fun s v => Rh n0 a4 s.1 s.2 v.1 v.2) a2 (.inl (r6, a3))) fun t => match t with | .inl (a0, a5) => (some (a0, 0)) | .inr x => nomatch x
def Z9o (r6 : List Int) (a0 a1 : Int) (a2 : Bool) : Option ((Int × Int) ⊕ (Int)) :=
  if a2 = true then
  (gd (i64ok (a0 + (r6.getD a1.toNat 0))) <|
  gd (i64ok (a1 + 1)) <|
  some (.inl ((a0 + (r6.getD a1.toNat 0)), (a1 + 1))))
  else
  gd (i64ok (a1 + 1)) <|
  some (.inl (a0, (a1 + 1)))
def Z8y (n0 : Net) (r6 : List Int) (a0 a1 : Int) : Option ((Int × Int) ⊕ (Int)) :=
  if a1 < (r6.length : Int) then
  (gd (inb a1 r6.length) <|
  if a1 ≠ n0.S then
  (Z9o r6 a0 a1 (decide (a1 ≠ n0.T)))
  else
  Z9o r6 a0 a1 false)
  else
  some (.inr a0)
def Zb4 (r7 a0 : Int) : Option (Int × Int) :=
  some (a0, r7)
def Zbz (n0 : Net) (f1 : List Int) : Option (Int × Int) :=
  Option.bind (Z1e n0 f1) fun r3 =>
  if (!r3) = true then
  (some (0, 20))
  else
  Option.bind (Ll n0 f1) fun (r6, r7) =>
  Option.bind (Ym (fun s => Z8y n0 r6 s.1 s.2) Yc (0, 0)) fun p1_0_0 => Zb4 r7 p1_0_0
def Z5q  : Option (Bool) :=
  Option.bind (Z30 (Net.mk 4 0 3 ([(Arc.mk 0 1 9), (Arc.mk 1 2 9), (Arc.mk 1 3 9)])) ([9, 4, 2])) fun (r7, r8) =>
  Option.bind (Zbz (Net.mk 4 0 3 ([(Arc.mk 0 1 9), (Arc.mk 1 2 9), (Arc.mk 1 3 9)])) ([9, 4, 2])) fun (a0, a1) =>
  if r8 = 0 then
  (if a1 = 0 then
  (if a0 = 7 then
  (Option.bind (Zbm r7 ([2, 0, 2])) fun a2 =>
  some a2)
  else
  some false)
  else
  some false)
  else
  some false
end Go.Acq
namespace Go.Acq
open Go
structure Pre where
  Res : List Int
  Ex : List Int
  H : List Int
  deriving DecidableEq
instance : Inhabited Pre := ⟨⟨default, default, default⟩⟩
def Nq (c0 : Csr) (u1 : Int) : Option (Unit) :=
  some ()
def Z6h {S_ X_ : Type} (a3 : S_ → Int → Option (S_ ⊕ X_)) (c1 : Csr) (c2 : Int) (a2 : Int) (a1 : S_ ⊕ X_) : Option ((Int × (S_ ⊕ X_)) ⊕ ((S_ ⊕ X_))) :=
  gd (i64ok (c2 + 1)) <|
  gd (inb (c2 + 1) c1.First.length) <|
  if a2 < (c1.First.getD (c2 + 1).toNat 0) then
  (Option.bind (Z42 a3 a1 a2) fun a0 =>
  if (!a0.isLeft) = true then
  (some (.inr a0))
  else
  gd (i64ok (a2 + 1)) <|
  some (.inl ((a2 + 1), a0)))
  else
  some (.inr a1)
def Rv {S_ X_ : Type} (a0 : S_ → Int → Option (S_ ⊕ X_)) (c1 : Csr) (c2 : Int) (a1 : S_ ⊕ X_) : Option ((S_ ⊕ X_)) :=
  gd (inb c2 c1.First.length) <|
  Option.bind (Ym (fun s => Z6h a0 c1 c2 s.1 s.2) Yc ((c1.First.getD c2.toNat 0), a1)) fun p1_0_0 => some p1_0_0
def Z2r (c0 : Csr) (p1 : Pre) (a2 d3 : Int) : Option (Pre) :=
  gd (inb a2 c0.Rev.length) <|
  gd (inb (c0.Rev.getD a2.toNat 0) c0.Head.length) <|
  gd (inb a2 p1.Res.length) <|
  gd (i64ok ((p1.Res.getD a2.toNat 0) - d3)) <|
  gd (inb a2 p1.Res.length) <|
  gd (inb a2 c0.Rev.length) <|
  gd (inb (c0.Rev.getD a2.toNat 0) (p1.Res.set a2.toNat ((p1.Res.getD a2.toNat 0) - d3)).length) <|
  gd (i64ok (((p1.Res.set a2.toNat ((p1.Res.getD a2.toNat 0) - d3)).getD (c0.Rev.getD a2.toNat 0).toNat 0) + d3)) <|
  gd (inb (c0.Rev.getD a2.toNat 0) (p1.Res.set a2.toNat ((p1.Res.getD a2.toNat 0) - d3)).length) <|
  gd (inb (c0.Head.getD (c0.Rev.getD a2.toNat 0).toNat 0) p1.Ex.length) <|
  gd (i64ok ((p1.Ex.getD (c0.Head.getD (c0.Rev.getD a2.toNat 0).toNat 0).toNat 0) - d3)) <|
  gd (inb (c0.Head.getD (c0.Rev.getD a2.toNat 0).toNat 0) p1.Ex.length) <|
  gd (inb a2 c0.Head.length) <|
  gd (inb (c0.Head.getD a2.toNat 0) (p1.Ex.set (c0.Head.getD (c0.Rev.getD a2.toNat 0).toNat 0).toNat ((p1.Ex.getD (c0.Head.getD (c0.Rev.getD a2.toNat 0).toNat 0).toNat 0) - d3)).length) <|
  gd (i64ok (((p1.Ex.set (c0.Head.getD (c0.Rev.getD a2.toNat 0).toNat 0).toNat ((p1.Ex.getD (c0.Head.getD (c0.Rev.getD a2.toNat 0).toNat 0).toNat 0) - d3)).getD (c0.Head.getD a2.toNat 0).toNat 0) + d3)) <|
  gd (inb (c0.Head.getD a2.toNat 0) (p1.Ex.set (c0.Head.getD (c0.Rev.getD a2.toNat 0).toNat 0).toNat ((p1.Ex.getD (c0.Head.getD (c0.Rev.getD a2.toNat 0).toNat 0).toNat 0) - d3)).length) <|
  some (Pre.mk ((p1.Res.set a2.toNat ((p1.Res.getD a2.toNat 0) - d3)).set (c0.Rev.getD a2.toNat 0).toNat (((p1.Res.set a2.toNat ((p1.Res.getD a2.toNat 0) - d3)).getD (c0.Rev.getD a2.toNat 0).toNat 0) + d3)) ((p1.Ex.set (c0.Head.getD (c0.Rev.getD a2.toNat 0).toNat 0).toNat ((p1.Ex.getD (c0.Head.getD (c0.Rev.getD a2.toNat 0).toNat 0).toNat 0) - d3)).set (c0.Head.getD a2.toNat 0).toNat (((p1.Ex.set (c0.Head.getD (c0.Rev.getD a2.toNat 0).toNat 0).toNat ((p1.Ex.getD (c0.Head.getD (c0.Rev.getD a2.toNat 0).toNat 0).toNat 0) - d3)).getD (c0.Head.getD a2.toNat 0).toNat 0) + d3)) p1.H)
def Z0l (c0 : Csr) (a0 a1 : List Int) (a2 : Int) : Option ((List Int × List Int) ⊕ (Empty)) :=
  gd (inb a2 a0.length) <|
  Option.bind (Z2r c0 (Pre.mk a0 a1 ((List.replicate c0.N.toNat (0 : Int)).set c0.S.toNat c0.N)) a2 (a0.getD a2.toNat 0)) fun a3 =>
  some (.inl (a3.Res, a3.Ex))
def Rp (c0 : Csr) : Option (Pre) :=
  Option.bind (Lk c0.Cap) fun r5 =>
  gd (mkok c0.N) <|
  gd (mkok c0.N) <|
  gd (inb c0.S (List.replicate c0.N.toNat (0 : Int)).length) <|
  Option.bind (Nq c0 c0.S) fun _ =>
  Option.bind (Rv (fun s v => Z0l c0 s.1 s.2 v) c0 c0.S (.inl (r5, (List.replicate c0.N.toNat (0 : Int))))) fun t => match t with | .inl (a0, a1) => (some (Pre.mk a0 a1 ((List.replicate c0.N.toNat (0 : Int)).set c0.S.toNat c0.N))) | .inr x => nomatch x
def Z08 (c0 : Csr) (p1 : Pre) (u2 : Int) : Option (Bool) :=
  if u2 ≠ c0.S then
  (if u2 ≠ c0.T then
  (gd (inb u2 p1.Ex.length) <|
  some (decide (0 < (p1.Ex.getD u2.toNat 0))))
  else
  some false)
  else
  some false
def Z0o (c0 : Csr) (p1 : Pre) (u2 a3 : Int) : Option (Bool) :=
  gd (inb a3 p1.Res.length) <|
  if 0 < (p1.Res.getD a3.toNat 0) then
  (gd (inb u2 p1.H.length) <|
  gd (inb a3 c0.Head.length) <|
  gd (inb (c0.Head.getD a3.toNat 0) p1.H.length) <|
  gd (i64ok ((p1.H.getD (c0.Head.getD a3.toNat 0).toNat 0) + 1)) <|
  some (decide ((p1.H.getD u2.toNat 0) = ((p1.H.getD (c0.Head.getD a3.toNat 0).toNat 0) + 1))))
  else
  some false
def Z09 (p0 : Pre) : Option (Pre) :=
  Option.bind (Lk p0.Res) fun r5 =>
  Option.bind (Lk p0.Ex) fun a0 =>
  Option.bind (Ln p0.H) fun a1 =>
  some (Pre.mk r5 a0 a1)
def Z01 (c0 : Csr) (p1 : Pre) (a2 r7 : Int) (a3 : Bool) : Option (Pre × Int × Int) :=
  if a3 = true then
  (some ((Pre.mk ([]) ([]) ([])), 0, 30))
  else
  Option.bind (Z09 p1) fun a0 =>
  gd (inb r7 p1.Ex.length) <|
  gd (inb a2 p1.Res.length) <|
  Option.bind (Z2r c0 a0 a2 (min (p1.Ex.getD r7.toNat 0) (p1.Res.getD a2.toNat 0))) fun a1 =>
  some ((Pre.mk a1.Res a1.Ex a0.H), (min (p1.Ex.getD r7.toNat 0) (p1.Res.getD a2.toNat 0)), 0)
def Z1s (c0 : Csr) (p1 : Pre) (a2 : Int) : Option (Pre × Int × Int) :=
  Option.bind (Z1m c0 a2) fun (r7, r8) =>
  if (!r8) = true then
  (some ((Pre.mk ([]) ([]) ([])), 0, 2))
  else
  Option.bind (Z08 c0 p1 r7) fun a0 =>
  if (!a0) = true then
  (Z01 c0 p1 a2 r7 true)
  else
  Option.bind (Z0o c0 p1 r7 a2) fun a1 =>
  Z01 c0 p1 a2 r7 (!a1)
def Z35 (c0 : Csr) (p1 : Pre) (u2 a0 : Int) : Option ((Unit) ⊕ (Unit)) :=
  Option.bind (Z0o c0 p1 u2 a0) fun a1 =>
  if a1 = true then
  (some (.inr ()))
  else
  some (.inl ())
def Z1b (c0 : Csr) (p1 : Pre) (u2 : Int) : Option (Bool) :=
  Option.bind (Nq c0 u2) fun _ =>
  Option.bind (Rv (fun s v => Z35 c0 p1 u2 v) c0 u2 (.inl ())) fun t => match t with | .inl _ => (Option.bind (Z08 c0 p1 u2) fun a0 => some a0) | .inr _ => (some false)
def Z2k (c0 : Csr) (p1 : Pre) (a0 a1 : Int) : Option ((Int) ⊕ (Empty)) :=
  gd (inb a1 p1.Res.length) <|
  if 0 < (p1.Res.getD a1.toNat 0) then
  (gd (inb a1 c0.Head.length) <|
  gd (inb (c0.Head.getD a1.toNat 0) p1.H.length) <|
  some (.inl (min a0 (p1.H.getD (c0.Head.getD a1.toNat 0).toNat 0))))
  else
  some (.inl a0)
def Z58 (c0 : Csr) (p1 : Pre) (u2 : Int) (x8 : Bool) : Option (Pre × Int) :=
  if x8 = true then
  (some ((Pre.mk ([]) ([]) ([])), 2))
  else
  Option.bind (Z1b c0 p1 u2) fun a2 =>
  if (!a2) = true then
  (some ((Pre.mk ([]) ([]) ([])), 30))
  else
  gd (i64ok (2 * c0.N)) <|
  Option.bind (Nq c0 u2) fun _ =>
  Option.bind (Rv (fun s v => Z2k c0 p1 s v) c0 u2 (.inl (2 * c0.N))) fun t => match t with | .inl a0 => (Option.bind (Z09 p1) fun a1 => gd (i64ok (a0 + 1)) <| gd (inb u2 a1.H.length) <| some ((Pre.mk a1.Res a1.Ex (a1.H.set u2.toNat (a0 + 1))), 0)) | .inr x => nomatch x
def Z2m (c0 : Csr) (p1 : Pre) (u2 : Int) : Option (Pre × Int) :=
  if u2 < 0 then
  (Z58 c0 p1 u2 true)
  else
  Z58 c0 p1 u2 (decide (c0.N ≤ u2))
def Z9d (u0 : Int) (c1 : Csr) (c2 : Pre) : Option (Bool) :=
  Option.bind (Z1b c1 c2 u0) fun r1 =>
  some r1
def Z2d (c0 a2 : Csr) (a3 : Pre) (a0 : List Int) (a1 : Int) : Option ((List Int × Int) ⊕ (List Int)) :=
  if a1 < c0.N then
  (Option.bind (Z9d a1 a2 a3) fun a4 =>
  if a4 = true then
  (gd (apok (a0 ++ ([a1])).length 8) <|
  gd (i64ok (a1 + 1)) <|
  some (.inl ((a0 ++ ([a1])), (a1 + 1))))
  else
  gd (i64ok (a1 + 1)) <|
  some (.inl (a0, (a1 + 1))))
  else
  some (.inr a0)
def Z88 (a0 : List Int) : Option (List Int) :=
  some a0
def Z70 (c0 a0 : Csr) (a1 : Pre) : Option (List Int) :=
  Option.bind (Ym (fun s => Z2d c0 a0 a1 s.1 s.2) Yc ([], 0)) fun p1_0_0 => Z88 p1_0_0
def Z2n (a0 : List Int) (a1 : Int) (a2 : Bool) : Option ((List Int) ⊕ (Empty)) :=
  if a2 = true then
  (gd (apok (a0 ++ ([a1])).length 8) <|
  some (.inl (a0 ++ ([a1]))))
  else
  some (.inl a0)
def Z2s (c0 : Csr) (p1 : Pre) (a2 : Int) (a0 : List Int) (a1 : Int) : Option ((List Int) ⊕ (Empty)) :=
  Option.bind (Z08 c0 p1 a2) fun a3 =>
  if a3 = true then
  (Option.bind (Z0o c0 p1 a2 a1) fun a4 =>
  Z2n a0 a1 a4)
  else
  Z2n a0 a1 false
def Z5x (c0 : Csr) (p1 : Pre) (a1 : List Int) (a0 : Int) : Option ((List Int × Int) ⊕ (List Int)) :=
  if a0 < c0.N then
  (Option.bind (Nq c0 a0) fun _ =>
  Option.bind (Rv (fun s v => Z2s c0 p1 a0 s v) c0 a0 (.inl a1)) fun t => match t with | .inl a2 => (gd (i64ok (a0 + 1)) <| some (.inl (a2, (a0 + 1)))) | .inr x => nomatch x)
  else
  some (.inr a1)
def Z9q (c0 : Csr) (p1 : Pre) (a0 : List Int) : Option (List Int × List Int) :=
  Option.bind (Z70 c0 c0 p1) fun a1 =>
  some (a0, a1)
def Z2u (c0 : Csr) (p1 : Pre) : Option (List Int × List Int) :=
  Option.bind (Ym (fun s => Z5x c0 p1 s.1 s.2) Yc ([], 0)) fun p1_0_0 => Z9q c0 p1 p1_0_0
end Go.Acq
namespace Go.Acq
open Go
def Z0s (n0 : Net) (a1 a2 : Int) (a0 a3 a4 : List Int) : Option ((Int × List Int × List Int × List Int × Int) ⊕ ((Net × List Int × Bool) ⊕ (List Int × List Int × List Int))) :=
  if a2 ≠ 0 then
  (some (.inr (.inl (n0, [], false))))
  else
  gd (i64ok (a1 + 1)) <|
  some (.inl (a2, a0, a3, a4, (a1 + 1)))
def Z0x (n0 : Net) (a0 : List Int) (r5 : Csr) (b5 : Int) (a3 a4 a6 : List Int) (a1 : Int) (a5 a2 : List Int) (a9 : Bool) : Option ((Int × List Int × List Int × List Int × Int) ⊕ ((Net × List Int × Bool) ⊕ (List Int × List Int × List Int))) :=
  if a9 = true then
  (gd ((2 : Int) ≠ 0 ∧ i64ok (((a0.take (min (a0.length : Int) 80).toNat).getD a1.toNat 0).tdiv 2)) <|
  gd ((a5.length : Int) ≠ 0) <|
  gd (inb ((((a0.take (min (a0.length : Int) 80).toNat).getD a1.toNat 0).tdiv 2).tmod (a5.length : Int)) a5.length) <|
  Option.bind (Z1s r5 (Pre.mk a3 a4 a6) (a5.getD ((((a0.take (min (a0.length : Int) 80).toNat).getD a1.toNat 0).tdiv 2).tmod (a5.length : Int)).toNat 0)) fun (a7, b6, b0) =>
  Z0s n0 a1 b0 a7.Res a7.Ex a7.H)
  else
  if 0 < (a2.length : Int) then
  (gd ((2 : Int) ≠ 0 ∧ i64ok (((a0.take (min (a0.length : Int) 80).toNat).getD a1.toNat 0).tdiv 2)) <|
  gd ((a2.length : Int) ≠ 0) <|
  gd (inb ((((a0.take (min (a0.length : Int) 80).toNat).getD a1.toNat 0).tdiv 2).tmod (a2.length : Int)) a2.length) <|
  Option.bind (Z2m r5 (Pre.mk a3 a4 a6) (a2.getD ((((a0.take (min (a0.length : Int) 80).toNat).getD a1.toNat 0).tdiv 2).tmod (a2.length : Int)).toNat 0)) fun (a8, b1) =>
  Z0s n0 a1 b1 a8.Res a8.Ex a8.H)
  else
  Z0s n0 a1 b5 a3 a4 a6
def Z3z (n0 : Net) (a0 : List Int) (r5 : Csr) (a7 : Int) (a1 a2 a4 : List Int) (a3 : Int) : Option ((Int × List Int × List Int × List Int × Int) ⊕ ((Net × List Int × Bool) ⊕ (List Int × List Int × List Int))) :=
  if a3 < ((a0.take (min (a0.length : Int) 80).toNat).length : Int) then
  (gd (inb a3 (a0.take (min (a0.length : Int) 80).toNat).length) <|
  Option.bind (Z2u r5 (Pre.mk a1 a2 a4)) fun (a5, a6) =>
  gd (i64ok ((a0.take (min (a0.length : Int) 80).toNat).getD a3.toNat 0)) <|
  if 0 < (a5.length : Int) then
  (if (((a0.take (min (a0.length : Int) 80).toNat).getD a3.toNat 0).tmod 2) = 0 then
  (Z0x n0 a0 r5 a7 a1 a2 a4 a3 a5 a6 true)
  else
  Z0x n0 a0 r5 a7 a1 a2 a4 a3 a5 a6 (decide ((a6.length : Int) = 0)))
  else
  Z0x n0 a0 r5 a7 a1 a2 a4 a3 a5 a6 false)
  else
  some (.inr (.inr (a1, a2, a4)))
def Z8j (n0 : Net) (r5 : Csr) (a0 a3 a4 : List Int) : Option (Net × List Int × Bool) :=
  Option.bind (Z0b r5 a0 (n0.Arcs.length : Int)) fun (a1, a2) =>
  some (n0, a1, (decide (a2 = 0)))
def Z3g (n0 : Net) (a0 : List Int) : Option (Net × List Int × Bool) :=
  Option.bind (Rx n0) fun (r5, r6) =>
  if r6 ≠ 0 then
  (some (n0, [], false))
  else
  Option.bind (Rp r5) fun a1 =>
  gd (0 ≤ (min (a0.length : Int) 80) ∧ (min (a0.length : Int) 80) ≤ (a0.length : Int)) <|
  Option.bind (Ym (fun s => Z3z n0 a0 r5 s.1 s.2.1 s.2.2.1 s.2.2.2.1 s.2.2.2.2) Yc (r6, a1.Res, a1.Ex, a1.H, 0)) fun o => match o with | .inl (p1_0_0, p1_0_1, p1_0_2) => (some (p1_0_0, p1_0_1, p1_0_2)) | .inr (p1_1_0, p1_1_1, p1_1_2) => (Z8j n0 r5 p1_1_0 p1_1_1 p1_1_2)
def Z4p (n0 : Net) (a0 : List Int) : Option (Net × List Int × Bool) :=
  Option.bind (Z40 n0 12 30) fun r5 =>
  Option.bind (Z3g r5 a0) fun (a1, a2, a3) =>
  some ((Net.mk a1.N a1.S a1.T r5.Arcs), a2, a3)
end Go.Acq
namespace Go.Acq
open Go
structure Work where
  Pushes : Int
  Lifts : Int
  deriving DecidableEq
instance : Inhabited Work := ⟨⟨default, default⟩⟩
structure Answer where
  Flow : List Int
  Side : List Bool
  Value : Int
  deriving DecidableEq
instance : Inhabited Answer := ⟨⟨default, default, default⟩⟩
structure FifoRun where
  c : Csr
  p : Pre
  row : Chan
  ins : List Bool
  work : Work
  deriving DecidableEq
instance : Inhabited FifoRun := ⟨⟨default, default, default, default, default⟩⟩
def Z2q (r0 : FifoRun) (v1 : Int) (a0 : Bool) : Option (FifoRun) :=
  if a0 = true then
  (gd (inb v1 r0.ins.length) <|
  gd (r0.row.buf.length < r0.row.cap) <|
  some (FifoRun.mk r0.c r0.p (Chan.put r0.row v1) (r0.ins.set v1.toNat true) r0.work))
  else
  some r0
def Z26 (r0 : FifoRun) (v1 : Int) (b8 : Bool) : Option (FifoRun) :=
  if b8 = true then
  (gd (inb v1 r0.ins.length) <|
  Z2q r0 v1 (!(r0.ins.getD v1.toNat false)))
  else
  Z2q r0 v1 false
def Z4j (r0 : FifoRun) (v1 : Int) (b5 : Bool) : Option (FifoRun) :=
  if b5 = true then
  (gd (inb v1 r0.p.Ex.length) <|
  Z26 r0 v1 (decide (0 < (r0.p.Ex.getD v1.toNat 0))))
  else
  Z26 r0 v1 false
def Z1p (r0 : FifoRun) (v1 : Int) : Option (FifoRun) :=
  if v1 ≠ r0.c.S then
  (Z4j r0 v1 (decide (v1 ≠ r0.c.T)))
  else
  Z4j r0 v1 false
def Z90 (a0 : FifoRun) : Option (Int × Bool × FifoRun) :=
  if a0.row.buf = [] then
  (some (0, false, a0))
  else
  gd (inb (a0.row.buf.getD 0 0) a0.ins.length) <|
  some ((a0.row.buf.getD 0 0), true, (FifoRun.mk a0.c a0.p (Chan.cut a0.row) (a0.ins.set (a0.row.buf.getD 0 0).toNat false) a0.work))
def Z4v (r0 : FifoRun) (u1 a2 : Int) : Option (FifoRun) :=
  gd (inb a2 r0.c.Rev.length) <|
  gd (inb a2 r0.c.Head.length) <|
  gd (inb u1 r0.p.Ex.length) <|
  gd (inb a2 r0.p.Res.length) <|
  gd (inb a2 r0.p.Res.length) <|
  gd (i64ok ((r0.p.Res.getD a2.toNat 0) - (min (r0.p.Ex.getD u1.toNat 0) (r0.p.Res.getD a2.toNat 0)))) <|
  gd (inb a2 r0.p.Res.length) <|
  gd (inb (r0.c.Rev.getD a2.toNat 0) (r0.p.Res.set a2.toNat ((r0.p.Res.getD a2.toNat 0) - (min (r0.p.Ex.getD u1.toNat 0) (r0.p.Res.getD a2.toNat 0)))).length) <|
  gd (i64ok (((r0.p.Res.set a2.toNat ((r0.p.Res.getD a2.toNat 0) - (min (r0.p.Ex.getD u1.toNat 0) (r0.p.Res.getD a2.toNat 0)))).getD (r0.c.Rev.getD a2.toNat 0).toNat 0) + (min (r0.p.Ex.getD u1.toNat 0) (r0.p.Res.getD a2.toNat 0)))) <|
  gd (inb (r0.c.Rev.getD a2.toNat 0) (r0.p.Res.set a2.toNat ((r0.p.Res.getD a2.toNat 0) - (min (r0.p.Ex.getD u1.toNat 0) (r0.p.Res.getD a2.toNat 0)))).length) <|
  gd (inb u1 r0.p.Ex.length) <|
  gd (i64ok ((r0.p.Ex.getD u1.toNat 0) - (min (r0.p.Ex.getD u1.toNat 0) (r0.p.Res.getD a2.toNat 0)))) <|
  gd (inb u1 r0.p.Ex.length) <|
  gd (inb (r0.c.Head.getD a2.toNat 0) (r0.p.Ex.set u1.toNat ((r0.p.Ex.getD u1.toNat 0) - (min (r0.p.Ex.getD u1.toNat 0) (r0.p.Res.getD a2.toNat 0)))).length) <|
  gd (i64ok (((r0.p.Ex.set u1.toNat ((r0.p.Ex.getD u1.toNat 0) - (min (r0.p.Ex.getD u1.toNat 0) (r0.p.Res.getD a2.toNat 0)))).getD (r0.c.Head.getD a2.toNat 0).toNat 0) + (min (r0.p.Ex.getD u1.toNat 0) (r0.p.Res.getD a2.toNat 0)))) <|
  gd (inb (r0.c.Head.getD a2.toNat 0) (r0.p.Ex.set u1.toNat ((r0.p.Ex.getD u1.toNat 0) - (min (r0.p.Ex.getD u1.toNat 0) (r0.p.Res.getD a2.toNat 0)))).length) <|
  gd (i64ok (r0.work.Pushes + 1)) <|
  Option.bind (Z1p (FifoRun.mk r0.c (Pre.mk ((r0.p.Res.set a2.toNat ((r0.p.Res.getD a2.toNat 0) - (min (r0.p.Ex.getD u1.toNat 0) (r0.p.Res.getD a2.toNat 0)))).set (r0.c.Rev.getD a2.toNat 0).toNat (((r0.p.Res.set a2.toNat ((r0.p.Res.getD a2.toNat 0) - (min (r0.p.Ex.getD u1.toNat 0) (r0.p.Res.getD a2.toNat 0)))).getD (r0.c.Rev.getD a2.toNat 0).toNat 0) + (min (r0.p.Ex.getD u1.toNat 0) (r0.p.Res.getD a2.toNat 0)))) ((r0.p.Ex.set u1.toNat ((r0.p.Ex.getD u1.toNat 0) - (min (r0.p.Ex.getD u1.toNat 0) (r0.p.Res.getD a2.toNat 0)))).set (r0.c.Head.getD a2.toNat 0).toNat (((r0.p.Ex.set u1.toNat ((r0.p.Ex.getD u1.toNat 0) - (min (r0.p.Ex.getD u1.toNat 0) (r0.p.Res.getD a2.toNat 0)))).getD (r0.c.Head.getD a2.toNat 0).toNat 0) + (min (r0.p.Ex.getD u1.toNat 0) (r0.p.Res.getD a2.toNat 0)))) r0.p.H) r0.row r0.ins (Work.mk (r0.work.Pushes + 1) r0.work.Lifts)) (r0.c.Head.getD a2.toNat 0)) fun a0 =>
  some (FifoRun.mk r0.c (Pre.mk ((r0.p.Res.set a2.toNat ((r0.p.Res.getD a2.toNat 0) - (min (r0.p.Ex.getD u1.toNat 0) (r0.p.Res.getD a2.toNat 0)))).set (r0.c.Rev.getD a2.toNat 0).toNat (((r0.p.Res.set a2.toNat ((r0.p.Res.getD a2.toNat 0) - (min (r0.p.Ex.getD u1.toNat 0) (r0.p.Res.getD a2.toNat 0)))).getD (r0.c.Rev.getD a2.toNat 0).toNat 0) + (min (r0.p.Ex.getD u1.toNat 0) (r0.p.Res.getD a2.toNat 0)))) ((r0.p.Ex.set u1.toNat ((r0.p.Ex.getD u1.toNat 0) - (min (r0.p.Ex.getD u1.toNat 0) (r0.p.Res.getD a2.toNat 0)))).set (r0.c.Head.getD a2.toNat 0).toNat (((r0.p.Ex.set u1.toNat ((r0.p.Ex.getD u1.toNat 0) - (min (r0.p.Ex.getD u1.toNat 0) (r0.p.Res.getD a2.toNat 0)))).getD (r0.c.Head.getD a2.toNat 0).toNat 0) + (min (r0.p.Ex.getD u1.toNat 0) (r0.p.Res.getD a2.toNat 0)))) r0.p.H) a0.row a0.ins (Work.mk (r0.work.Pushes + 1) r0.work.Lifts))
def Z4m (r0 : FifoRun) (u1 a0 a1 : Int) : Option ((Int × Int) ⊕ (FifoRun ⊕ Int)) :=
  gd (i64ok (u1 + 1)) <|
  gd (inb (u1 + 1) r0.c.First.length) <|
  if a1 < (r0.c.First.getD (u1 + 1).toNat 0) then
  (gd (inb a1 r0.p.Res.length) <|
  if (r0.p.Res.getD a1.toNat 0) = 0 then
  (gd (i64ok (a1 + 1)) <|
  some (.inl (a0, (a1 + 1))))
  else
  gd (inb a1 r0.c.Head.length) <|
  gd (inb (r0.c.Head.getD a1.toNat 0) r0.p.H.length) <|
  gd (inb u1 r0.p.H.length) <|
  gd (i64ok ((r0.p.H.getD (r0.c.Head.getD a1.toNat 0).toNat 0) + 1)) <|
  if (r0.p.H.getD u1.toNat 0) = ((r0.p.H.getD (r0.c.Head.getD a1.toNat 0).toNat 0) + 1) then
  (Option.bind (Z4v r0 u1 a1) fun a2 =>
  some (.inr (.inl (FifoRun.mk r0.c (Pre.mk a2.p.Res a2.p.Ex r0.p.H) a2.row a2.ins (Work.mk a2.work.Pushes r0.work.Lifts)))))
  else
  gd (i64ok (a1 + 1)) <|
  some (.inl ((min a0 (r0.p.H.getD (r0.c.Head.getD a1.toNat 0).toNat 0)), (a1 + 1))))
  else
  some (.inr (.inr a0))
def Z89 (r0 : FifoRun) (u1 a0 : Int) : Option (FifoRun) :=
  gd (i64ok (a0 + 1)) <|
  gd (inb u1 r0.p.H.length) <|
  gd (i64ok (r0.work.Lifts + 1)) <|
  some (FifoRun.mk r0.c (Pre.mk r0.p.Res r0.p.Ex (r0.p.H.set u1.toNat (a0 + 1))) r0.row r0.ins (Work.mk r0.work.Pushes (r0.work.Lifts + 1)))
def Z4o (r0 : FifoRun) (u1 : Int) : Option (FifoRun) :=
  gd (i64ok (2 * r0.c.N)) <|
  gd (inb u1 r0.c.First.length) <|
  Option.bind (Ym (fun s => Z4m r0 u1 s.1 s.2) Yc ((2 * r0.c.N), (r0.c.First.getD u1.toNat 0))) fun o => match o with | .inl p1_0_0 => (some p1_0_0) | .inr p1_1_0 => (Z89 r0 u1 p1_1_0)
def Z3j (c0 : Csr) (r9 : Pre) (a0 : Chan) (a1 : List Bool) (a2 : Int) : Option ((Chan × List Bool × Int) ⊕ (Chan × List Bool)) :=
  if a2 < c0.N then
  (Option.bind (Z1p (FifoRun.mk c0 r9 a0 a1 (Work.mk 0 0)) a2) fun a3 =>
  gd (i64ok (a2 + 1)) <|
  some (.inl (a3.row, a3.ins, (a2 + 1))))
  else
  some (.inr (a0, a1))
def Z19 (c0 : Csr) (a8 : Int) (a4 a3 a5 : List Int) (a6 : Chan) (a7 : List Bool) (a1 a2 : Int) : Option ((List Int × List Int × List Int × Chan × List Bool × Int × Int) ⊕ (List Int × List Int × List Int × Chan × List Bool × Int × Int)) :=
  gd (inb a8 a3.length) <|
  if 0 < (a3.getD a8.toNat 0) then
  (Option.bind (Z4o (FifoRun.mk c0 (Pre.mk a4 a3 a5) a6 a7 (Work.mk a1 a2)) a8) fun a0 =>
  some (.inl (a0.p.Res, a0.p.Ex, a0.p.H, a0.row, a0.ins, a0.work.Pushes, a0.work.Lifts)))
  else
  some (.inr (a4, a3, a5, a6, a7, a1, a2))
def Z41 (c0 : Csr) (a2 a3 a4 : List Int) (a5 : Chan) (a6 : List Bool) (a0 a1 : Int) : Option ((List Int × List Int × List Int × Chan × List Bool × Int × Int) ⊕ (Pre × Work)) :=
  Option.bind (Z90 (FifoRun.mk c0 (Pre.mk a2 a3 a4) a5 a6 (Work.mk a0 a1))) fun (a8, a9, a7) =>
  if (!a9) = true then
  (some (.inr ((Pre.mk a2 a3 a4), (Work.mk a0 a1))))
  else
  Option.bind (Ym (fun s => Z19 c0 a8 s.1 s.2.1 s.2.2.1 s.2.2.2.1 s.2.2.2.2.1 s.2.2.2.2.2.1 s.2.2.2.2.2.2) Yc (a2, a3, a4, a7.row, a7.ins, a0, a1)) fun (p4_0_0, p4_0_1, p4_0_2, p4_0_3, p4_0_4, p4_0_5, p4_0_6) => some (.inl (p4_0_0, p4_0_1, p4_0_2, p4_0_3, p4_0_4, p4_0_5, p4_0_6))
def Z8t (c0 : Csr) (r9 : Pre) (a0 : Chan) (a1 : List Bool) : Option (Pre × Work) :=
  Option.bind (Ym (fun s => Z41 c0 s.1 s.2.1 s.2.2.1 s.2.2.2.1 s.2.2.2.2.1 s.2.2.2.2.2.1 s.2.2.2.2.2.2) Yc (r9.Res, r9.Ex, r9.H, a0, a1, 0, 0)) fun (p3_0_0, p3_0_1) => some (p3_0_0, p3_0_1)
def Z29 (c0 : Csr) (p1 : Pre) : Option (Pre × Work) :=
  Option.bind (Z09 p1) fun r9 =>
  gd (chok c0.N 8) <|
  gd (mkok c0.N) <|
  Option.bind (Ym (fun s => Z3j c0 r9 s.1 s.2.1 s.2.2) Yc ((Chan.mk c0.N.toNat []), (List.replicate c0.N.toNat (false : Bool)), 0)) fun (p1_0_0, p1_0_1) => Z8t c0 r9 p1_0_0 p1_0_1
def Z4k (n0 : Net) : Option (Answer × Work × Int) :=
  Option.bind (Rx n0) fun (r7, r8) =>
  if r8 ≠ 0 then
  (some ((Answer.mk ([]) ([]) 0), (Work.mk 0 0), r8))
  else
  Option.bind (Rp r7) fun a5 =>
  Option.bind (Z29 r7 a5) fun (a3, a6) =>
  Option.bind (Z0b r7 a3.Res (n0.Arcs.length : Int)) fun (a0, a1) =>
  if a1 ≠ 0 then
  (some ((Answer.mk ([]) ([]) 0), (Work.mk 0 0), a1))
  else
  Option.bind (Z1u n0 a0) fun (a4, a2) =>
  if a2 ≠ 0 then
  (some ((Answer.mk ([]) ([]) 0), (Work.mk 0 0), a2))
  else
  gd (inb n0.T a3.Ex.length) <|
  some ((Answer.mk a0 a4 (a3.Ex.getD n0.T.toNat 0)), a6, 0)
end Go.Acq
namespace Go.Acq
open Go
def Z04 (a0 : Bool) (a1 : Int) (a2 : Bool) : Option ((Int) ⊕ (Bool ⊕ Unit)) :=
  if a2 = true then
  (if (!a0) = true then
  (Option.bind Z5q fun a3 =>
  some (.inr (.inl a3)))
  else
  some (.inr (.inl false)))
  else
  gd (i64ok (a1 + 1)) <|
  some (.inl (a1 + 1))
def Z38 (a1 : Bool) (r3 : Net) (a2 : List Bool) (a3 : List Int) (a0 : Int) : Option ((Int) ⊕ (Bool ⊕ Unit)) :=
  if a0 < (a2.length : Int) then
  (gd (inb a0 a2.length) <|
  if (!(a2.getD a0.toNat false)) = true then
  (gd (inb a0 a3.length) <|
  if 0 < (a3.getD a0.toNat 0) then
  (if a0 ≠ r3.T then
  (Z04 a1 a0 true)
  else
  Z04 a1 a0 (decide (a0 = r3.S)))
  else
  Z04 a1 a0 (decide (a0 = r3.S)))
  else
  Z04 a1 a0 false)
  else
  some (.inr (.inr ()))
def Z6e (a0 : Bool) : Option (Bool) :=
  some a0
def Z3y (a0 : Bool) : Option (Bool) :=
  if a0 = true then
  (Option.bind Z5q fun a1 =>
  Z6e a1)
  else
  Z6e false
def Z3k (r3 : Net) (a0 : List Bool) (a1 : List Int) (a2 : Bool) : Option (Bool) :=
  if a2 = true then
  (Option.bind (Z47 r3 a1 a0) fun a3 =>
  Z3y a3)
  else
  Z3y false
def Z5c (r3 : Net) (a0 : List Bool) (a2 : Answer) (a1 : List Int) (a3 : Int) (a4 : Bool) : Option (Bool) :=
  if a4 = true then
  (Z3k r3 a0 a1 (decide (a3 = a2.Value)))
  else
  Z3k r3 a0 a1 false
def Z9b (r3 : Net) (a4 : List Int) (a1 : List Bool) (a2 : Answer) : Option (Bool) :=
  Option.bind (Z30 r3 a4) fun (a0, a5) =>
  Option.bind (Z5t r3 a0) fun (a3, a6) =>
  if a5 = 0 then
  (Z5c r3 a1 a2 a0 a3 (decide (a6 = 0)))
  else
  Z5c r3 a1 a2 a0 a3 false
def Z67 (a0 : Bool) (r3 : Net) (a2 : List Int) (a1 : List Bool) (a3 : List Int) (a4 : Answer) (a5 : Bool) : Option (Bool) :=
  if a5 = true then
  (some false)
  else
  Option.bind (Ym (fun s => Z38 a0 r3 a1 a3 s) Yc 0) fun o => match o with | .inl p6_0_0 => (some p6_0_0) | .inr () => (Z9b r3 a2 a1 a4)
def Z55 (a0 : Bool) (r3 : Net) (a2 : List Int) (a3 : List Bool) (a1 : List Int) (a4 : Answer) (a5 : Bool) : Option (Bool) :=
  if a5 = true then
  (Z67 a0 r3 a2 a3 a1 a4 true)
  else
  Z67 a0 r3 a2 a3 a1 a4 (decide ((a1.length : Int) ≠ r3.N))
def Z5g (a0 : Bool) (r3 : Net) (a2 : List Int) (a1 : List Bool) (a3 : List Int) (a4 : Answer) (a5 : Bool) : Option (Bool) :=
  if a5 = true then
  (Z55 a0 r3 a2 a1 a3 a4 true)
  else
  Z55 a0 r3 a2 a1 a3 a4 (decide ((a1.length : Int) ≠ r3.N))
def Z5r (a0 : Bool) (r3 : Net) (a1 : List Int) (a2 : List Bool) (a3 : List Int) (a4 : Answer) (a5 : Int) (a6 : Bool) : Option (Bool) :=
  if a6 = true then
  (Z5g a0 r3 a1 a2 a3 a4 true)
  else
  Z5g a0 r3 a1 a2 a3 a4 (decide (a5 ≠ 0))
def Z2l (a0 : Bool) (r3 : Net) (a1 : List Int) : Option (Bool) :=
  Option.bind (Z1u r3 a1) fun (a2, a6) =>
  Option.bind (Ll r3 a1) fun (a3, a7) =>
  Option.bind (Z4k r3) fun (a4, a8, a5) =>
  if a6 ≠ 0 then
  (Z5r a0 r3 a1 a2 a3 a4 a5 true)
  else
  Z5r a0 r3 a1 a2 a3 a4 a5 (decide (a7 ≠ 0))
def Z92 (n0 : Net) (a1 : List Int) (a0 : Bool) : Option (Bool) :=
  Option.bind (Z4p n0 a1) fun (r3, r4, r5) =>
  if (!r5) = true then
  (some false)
  else
  if a0 = true then
  (Option.bind (Rx r3) fun (a2, a8) =>
  Option.bind (Rp a2) fun a5 =>
  Option.bind (Z29 a2 a5) fun (a3, a6) =>
  Option.bind (Z0b a2 a3.Res (r3.Arcs.length : Int)) fun (a4, a7) =>
  Z2l a0 r3 a4)
  else
  Z2l a0 r3 r4
end Go.Acq
namespace Go.Acq
open Go Go.RowKit
section rules
variable {C : Cx} {ops : Array Oper} {Q : Exit → Act → World → Prop} {l : List Nat} {E : Env} {H R : Heap} {i d : Nat} {ty : TypeId} {Zm : String} {af : Array Edge} {g : Option (Nat × Bool)}
theorem Zq {c : Code} {E' : Env} (hE : AllF E' E) (h : T C c Q E' H) : T C c Q E H := T.weak h hE.sub (Zh _)
end rules
end Go.Acq
namespace Go.Acq
open Go Go.RowKit
section rules
variable {C : Cx} {ops : Array Oper} {Q : Exit → Act → World → Prop} {l : List Nat} {E : Env} {H R : Heap} {i d : Nat} {ty : TypeId} {Zm : String} {af : Array Edge} {g : Option (Nat × Bool)}
end rules
end Go.Acq
namespace Go.Acq
open Go Go.RowKit Go.ChangeShapes Go.WideShapes Go.Deep Go.Joins
section
variable {H : Type} {enc : TypeId × Value → H} {P : Program} {w : World} {base : Nat} {spare : Nat → Bool} {held : Bool}
theorem Zic {t e : TypeId} {fs : Array Field} {fuel : Nat} {cs : List Value} {x : DataW H × List MemPlace} (ht : P.underlying t = some (.slice e)) (he : P.underlying e = some (.struct fs))
    (hone : oneCellFields P fs = true) (hC : P.cellsOf e = fs.size) (h : DataW.trod enc P w base spare held fuel t cs = some x) :
    (cs = [.slice none 0 0] ∧ x = (.nil, [])) ∨
    ∃ (a : Addr) (len cap m : Nat) (D : Nat → DataW H) (Pl : Nat → List MemPlace), cs = [.slice (some a) len cap] ∧ base ≤ a.block ∧ len ≤ cap ∧ cap ≤ maxLen ∧ m = (if spare a.block then cap else len) ∧
      x = (.slice ((List.range len).map D) ((List.range (m - len)).map fun j => D (len + j)), MemPlace.row a (m * fs.size) ++ (List.range m).flatMap Pl) ∧
      ∀ i, i < m → ∃ (ys : List (DataW H × List MemPlace)) (n : Nat), D i = .agg (ys.map (·.1)) ∧ Pl i = ys.flatMap (·.2) ∧ ys.length = fs.size ∧
        ∀ (j : Nat) (f : Field), fs[j]? = some f → ∃ (v : Value) (y : DataW H × List MemPlace), w.cell? (a.add (i * fs.size + j)) = some v ∧ ys[j]? = some y ∧ DataW.trod enc P w base spare held n f.type [v] = some y := by
  rcases open_slice ht h with h0 | ⟨a, len, cap, m, n, D, Pl, hcs, hb, hl, hm, hmm, hx, hi⟩
  · exact .inl h0
  · refine .inr ⟨a, len, cap, m, D, Pl, hcs, hb, hl, hm, hmm, by rw [hC] at hx; exact hx, fun i him => ?_⟩
    obtain ⟨cs', hc, ht'⟩ := hi i him
    rw [hC] at hc
    obtain ⟨ys, n', hn', hy, hlen, hyl, hf⟩ := DataW.trod_struct he ht'
    obtain ⟨_, hcl, hat⟩ := World.cells?_some hc
    simp only [Prod.mk.injEq] at hy
    refine ⟨ys, n', hy.1, hy.2, hyl, fun j f hj => ?_⟩
    obtain ⟨ho, hk⟩ := hone_of hone j f hj
    have hjl : j < fs.size := (Array.getElem?_eq_some_iff.1 hj).1
    have hcell := hat j hjl
    have hv : cs'[j]? = some (cs'[j]'(by omega)) := List.getElem?_eq_getElem (by omega)
    have h1 := hf j f hj
    rw [ho, hk] at h1
    have hone' : (cs'.drop j).take 1 = [cs'[j]'(by omega)] := by
      rw [List.drop_eq_getElem_cons (by omega)]
      rfl
    rw [hone'] at h1
    have hys : ys[j]? = some (ys[j]'(by omega)) := List.getElem?_eq_getElem (by omega)
    refine ⟨_, _, ?_, hys, h1.trans hys⟩
    rw [← Go.Deep.add_add, hcell, hv]
end
section
variable {H : Type} {enc : TypeId × Value → H} {P : Program} {w : World} {base : Nat} {spare : Nat → Bool} {held : Bool}
def Ru (x : Int) : Prop := -9223372036854775808 ≤ x ∧ x ≤ 9223372036854775807
theorem Zbe {x : Int} (h : (Lit.int .i64 x).wf = true) : Ru x := by
 unfold Ru; simp [Lit.wf, IntKind.min, IntKind.max, IntKind.signed, IntKind.bits] at h; omega
theorem open_arcs {t e : TypeId} {fs : Array Field} {f0 f1 f2 : Field} {fuel : Nat} {v : Value} {x : DataW H × List MemPlace} (ht : P.underlying t = some (.slice e)) (he : P.underlying e = some (.struct fs)) (hfs : fs = #[f0, f1, f2])
    (hone : oneCellFields P fs = true) (hC : P.cellsOf e = fs.size) (k0 : P.underlying f0.type = some (.int .i64)) (k1 : P.underlying f1.type = some (.int .i64)) (k2 : P.underlying f2.type = some (.int .i64))
    (h : DataW.trod enc P w base spare held fuel t [v] = some x) :
    ∃ (b : Option Addr) (n c : Nat) (al : List Arc), v = .slice b n c ∧ RO w Xa 3 b n al ∧ n ≤ c ∧ n ≤ 9223372036854775807 ∧ ∀ a, a ∈ al → Ru a.fr ∧ Ru a.to ∧ Ru a.cap := by
  rcases Zic ht he hone hC h with ⟨hcs, _⟩ | ⟨a, l, c, m, D, Pl, hcs, _, hl, hm, hmm, _, hi⟩
  · injection hcs with h1 _
    exact ⟨none, 0, 0, [], h1, Zc3 w (fun _ => rfl), Nat.le_refl _, by omega, fun y hy => by cases hy⟩
  · injection hcs with h1 _
    have hlm : l ≤ m := by rw [hmm]; split <;> omega
    have key : ∀ i, i < l → ∃ q : Arc, w.cell? (a.add (i * 3 + 0)) = some (.int .i64 q.fr) ∧ w.cell? (a.add (i * 3 + 1)) = some (.int .i64 q.to) ∧ w.cell? (a.add (i * 3 + 2)) = some (.int .i64 q.cap) ∧ Ru q.fr ∧ Ru q.to ∧ Ru q.cap := by
      intro i hil
      obtain ⟨ys, n, _, _, _, hf⟩ := hi i (by omega)
      subst hfs
      obtain ⟨v0, y0, c0, _, t0⟩ := hf 0 f0 rfl
      obtain ⟨v1, y1, c1, _, t1⟩ := hf 1 f1 rfl
      obtain ⟨v2, y2, c2, _, t2⟩ := hf 2 f2 rfl
      obtain ⟨n0, e0, _, w0⟩ := DataW.trod_int k0 t0
      obtain ⟨n1, e1, _, w1⟩ := DataW.trod_int k1 t1
      obtain ⟨n2, e2, _, w2⟩ := DataW.trod_int k2 t2
      injection e0 with e0 _; injection e1 with e1 _; injection e2 with e2 _
      subst e0; subst e1; subst e2
      exact ⟨⟨n0, n1, n2⟩, c0, c1, c2, Zbe w0, Zbe w1, Zbe w2⟩
    let g : Nat → Arc := fun i => if hil : i < l then Classical.choose (key i hil) else default
    have hg : ∀ i (hil : i < l), g i = Classical.choose (key i hil) := fun i hil => by simp only [g, dif_pos hil]
    refine ⟨some a, l, c, (List.range l).map g, h1, ⟨by simp, (fun e => by cases e), arcC_len, fun o q ho hq x hx => ?_⟩, hl, by unfold maxLen at hm; omega, fun y hy => ?_⟩
    · simp only [List.length_map, List.length_range] at ho
      have hs := Classical.choose_spec (key o ho)
      rw [← hg o ho] at hs
      have hxo : x = g o := by
        rw [List.getElem?_map, List.getElem?_range ho] at hx
        simpa using hx.symm
      subst hxo
      rcases (show q = 0 ∨ q = 1 ∨ q = 2 by omega) with rfl | rfl | rfl
      · exact hs.1
      · exact hs.2.1
      · exact hs.2.2.1
    · obtain ⟨i, hil, rfl⟩ := List.mem_map.1 hy
      have hil := List.mem_range.1 hil
      have hs := Classical.choose_spec (key i hil)
      rw [← hg i hil] at hs
      exact hs.2.2.2
end
end Go.Acq
namespace Go.Acq
open Go Go.RowKit Go.ChangeShapes Go.WideShapes Go.Deep Go.Joins
theorem i64ok_wf {x : Int} (h : (Lit.int .i64 x).wf = true) : i64ok x := by simp [Lit.wf, IntKind.min, IntKind.max, IntKind.signed, IntKind.bits] at h; omega
theorem u8ok_wf {x : Int} (h : (Lit.int .u8 x).wf = true) : u8ok x := by simp [Lit.wf, IntKind.min, IntKind.max, IntKind.signed, IntKind.bits] at h; omega
section
variable {H : Type} {enc : TypeId × Value → H} {P : Program} {w : World} {base : Nat} {spare : Nat → Bool} {held : Bool}
theorem open_row {t e : TypeId} {k : IntKind} {fuel : Nat} {v : Value} {x : DataW H × List MemPlace} (ht : P.underlying t = some (.slice e)) (he : P.underlying e = some (.int k)) (hc : P.cellsOf e = 1)
    (h : DataW.trod enc P w base spare held fuel t [v] = some x) :
    ∃ (b : Option Addr) (n c : Nat) (xs : List Int), v = .slice b n c ∧ RO w (intC k) 1 b n xs ∧ n ≤ c ∧ n ≤ 9223372036854775807 ∧ ∀ y, y ∈ xs → (Lit.int k y).wf = true := by
  rcases open_ints ht he hc h with ⟨hcs, _⟩ | ⟨a, l, c, zs, hcs, _, hl, hm, hz, _, hcell, hwz⟩
  · injection hcs with h1 _
    exact ⟨none, 0, 0, [], h1, Zc3 w (fun _ => rfl), Nat.le_refl _, by omega, fun y hy => by cases hy⟩
  · injection hcs with h1 _
    have hlz : l ≤ zs.length := by rw [hz]; split <;> omega
    refine ⟨some a, l, c, zs.take l, h1, ⟨by rw [List.length_take]; omega, (fun e => by cases e), fun _ => rfl, fun o q ho hq x hx => ?_⟩, hl, by unfold maxLen at hm; omega, fun y hy => hwz y (List.mem_of_mem_take hy)⟩
    rw [List.length_take] at ho
    have hq0 : q = 0 := by omega
    subst hq0
    rw [List.getElem?_take, if_pos (by omega)] at hx
    have := hcell o (by omega)
    rw [List.getD_eq_getElem?_getD, hx] at this
    simpa [ea, intC] using this
end
end Go.Acq
namespace Go.Acq
open Go Go.RowKit
abbrev SM := Option Addr × Nat × Nat
def We (m : SM) : List Value := [.slice m.1 m.2.1 m.2.2]
structure RW {α : Type} (w : World) (M : List Nat) (f : α → List Value) (s : Nat) (base : Option Addr) (n c : Nat) (ms : List SM) (xss : List (List α)) : Prop where
  rs : RS w M We 1 base n c ms
  eqlen : ms.length = xss.length
  row : ∀ i, i < ms.length → RS w M f s (ms.getD i default).1 (ms.getD i default).2.1 (ms.getD i default).2.2 (xss.getD i [])
section
variable {α : Type} {w w0 : World} {M M' : List Nat} {f : α → List Value} {s n c : Nat} {base : Option Addr} {ms : List SM} {xss : List (List α)} {H Hm R : Heap}
theorem RW.len (h : RW w M f s base n c ms xss) : xss.length = n := by rw [← h.eqlen]; exact h.rs.len
theorem RW.cap (h : RW w M f s base n c ms xss) : n ≤ c := h.rs.cap
theorem RW.nil (w : World) (M : List Nat) : RW w M f s none 0 0 [] ([] : List (List α)) := ⟨RS.nil _ _ (fun _ => rfl), rfl, fun i hi => by simp at hi⟩
theorem RW.mono (h : RW w0 M f s base n c ms xss) (hi : Inv w0 M w H) : RW w [] f s base n c ms xss := ⟨h.rs.mono hi, h.eqlen, fun i hl => (h.row i hl).mono hi⟩
theorem RW.monoM (h : RW w0 M f s base n c ms xss) (hs : 0 < s) (hi : Inv w0 M w H) (hp : List.Perm H (Hm ++ R)) (hM : Hm.filterMap (·.1) = M') : RW w M' f s base n c ms xss :=
 ⟨h.rs.monoM (by decide) hi hp hM, h.eqlen, fun i hl => (h.row i hl).monoM hs hi hp hM⟩
theorem Zfw {α : Type} {xs : List α} {d : α} {i k : Nat} (h : i < k) : (xs.take k).getD i d = xs.getD i d := by
 simp [List.getD_eq_getElem?_getD, List.getElem?_take, h]
theorem Zf1 {α : Type} {xs : List α} {d : α} {i k : Nat} : (xs.drop k).getD i d = xs.getD (k + i) d := by
 simp [List.getD_eq_getElem?_getD]
theorem RW.take (h : RW w M f s base n c ms xss) {p : Int} (hp : 0 ≤ p ∧ p ≤ (xss.length : Int)) : RW w M f s base p.toNat c (ms.take p.toNat) (xss.take p.toNat) :=
 ⟨h.rs.take (by rw [h.eqlen]; exact hp), by rw [List.length_take, List.length_take, h.eqlen], fun i hi => by
  rw [List.length_take] at hi
  rw [Zfw (by omega), Zfw (by omega)]; exact h.row i (by omega)⟩
theorem RW.drop (h : RW w M f s base n c ms xss) {p : Int} (hp : 0 ≤ p ∧ p ≤ (xss.length : Int)) : RW w M f s (Jv base p.toNat c 1) (n - p.toNat) (c - p.toNat) (ms.drop p.toNat) (xss.drop p.toNat) :=
 ⟨h.rs.drop (by rw [h.eqlen]; exact hp), by rw [List.length_drop, List.length_drop, h.eqlen], fun i hi => by
  rw [List.length_drop] at hi
  rw [Zf1, Zf1]; exact h.row _ (by omega)⟩
theorem RW.at (h : RW w M f s base n c ms xss) {p : Int} (hp : inb p xss.length) : RS w M f s (ms.getD p.toNat default).1 (ms.getD p.toNat default).2.1 (ms.getD p.toNat default).2.2 (xss.getD p.toNat []) :=
 h.row _ (by rw [h.eqlen]; exact Uw hp)
theorem RW.inb (h : RW w M f s base n c ms xss) {p : Int} (hp : inb p xss.length) : inb p ms.length := by rw [h.eqlen]; exact hp
end
section rules
variable {C : Cx} {ops : Array Oper} {Q : Exit → Act → World → Prop} {l : List Nat} {E : Env} {H R : Heap} {i d : Nat} {ty : TypeId} {Zm : String} {af : Array Edge} {g : Option (Nat × Bool)}
theorem Za3 {α : Type} {f : α → List Value} {s : Nat} {t : TypeId} {x : Operand} {base : Option Addr} {n c : Nat} {p : Int} {ms : List SM} {xss : List (List α)} (hr : RW C.w0 C.M f s base n c ms xss) (hp : inb p xss.length) (q0_ : ops[i]? = some ⟨some d, .load t x, ty, Zm, af, g⟩ ∧ Yd ops E g = true ∧ Nat.ble (d + 1) C.n = true ∧ ev E x = some (.pointer (some (ea base (p.toNat * 1))))) (hT : Vc C.P t = true)
    (kk : TO C ops Q l ((d, .slice (ms.getD p.toNat default).1 (ms.getD p.toNat default).2.1 (ms.getD p.toNat default).2.2) :: E) H) : TO C ops Q (i :: l) E H := have ⟨ho, hg, hd, hx⟩ := q0_;
  TO.load ho hg hd hx hT (fun w hi => by
    have := (hr.rs.ro.monoM hr.rs.far hi).at default (o := p.toNat) (c := 0) (Uw (hr.inb hp)) (by omega)
    simpa [We] using this) kk
end rules
open Go.ChangeShapes Go.WideShapes Go.Deep Go.Joins
section
variable {H : Type} {enc : TypeId × Value → H} {P : Program} {w : World} {base : Nat} {spare : Nat → Bool} {held : Bool}
end
end Go.Acq
namespace Go.Acq
open Go Go.RowKit
theorem X.obEd {C : Cx} {ops : Array Oper} {Q : Exit → Act → World → Prop} {S : List Sp} {HR : Nat → List Value → Heap → Prop} {W Es B B' : Env} {Hc Hx : Heap} {i k d : Nat} {v : Value} {vl : List Value} {F : Value → List Value} {De hb' H' : Heap} (hs : Wb ops i = some d) (hr : Kb S i vl v []) (hh : HR k (F v) hb')
    (hH : Pick (hb' ++ (Hc ++ (De ++ Hx))) H') (hB : B = B') :
    X C (fun e a w => match e with
      | .normal => ∃ v hb', Kb S i vl v [] ∧ HR k (F v) hb' ∧ Fits C.n C.D (Gb (Wb ops i) v (B ++ (W ++ Es))) a ∧ Inv C.w0 C.M w (hb' ++ (Hc ++ (De ++ Hx)))
      | e => Q e a w) .normal ((d, v) :: (B' ++ (W ++ Es))) H' := by
  subst hB
  exact fun _ _ hf hi => ⟨v, hb', hr, hh, by rw [hs]; exact hf, hi.pick hH⟩
end Go.Acq
namespace Go.Acq
open Go Go.RowKit
theorem arr_cut {α : Type} (f : α → List Value) (xs : List α) (j : List Value) (k : Nat) : arr f xs j = arr f (xs.take k) ((xs.drop k).flatMap f ++ j) := by
 simp only [arr]
 rw [← List.append_assoc, ← List.flatMap_append, List.take_append_drop]
theorem X.recut {C : Cx} {Q : Exit → Act → World → Prop} {e : Exit} {E : Env} {H R : Heap} {α : Type} {f : α → List Value} {ob : Option Nat} {xs : List α} {j : List Value} {T : TypeId} {fr : Nat × Nat} (k : Nat) (hT : Take (ob, .cells (arr f xs j).toArray T fr) H R)
    (h : X C Q e E ((ob, .cells (arr f (xs.take k) ((xs.drop k).flatMap f ++ j)).toArray T fr) :: R)) : X C Q e E H := fun a w hf hi => h a w hf (by rw [← arr_cut]; exact hi.perm hT)
theorem recutJ {α : Type} {f : α → List Value} {s n c : Nat} {xs : List α} {j : List Value} {p : Int} (hf : ∀ x, (f x).length = s) (h : 0 ≤ p ∧ p ≤ (xs.length : Int)) (hn : xs.length = n) (hc : n ≤ c) (hj : j.length = (c - n) * s) :
    ((xs.drop p.toNat).flatMap f ++ j).length = (c - p.toNat) * s := by
  rw [List.length_append, Jh hf, List.length_drop, hj, hn, ← Nat.add_mul]
  congr 1; omega
end Go.Acq
namespace Go.Acq
open Go Go.RowKit Go.ChangeShapes Go.WideShapes Go.Deep Go.Joins
section
variable {H : Type} {enc : TypeId × Value → H} {P : Program} {w : World} {base : Nat} {spare : Nat → Bool} {held : Bool}
end
end Go.Acq
namespace Go.Acq
open Go Go.RowKit
abbrev ids (H : Heap) : List Nat := H.filterMap (·.1)
abbrev mkD (r : Nat) : Deferred := { target := .collected r, args := #[] }
abbrev mkO : Obj := .deferred (some [])
def Gn : List Nat → Heap
  | [] => []
  | r :: ms => (some r, mkO) :: Gn ms
section
variable {w0 w w' w'' : World} {M M' : List Nat} {H H' Hm R : Heap} {b : Nat} {o o' : Obj}
theorem Pick.skip {p : Option Nat × Obj} (h : Pick H' H) : Pick H' (p :: H) := by
 obtain ⟨S, ns, hn, hS⟩ := h
 refine ⟨p :: S, ns, hn, ?_⟩
 rw [List.cons_append]
 exact (List.Perm.cons p hS).trans List.perm_middle.symm
theorem Inv.put (h : Inv w0 M w ((some b, o) :: R)) (o' : Obj) : Inv w0 M (w.putObj b o') ((some b, o') :: R) :=
 h.upd (Take.head _ _) rfl rfl rfl World.putObj_size (World.putObj_heap_same (h.lt (.head _))) (fun _ hk => World.putObj_heap_other hk)
theorem HB.monoM {cs : List Value} (h : HB w0 M b cs) (hne : cs ≠ []) (hi : Inv w0 M w H) (hp : List.Perm H (Hm ++ R)) (hM : Hm.filterMap (·.1) = M') : HB w M' b cs :=
 ⟨fun j v hj => hi.cell_old (h.has j v hj) h.far, fun hm => by
  subst hM
  obtain ⟨o, ho⟩ := Z25 hm
  obtain ⟨v, cs', rfl⟩ := List.exists_cons_of_ne_nil hne
  have h0 := h.has 0 v rfl
  have hb : b < w0.heap.size := by
   unfold World.cell? at h0
   split at h0
   · rename_i he; exact (Array.getElem?_eq_some_iff.1 he).1
   · cases h0
  rcases hi.low b o ((List.Perm.mem_iff hp).2 (List.mem_append_left _ ho)) with hl | hl
  · omega
  · exact h.far hl⟩
end
def YC {S X V : Type} (P : Program) (l : Nat) (enc : V → List Value) (y : S → V → Option (S ⊕ X)) (J : S ⊕ X → Heap → Prop) (w : World) (M : List Nat) : Prop :=
  ∀ (s : S) (v : V) (r : S ⊕ X), y s v = some r → ∀ (w' : World) (Hs : Heap), J (.inl s) Hs → Inv w M w' Hs →
    YieldAt (FW none) 0 P l (enc v).toArray w' fun e w'' => ∃ Hs', J r Hs' ∧ e = .returned (.bool r.isLeft) ∧ Inv w' (ids Hs) w'' Hs'
section rules
variable {C : Cx} {ops : Array Oper} {Q : Exit → Act → World → Prop} {l : List Nat} {E : Env} {H R : Heap} {i d : Nat} {ty : TypeId} {Zm : String} {af : Array Edge} {g : Option (Nat × Bool)}
theorem TO.yield {S X V : Type} {lp : Nat} {enc : V → List Value} {y : S → V → Option (S ⊕ X)} {J : S ⊕ X → Heap → Prop} {x : Operand} {xs : Array Operand} {at' : Array TypeId} {t r : S ⊕ X} {v : V} {Ho Hs : Heap}
    (hρ : C.ρ = none) (hY : YC C.P lp enc y J C.w0 C.M) (hr : Z42 y t v = some r) (hJ : J t Hs)
    (q0_ : ops[i]? = some ⟨some d, .call ⟨.value x, xs, at'⟩, ty, Zm, af, g⟩ ∧ Yd ops E g = true ∧ Nat.ble (d + 1) C.n = true ∧ ev E x = some (.func (.yield lp) #[] #[]) ∧ Jn E xs.toList = some (enc v) ∧ H = Ho ++ Hs)
    (kk : ∀ Hs', J r Hs' → TO C ops Q l ((d, .bool r.isLeft) :: E) (Ho ++ Hs')) : TO C ops Q (i :: l) E H := by
  obtain ⟨ho, hg, hd, hx, hxs, hH⟩ := q0_
  obtain ⟨s, rfl, hys⟩ := Zjr hr
  refine Z10 ho hg (by simp) fun a w hf hi => ?_
  subst hH
  have hp : List.Perm (Ho ++ Hs) (Hs ++ Ho) := List.perm_append_comm
  have hi' := hi.perm hp
  obtain ⟨fn, tmps, assign, body, hrun, hround⟩ := hY s v r hys w Hs hJ hi'.left
  have e1 : xs.map a.eval = (enc v).toArray := by apply Array.ext'; simpa using Z0a hf hxs
  have : (execOp a.eval ⟨some d, .call ⟨.value x, xs, at'⟩, ty, Zm, af, g⟩).run C.P w = .ok (.round lp fn tmps assign body) w := by
    simp [execOp, resolve, Deferred.ofValue, invoke, hf.ev hx, e1, hrun]
  rw [this]
  rw [Oper.uponIn_round]
  rw [hρ]
  refine ⟨by simp [FW], hround.mono ?_⟩
  rintro e w' ⟨Hs', hJ', rfl, hi2⟩
  have hk := kk Hs' hJ'
  unfold TO at hk
  rw [hρ] at hk
  exact hk _ _ (hf.put hd _) (((hi'.join (List.Perm.refl _) (fun m hm => hm) hi2)).perm List.perm_append_comm)
end rules
abbrev recO (fn : FuncId) (tmps : Array Value) (ps : Array Tmp) (assign body : Code) (df : Nat) (st : LoopState) (pd : Option Code) : Obj :=
  .loop { state := st, pending := pd, fn, tmps, params := ps, assign, body, defers := df }
def RQ {S X : Type} (J : S ⊕ X → Heap → Prop) (jmp : X → Code) (r : S ⊕ X) (w0 : World) (M : List Nat) : Exit → Act → World → Prop
  | .normal, _, w => ∃ s Hs, r = .inl s ∧ J (.inl s) Hs ∧ Inv w0 M w Hs
  | .ret, _, w => ∃ x Hs, r = .inr x ∧ jmp x = .ret ∧ J (.inr x) Hs ∧ Inv w0 M w Hs
  | .exit id, _, w => ∃ x Hs, r = .inr x ∧ jmp x = .exit id ∧ J (.inr x) Hs ∧ Inv w0 M w Hs
  | _, _, _ => False
def putPs : List Tmp → List Value → Env → Env
  | [], _, E => E
  | _ :: _, [], E => E
  | p :: ps, v :: vs, E => putPs ps vs ((p, v) :: E)
theorem Zdn {n : Nat} : ∀ {ps : List Tmp} {vs : List Value} {E : Env} {tmps : Array Value} (_ : ps.all (fun p => Nat.ble (p + 1) n) = true), Fits n [] E { tmps, defers := [] } →
    Fits n [] (putPs ps vs E) { tmps := (ps.zip vs).foldl (fun tmps (t, a) => tmps.setIfInBounds t a) tmps, defers := [] }
  | [], _, _, _, _, h => h
  | _ :: _, [], _, _, _, h => h
  | p :: ps, v :: vs, E, tmps, hb, h => by
    have hb' : Nat.ble (p + 1) n = true ∧ (ps.all fun p => Nat.ble (p + 1) n) = true := by simpa only [List.all_cons, Bool.and_eq_true] using hb
    have := h.put hb'.1 v
    exact Zdn (ps := ps) (vs := vs) hb'.2 this
section control
variable {C : Cx} {Q : Exit → Act → World → Prop} {E : Env} {H : Heap}
def AQ (n : Nat) (w0 : World) (M : List Nat) (E1 : Env) (H1 : Heap) : Exit → Act → World → Prop := fun e a w => e = .normal ∧ Fits n [] E1 a ∧ Inv w0 M w H1
theorem Z1q {ρ : Option Nat} {P : Program} {n : Nat} {w0 : World} {M : List Nat} {E1 : Env} {H1 : Heap} (hE : AllF E1 E) (hH : Pick H1 H) : X ⟨P, ρ, n, [], w0, M⟩ (AQ n w0 M E1 H1) .normal E H :=
 fun _ _ hf hi => ⟨rfl, hf.weak hE.sub, hi.pick hH⟩
theorem Gf {ρ : Option Nat} {P : Program} {n : Nat} {D : List Deferred} {S X : Type} {J : S ⊕ X → Heap → Prop} {jmp : X → Code} {r : S ⊕ X} {w0 : World} {M : List Nat} {s : S} {Hs : Heap} (h : some (Sum.inl s) = some r) (hJ : J (.inl s) Hs) (hp : Pick Hs H) :
    Acq.X ⟨P, ρ, n, D, w0, M⟩ (RQ J jmp r w0 M) .normal E H := fun _ _ _ hi => ⟨s, Hs, by injection h with h; exact h.symm, hJ, hi.pick hp⟩
theorem Z6w {ρ : Option Nat} {P : Program} {n : Nat} {D : List Deferred} {S X : Type} {J : S ⊕ X → Heap → Prop} {jmp : X → Code} {r : S ⊕ X} {w0 : World} {M : List Nat} {x : X} {Hs : Heap} (h : some (Sum.inr x) = some r) (hj : jmp x = .ret) (hJ : J (.inr x) Hs) (hp : Pick Hs H) :
    Acq.X ⟨P, ρ, n, D, w0, M⟩ (RQ J jmp r w0 M) .ret E H := fun _ _ _ hi => ⟨x, Hs, by injection h with h; exact h.symm, hj, hJ, hi.pick hp⟩
theorem T.rangeFunc {S X V : Type} (hρ : C.ρ = none) {gop : Operand} {ps : Array Tmp} {assign body : Code} {f : FuncId} {fs cs : Array Value} (hF : Ys C.P f = true) (q0_ : ev E gop = some (.func (.func f) fs cs) ∧ ps.toList.all (fun p => Nat.ble (p + 1) C.n) = true) (enc : V → List Value) (henc : ∀ v, (enc v).length = ps.size)
    (y : S → V → Option (S ⊕ X)) (J : S ⊕ X → Heap → Prop) (jmp : X → Code) (s0 : S) (t : S ⊕ X) (Hs0 R : Heap) (hJ : J (.inl s0) Hs0) (hH : Pick (Hs0 ++ R) H)
    (it : ∀ (lp : Nat) (w : World) (J' : S ⊕ X → Heap → Prop) (H0 : Heap), J' (.inl s0) H0 → Inv w (ids H0) w H0 → YC C.P lp enc y J' w (ids H0) → ∀ lo, Inv C.w0 C.M w (((some lp, lo) :: Hs0) ++ R) → H0 = (some lp, lo) :: Hs0 →
      Fnc C.P f (fs ++ #[.func (.yield lp) #[] #[]] ++ cs) w (ids H0) (fun v N => v = .tuple #[] ∧ J' t N))
    (round : ∀ (lp : Nat) (w' : World) (s : S) (v : V) (r : S ⊕ X) (Hs : Heap), y s v = some r → J (.inl s) Hs → Inv w' (ids Hs) w' Hs → Inv C.w0 C.M w' (Hs ++ R) →
      ∃ (E1 : Env) (H1 : Heap), T ⟨C.P, some lp, C.n, [], w', ids Hs⟩ assign (AQ C.n w' (ids Hs) E1 H1) (putPs ps.toList (enc v) E) Hs ∧
        ∀ w2, Inv w2 (ids H1) w2 H1 → Inv C.w0 C.M w2 (H1 ++ R) → T ⟨C.P, some lp, C.n, [], w2, ids H1⟩ body (RQ J jmp r w2 (ids H1)) E1 H1)
    (next : ∀ s, t = .inl s → ∀ rr Hs, J (.inl s) Hs → Acq.X { C with D := mkD rr :: C.D } Q .normal E (Hs ++ ((some rr, mkO) :: R)))
    (exit : ∀ x, t = .inr x → ∀ rr Hs, J (.inr x) Hs → T { C with D := mkD rr :: C.D } (jmp x) Q E (Hs ++ ((some rr, mkO) :: R))) :
    T C (.rangeFunc gop ps assign body) Q E H := by
  obtain ⟨hg, hps⟩ := q0_
  intro a w hf hi0
  have hi := hi0.pick hH
  refine wpIn_rangeFunc fun fn _ => ?_
  have hFW : (FW C.ρ).round = none := by rw [hρ]; rfl
  rw [hFW]
  obtain ⟨rr, hrr⟩ : ∃ rr, w.heap.size = rr := ⟨_, rfl⟩
  obtain ⟨wa, hwa⟩ : ∃ wa, w.alloc mkO = wa := ⟨_, rfl⟩
  obtain ⟨lp, hlp⟩ : ∃ lp, wa.heap.size = lp := ⟨_, rfl⟩
  obtain ⟨lo, hlo⟩ : ∃ lo, recO fn a.tmps ps assign body rr .ready none = lo := ⟨_, rfl⟩
  obtain ⟨wb, hwb⟩ : ∃ wb, wa.alloc lo = wb := ⟨_, rfl⟩
  have hia : Inv C.w0 C.M wa ((some rr, mkO) :: (Hs0 ++ R)) := by rw [← hwa, ← hrr]; exact hi.alloc mkO
  have hib : Inv C.w0 C.M wb ((some lp, lo) :: (some rr, mkO) :: (Hs0 ++ R)) := by rw [← hwb, ← hlp]; exact hia.alloc lo
  have hlp2 : w.heap.size + 1 = lp := by rw [← hlp, ← hwa]; exact (World.size_alloc ..).symm
  have hib' : Inv C.w0 C.M wb (((some lp, lo) :: Hs0) ++ ((some rr, mkO) :: R)) := hib.perm (by
    rw [List.cons_append]
    exact List.Perm.cons _ List.perm_middle.symm)
  refine ⟨lp, [mkD rr], wb, { target := .fn (.func f) cs, args := fs.push (.func (.yield lp) #[] #[]) }, wb, f, fs ++ #[.func (.yield lp) #[] #[]] ++ cs, wb, ?_, ?_, fun _ _ => trivial, ?_, by simp [FW], ?_⟩
  · rw [run_enterLoop_outer, ← hwb, ← hlo, ← hwa, ← hlp2, ← hrr]
  · have h2 : a.eval gop = .func (.func f) fs cs := hf.ev hg
    have h3 : ∀ v, a.eval (.const v) = v := fun _ => rfl
    simp [resolve, Deferred.ofValue, h2, h3]
  · show (callFunc f (fs.push (.func (.yield lp) #[] #[]) ++ cs)).run C.P wb = _
    rw [Array.push_eq_append]
    exact Z49 hF _ _
  · refine callsIn_FW.2 ?_
    have hlrec : ∀ {w' : World} {M'' : List Nat} {o : Obj} {Hs : Heap}, Inv wb M'' w' ((some lp, o) :: Hs) → w'.heap[lp]? = some o := fun h => h.own lp _ (.head _)
    have hcall := it lp wb (fun r Hx => ∃ Hs, Hx = (some lp, recO fn a.tmps ps assign body rr (match r with | .inl _ => LoopState.ready | .inr _ => LoopState.done) (match r with | .inl _ => none | .inr x => some (jmp x))) :: Hs ∧ J r Hs) ((some lp, lo) :: Hs0)
      ⟨Hs0, by rw [← hlo], hJ⟩ (hib'.left.self (Zh _) rfl) ?_ lo (hib'.pick (by
        refine Z4t (S := [(some rr, mkO)]) ?_
        rw [List.append_assoc]
        exact List.Perm.append_left _ (List.perm_append_singleton _ _).symm)) rfl
    · refine Calls.mono hcall ?_
      rintro e w3 ⟨v, N, ⟨rfl, Hs3, rfl, hJ3⟩, rfl, hi3⟩
      have hj3 := hib'.join (M' := ids ((some lp, lo) :: Hs0)) (List.Perm.refl _) (fun m hm => hm) hi3
      have hl3 := hj3.own lp _ (.head _)
      have hput := hj3.put (recO fn a.tmps ps assign body rr .exhausted (match t with | .inl _ => none | .inr x => some (jmp x)))
      have hfa : Fits C.n (mkD rr :: C.D) E { a with defers := [mkD rr] ++ a.defers } := ⟨hf.size, by simp [hf.defers], hf.get⟩
      have hpk : Pick (Hs3 ++ ((some rr, mkO) :: R)) ((some lp, recO fn a.tmps ps assign body rr .exhausted (match t with | .inl _ => none | .inr x => some (jmp x))) :: (Hs3 ++ ((some rr, mkO) :: R))) := Pick.skip (Zh _)
      cases t with
      | inl s =>
        refine ⟨none, _, run_endLoop hl3 (by simp), ?_⟩
        exact next s rfl rr Hs3 hJ3 _ _ hfa (hput.pick hpk)
      | inr x =>
        refine ⟨some (jmp x), _, run_endLoop hl3 (by simp), ?_⟩
        exact exit x rfl rr Hs3 hJ3 _ _ hfa (hput.pick hpk)
    · rintro s v r hys w' Hx ⟨Hs, rfl, hJs⟩ hi'
      have hlw := hlrec hi'
      have hout := hib'.join (M' := ids ((some lp, lo) :: Hs0)) (List.Perm.refl _) (fun m hm => hm) hi'
      have hself := hi'.self (Hm := Hs) (Pick.skip (Zh _)) rfl
      have houtH : Inv C.w0 C.M w' (Hs ++ R) := hout.pick (by
        refine Pick.skip ?_
        refine Z4t (S := [(some rr, mkO)]) ?_
        rw [List.append_assoc]
        exact List.Perm.append_left _ (List.perm_append_singleton _ _).symm)
      obtain ⟨E1, H1, hasg, hbody⟩ := round lp w' s v r Hs hys hJs hself houtH
      refine ⟨_, _, _, _, run_yield hlw (by simp [henc]), ?_⟩
      refine roundIn_of_wpIn trivial ?_
      have hf0 : Fits C.n [] E { tmps := a.tmps, defers := [] } := ⟨hf.size, rfl, hf.get⟩
      have hf1 := Zdn (vs := enc v) hps hf0
      have hw0 := hasg _ w' hf1 hself
      have hrw : (ps.zip (enc v).toArray).foldl (fun tmps (t, a) => tmps.setIfInBounds t a) a.tmps = (ps.toList.zip (enc v)).foldl (fun tmps (t, a) => tmps.setIfInBounds t a) a.tmps := by
        rw [← Array.foldl_toList]; simp
      rw [hrw]
      refine wpIn_mono (F := FW (some lp)) hw0 ?_
      rintro e a1 w1 ⟨rfl, hfa, hia1⟩
      have hall := (hi'.self (Zh _) rfl)
      have hall1 := hall.join (Hm := Hs) (R := [(some lp, recO fn a.tmps ps assign body rr .ready none)]) (M' := ids Hs) ((List.perm_append_singleton _ _).symm) (fun m hm => hm) hia1
      have hall1 := hall1.perm (List.perm_append_singleton _ _)
      have hl1 := hall1.own lp _ (.head _)
      refine ⟨_, run_beginRound hl1 rfl, ?_⟩
      have hb1 := hall1.put (recO fn a.tmps ps assign body rr .busy none)
      have hout1 := hout.join (M' := ids ((some lp, recO fn a.tmps ps assign body rr .ready none) :: Hs)) (List.Perm.refl _) (fun m hm => hm) hall1
      have hout2 := hout1.put (recO fn a.tmps ps assign body rr .busy none)
      have hs2 := hb1.self (Hm := H1) (Pick.skip (Zh _)) rfl
      have hwp := hbody _ hs2 (hout2.pick (by
        refine Pick.skip ?_
        refine Z4t (S := [(some rr, mkO)]) ?_
        rw [List.append_assoc]
        exact List.Perm.append_left _ (List.perm_append_singleton _ _).symm)) a1 _ hfa hs2
      refine wpIn_mono (F := FW (some lp)) hwp ?_
      intro e a3 w3 hq
      have fin : ∀ (Hs' : Heap), Inv (w1.putObj lp (recO fn a.tmps ps assign body rr .busy none)) (ids H1) w3 Hs' → w3.heap[lp]? = some (recO fn a.tmps ps assign body rr .busy none) ∧
          ∀ o, Inv w' (ids ((some lp, recO fn a.tmps ps assign body rr .ready none) :: Hs)) (w3.putObj lp o) ((some lp, o) :: Hs') := by
        intro Hs' h
        have h2 := hb1.join (Hm := H1) (R := [(some lp, recO fn a.tmps ps assign body rr .busy none)]) (M' := ids H1) ((List.perm_append_singleton _ _).symm) (fun m hm => hm) h
        have h2 := h2.perm (List.perm_append_singleton _ _)
        exact ⟨h2.own lp _ (.head _), fun o => h2.put o⟩
      cases e with
      | normal =>
        obtain ⟨s', Hs', rfl, hJ', hi3⟩ := hq
        obtain ⟨h3, h4⟩ := fin Hs' hi3
        exact ⟨_, _, run_endRound none h3, _, ⟨Hs', rfl, hJ'⟩, rfl, h4 _⟩
      | ret =>
        obtain ⟨x, Hs', rfl, hj, hJ', hi3⟩ := hq
        obtain ⟨h3, h4⟩ := fin Hs' hi3
        refine ⟨_, _, run_endRound (some .ret) h3, _, ⟨Hs', rfl, hJ'⟩, rfl, ?_⟩
        simp only [hj]; exact h4 _
      | exit id =>
        obtain ⟨x, Hs', rfl, hj, hJ', hi3⟩ := hq
        obtain ⟨h3, h4⟩ := fin Hs' hi3
        refine ⟨_, _, run_endRound (some (.exit id)) h3, _, ⟨Hs', rfl, hJ'⟩, rfl, ?_⟩
        simp only [hj]; exact h4 _
      | goto _ => exact hq.elim
      | panic _ => exact hq.elim
      | outgrown => exact hq.elim
end control
section ends
variable {C : Cx} {E : Env} {H H' N : Heap}
theorem Zaz {P : Program} {fn : Func} {tmps : Array Value} {R : Ending → World → Prop} {w0 : World} {M : List Nat} : ∀ (ms : List Nat) (w : World), Inv w0 M w (Gn ms ++ H') →
    (∀ w', Inv w0 M w' H' → LeavesIn (FW none) 0 P fn tmps R [] .returning w') → LeavesInM (FW none) 0 P fn tmps R (ms.map mkD) .returning w
  | [], w, hi, h => h w hi
  | r :: ms, w, hi, h => by
    refine ⟨by simp, .inl ⟨r, _, rfl, run_takeDeferred (hi.own r _ (.head _)), Zaz ms _ ?_ h⟩⟩
    exact (Inv.put hi (.deferred none)).pick (Pick.skip (Zh _))
theorem X.retM {fn : Func} {rs : List ResultVar} {vs : List Value} {v : Value} {w0 : World} {M : List Nat} {Post : Value → Heap → Prop} (ms : List Nat) (hρ : C.ρ = none) (hw : C.w0 = w0) (hMM : C.M = M) (hD : C.D = ms.map mkD) (hfn : fn.results.toList = rs)
    (hH : Pick (Gn ms ++ H') H) (hr : ∀ (j : Nat) r u, rs[j]? = some r → vs[j]? = some u → Res { C with D := [] } E H' r u) (q0_ : rs.length = vs.length ∧ v = Z2j vs)
    (hN : Pick N H') (hP : Post v N) : Acq.X C (bodyPostM (FW none) 0 C.P fn (Jd w0 M Post)) .ret E H := by
  obtain ⟨hl, hv⟩ := q0_
  intro a w hf hi
  show LeavesInM (FW none) 0 C.P fn a.tmps (Jd w0 M Post) a.defers .returning w
  rw [hf.defers, hD]
  refine Zaz ms w (hi.pick hH) fun w' hi' => ?_
  have hx := X.ret (C := { C with D := [] }) (fn := fn) (Post := Post) hw hMM rfl hfn hr ⟨hl, hv⟩ hN hP { a with defers := [] } w' ⟨hf.size, rfl, hf.get⟩ hi'
  exact hx.2
theorem Z0v {fn : Func} {r : ResultVar} {v : Value} {w0 : World} {M : List Nat} {Post : Value → Heap → Prop} (ms : List Nat) (q0_ : C.ρ = none ∧ C.w0 = w0 ∧ C.M = M ∧ C.D = ms.map mkD ∧ fn.results.toList = [r]) (hH : Pick (Gn ms ++ H') H) (hr : Res { C with D := [] } E H' r v) (hN : Pick N H') (hP : Post v N) :
    Acq.X C (bodyPostM (FW none) 0 C.P fn (Jd w0 M Post)) .ret E H := have ⟨hρ, hw, hMM, hD, hfn⟩ := q0_;
  X.retM (vs := [v]) ms hρ hw hMM hD hfn hH (fun j r' u h1 h2 => by
    cases j with
    | zero => simp at h1 h2; subst h1; subst h2; exact hr
    | succ j => simp at h1) Xw hN hP
theorem Z0p {fn : Func} {r r' : ResultVar} {v v' : Value} {w0 : World} {M : List Nat} {Post : Value → Heap → Prop} (ms : List Nat) (q0_ : C.ρ = none ∧ C.w0 = w0 ∧ C.M = M ∧ C.D = ms.map mkD ∧ fn.results.toList = [r, r']) (hH : Pick (Gn ms ++ H') H) (hr : Res { C with D := [] } E H' r v) (hr' : Res { C with D := [] } E H' r' v') (hN : Pick N H') (hP : Post (.tuple #[v, v']) N) :
    Acq.X C (bodyPostM (FW none) 0 C.P fn (Jd w0 M Post)) .ret E H := have ⟨hρ, hw, hMM, hD, hfn⟩ := q0_;
  X.retM (vs := [v, v']) ms hρ hw hMM hD hfn hH (fun j r'' u h1 h2 => by
    match j with
    | 0 => simp at h1 h2; subst h1; subst h2; exact hr
    | 1 => simp at h1 h2; subst h1; subst h2; exact hr'
    | j + 2 => simp at h1) Xw hN hP
theorem Z1n {P : Program} {f : FuncId} {fn : Func} {c : Code} {vs : List Value} {w : World} {M : List Nat} {H : Heap} {Post : Value → Heap → Prop}
    (hf : P.funcs[f]? = some fn) (hb : fn.body = some c) (hn : Nat.ble vs.length fn.ntmps = true) (hi : Inv w M w H)
    (h : T ⟨P, none, fn.ntmps, [], w, M⟩ c (bodyPostM (FW none) 0 P fn (Jd w M Post)) (Z16 0 vs) H) : Fnc P f vs.toArray w M Post := by
  have hn' := Nat.le_of_ble_eq_true hn
  refine callsIn_FW (ρ := none) (n := 0) |>.1 (callsIn_of_wp_marks hf hb trivial ?_ rfl)
  refine h _ w ⟨by simp; omega, rfl, fun t v hv => ?_⟩ hi
  obtain ⟨_, h2⟩ := Z8v vs 0 t v hv
  rw [Nat.sub_zero] at h2
  have hlt := (List.getElem?_eq_some_iff.1 h2).1
  simp only [Array.getD_eq_getD_getElem?]
  rw [Array.getElem?_append_left (by simpa using hlt)]
  simp [h2]
end ends
end Go.Acq
namespace Go.Acq
open Go Go.RowKit
theorem Lh {C : Cx} {Q : Exit → Act → World → Prop} {e : Exit} {E : Env} {H H' : Heap} (h : H' = H) (k : X C Q e E H) : X C Q e E H' := by rw [h]; exact k
theorem Z9c {C : Cx} {Q : Exit → Act → World → Prop} {c : Code} {E : Env} {H H' : Heap} (h : H' = H) (k : T C c Q E H) : T C c Q E H' := by rw [h]; exact k
end Go.Acq
namespace Go.Acq
open Go Go.RowKit
theorem Lg {C : Cx} {P : Program} {fn : Func} {R : Ending → World → Prop} {E : Env} {H : Heap} (h : X C (bodyPost P fn R) .ret E H) : X C (bodyPost P fn R) .normal E H := h
end Go.Acq
namespace Go.Acq
open Go Go.RowKit
section
variable {C : Cx} {ops : Array Oper} {Q : Exit → Act → World → Prop} {l l2 : List Nat} {E E' : Env} {H H' : Heap}
def JQ (C : Cx) (Q : Exit → Act → World → Prop) (d : Nat) (φ : Bool → Prop) (E : Env) (H : Heap) : Exit → Act → World → Prop
  | .normal, a, w => ∃ b, φ b ∧ Fits C.n C.D ((d, .bool b) :: E) a ∧ Inv C.w0 C.M w H
  | e, a, w => Q e a w
theorem TO.join (l1 l2 : List Nat) (hl : l1 ++ l2 = l) (d : Nat) (φ : Bool → Prop) (E' : Env) (h1 : TO C ops (JQ C Q d φ E' H) l1 E H) (h2 : ∀ b, φ b → TO C ops Q l2 ((d, .bool b) :: E') H) : TO C ops Q l E H := by
 subst hl
 intro a w hf hi
 refine Z1y (Q' := JQ C Q d φ E' H) (fun e a w hne h => ?_) (fun a w h => ?_) l1 a w (h1 a w hf hi)
 · cases e <;> first | exact absurd rfl hne | exact h
 ·
  obtain ⟨b, hb, hfit, hinv⟩ := h
  exact h2 b hb a w hfit hinv
theorem Ut {d : Nat} {φ : Bool → Prop} {b : Bool} (h : φ b) (hE : AllF ((d, .bool b) :: E') E) : X C (JQ C Q d φ E' H) .normal E H := fun _ _ hf hi => ⟨b, h, hf.weak hE.sub, hi⟩
end
end Go.Acq
namespace Go.Acq
open Go Go.RowKit
def Z2y (P : Program) (K : World → Prop) (w : World) (v : Value) : Result Next → Prop
  | .ok (.value u) w' => w' = w ∧ u = v
  | .ok (.enter f args) w' => w' = w ∧ Calls P f args w (fun e w'' => e = .returned v ∧ K w'')
  | _ => False
def Nf (P : Program) (ops : Array Oper) (K : World → Prop) (Qn : Act → Prop) : List Nat → Act → Prop
  | [], a => Qn a
  | i :: rest, a => match ops[i]? with
    | none => Nf P ops K Qn rest a
    | some o => (∀ c, o.op ≠ .defer c) ∧ (∀ cs b, o.op ≠ .select cs b) ∧
        if Region.wanted o (yielded ops a.tmps) = true then ∃ v, (∀ w, K w → Z2y P K w v ((execOp a.eval o).run P w)) ∧ Nf P ops K Qn rest (a.put o.dst v)
        else Nf P ops K Qn rest (a.put o.dst undef)
def TQ (C : Cx) (ops : Array Oper) (Qn : Act → Prop) (l : List Nat) (E : Env) (H : Heap) : Prop := ∀ a, Fits C.n C.D E a → Nf C.P ops (fun w => Inv C.w0 C.M w H) Qn l a
def seqB (ops : Array Oper) (m : Nat) : Bool := (List.range m).all fun i => match ops[i]? with
  | none => false
  | some o => (match o.dst with | some d => (List.range m).all fun j => Nat.beq j i || !(Wb ops j == some d) | none => false) &&
      (o.looksAt ops).all fun t => (List.range m).all fun j => !(Wb ops j == some t) || (Nat.blt j i && Kv ops ops.size i j)
section
variable {C : Cx} {ops : Array Oper} {Q : Exit → Act → World → Prop} {E : Env} {H : Heap}
def Uo (ops : Array Oper) (vs : Nat → Value) (a : Act) : Nat → Act
  | 0 => a
  | i + 1 => (Uo ops vs a i).put (Wb ops i) (vs i)
structure DoneQ (ops : Array Oper) (m : Nat) (vs : Nat → Value) (a0 : Act) (done : Nat → Bool) (a : Act) : Prop where
  size : a.tmps.size = a0.tmps.size
  defers : a.defers = a0.defers
  has : ∀ j d, j < m → done j = true → Wb ops j = some d → d < a0.tmps.size → a.tmps[d]? = some (vs j)
  old : ∀ t, (∀ j, j < m → done j = true → Wb ops j ≠ some t) → a.tmps[t]? = a0.tmps[t]?
theorem DoneQ.put {m : Nat} {vs : Nat → Value} {a0 a : Act} {done : Nat → Bool} {i d : Nat} (h : DoneQ ops m vs a0 done a) (hi : i < m) (hd : Wb ops i = some d) (hu : ∀ j, j < m → j ≠ i → Wb ops j ≠ some d) :
    DoneQ ops m vs a0 (fun q => if q = i then true else done q) (a.put (some d) (vs i)) := by
  refine ⟨by simpa [Act.put] using h.size, h.defers, fun j e hj hdj hs hlt => ?_, fun t ht => ?_⟩
  · simp only [Act.put, Array.getElem?_setIfInBounds]
    by_cases c : j = i
    · subst c
      rw [hd] at hs; injection hs with hs; subst hs
      rw [if_pos rfl, if_pos (by rw [h.size]; exact hlt)]
    · have hne : d ≠ e := by rintro rfl; exact hu j hj c hs
      rw [if_neg hne]
      exact h.has j e hj (by simpa [c] using hdj) hs hlt
  · simp only [Act.put, Array.getElem?_setIfInBounds]
    have hne : d ≠ t := by rintro rfl; exact ht i hi (by simp) hd
    rw [if_neg hne]
    exact h.old t fun j hj hdj => ht j hj (by by_cases c : j = i <;> simp [c, hdj])
theorem eval_tmp {a a' : Act} {t : Nat} (h : a.tmps[t]? = a'.tmps[t]?) : a.eval (.tmp t) = a'.eval (.tmp t) := by
 simp [Act.eval, Array.getD_eq_getD_getElem?, h]
theorem seq_step {m : Nat} {vs : Nat → Value} {a0 a a' : Act} {done done' : Nat → Bool} {o : Oper} (h : DoneQ ops m vs a0 done a) (h' : DoneQ ops m vs a0 done' a')
    (hl : ∀ t, t ∈ o.looksAt ops → ∀ j, j < m → Wb ops j = some t → done j = true ∧ done' j = true) :
    (∀ x, x ∈ o.op.operands → a.eval x = a'.eval x) ∧ Region.wanted o (yielded ops a.tmps) = Region.wanted o (yielded ops a'.tmps) := by
  have key : ∀ t : Nat, t ∈ o.looksAt ops → a.tmps[t]? = a'.tmps[t]? := by
    intro t ht
    by_cases c : ∃ j, j < m ∧ Wb ops j = some t
    · obtain ⟨j, hj, hs⟩ := c
      obtain ⟨d1, d2⟩ := hl t ht j hj hs
      by_cases hlt : t < a0.tmps.size
      · rw [h.has j t hj d1 hs hlt, h'.has j t hj d2 hs hlt]
      · rw [Array.getElem?_eq_none (by rw [h.size]; omega), Array.getElem?_eq_none (by rw [h'.size]; omega)]
    · have hn : ∀ j, j < m → Wb ops j ≠ some t := fun j hj hs => c ⟨j, hj, hs⟩
      rw [h.old t fun j hj _ => hn j hj, h'.old t fun j hj _ => hn j hj]
  refine ⟨fun x hx => ?_, ?_⟩
  · cases x with
    | tmp t => exact eval_tmp (key t (List.mem_append_left _ (List.mem_filterMap.2 ⟨.tmp t, by simpa using hx, rfl⟩)))
    | const v => rfl
    | global g => rfl
    | func f => rfl
  · unfold Region.wanted
    cases hg : o.guard with
    | none => rfl
    | some gw =>
      obtain ⟨g, want⟩ := gw
      have : yielded ops a.tmps g = yielded ops a'.tmps g := by
        unfold yielded
        cases ht : (ops[g]?).bind (·.dst) with
        | none => rfl
        | some t =>
          have := key t (List.mem_append_right _ (by rw [hg]; simp [ht]))
          simp only [Option.bind_some, this]
      simp only [this]
theorem Zcy {K : World → Prop} {Qn : Act → Prop} {vs0 : Nat → Value} {a0 : Act} : ∀ (k i : Nat), (∀ j, j < i + k → ∃ o, ops[j]? = some o) → Nf C.P ops K Qn (List.range' i k) (Uo ops vs0 a0 i) →
    ∃ vs : Nat → Value, (∀ j, j < i → vs j = vs0 j) ∧ (∀ j o, i ≤ j → j < i + k → ops[j]? = some o → (∀ c, o.op ≠ .defer c) ∧ (∀ cs b, o.op ≠ .select cs b) ∧
      ((Region.wanted o (yielded ops (Uo ops vs a0 j).tmps) = true ∧ ∀ w, K w → Z2y C.P K w (vs j) ((execOp (Uo ops vs a0 j).eval o).run C.P w)) ∨ (Region.wanted o (yielded ops (Uo ops vs a0 j).tmps) = false ∧ vs j = undef))) ∧ Qn (Uo ops vs a0 (i + k))
  | 0, i, _, h => ⟨vs0, fun _ _ => rfl, fun j o h1 h2 => by omega, h⟩
  | k + 1, i, hops, h => by
    obtain ⟨o, ho⟩ := hops i (by omega)
    rw [List.range'_succ] at h
    simp only [Nf, ho] at h
    obtain ⟨hd, hs, h⟩ := h
    have hslot : Wb ops i = o.dst := by simp [Wb, ho]
    obtain ⟨v, hv, hrest⟩ : ∃ v, ((Region.wanted o (yielded ops (Uo ops vs0 a0 i).tmps) = true ∧ ∀ w, K w → Z2y C.P K w v ((execOp (Uo ops vs0 a0 i).eval o).run C.P w)) ∨ (Region.wanted o (yielded ops (Uo ops vs0 a0 i).tmps) = false ∧ v = undef)) ∧
        Nf C.P ops K Qn (List.range' (i + 1) k) ((Uo ops vs0 a0 i).put o.dst v) := by
      by_cases hw : Region.wanted o (yielded ops (Uo ops vs0 a0 i).tmps) = true
      · rw [if_pos hw] at h
        obtain ⟨v, h1, h2⟩ := h
        exact ⟨v, .inl ⟨hw, h1⟩, h2⟩
      · rw [if_neg hw] at h
        exact ⟨undef, .inr ⟨by simpa using hw, rfl⟩, h⟩
    have hcongr : ∀ (vs' : Nat → Value), (∀ j, j < i → vs' j = vs0 j) → ∀ j, j ≤ i → Uo ops vs' a0 j = Uo ops vs0 a0 j := by
      intro vs' hvs j
      induction j with
      | zero => intro _; rfl
      | succ j ih => intro hj; simp only [Uo]; rw [ih (by omega), hvs j (by omega)]
    let vs1 : Nat → Value := fun j => if j = i then v else vs0 j
    have e1 : Uo ops vs1 a0 (i + 1) = (Uo ops vs0 a0 i).put o.dst v := by
      simp only [Uo]
      rw [hcongr vs1 (fun j hj => by simp only [vs1]; rw [if_neg (by omega)]) i (Nat.le_refl _), hslot]
      simp only [vs1, if_true]
    rw [← e1] at hrest
    obtain ⟨vs, g1, g2, g3⟩ := Zcy k (i + 1) (fun j hj => hops j (by omega)) hrest
    have gi : vs i = v := by rw [g1 i (by omega)]; simp only [vs1, if_true]
    have gl : ∀ j, j < i → vs j = vs0 j := fun j hj => by rw [g1 j (by omega)]; simp only [vs1]; rw [if_neg (by omega)]
    refine ⟨vs, gl, fun j o' h1 h2 ho' => ?_, by rw [show i + (k + 1) = i + 1 + k by omega]; exact g3⟩
    by_cases c : j = i
    · subst c
      rw [ho] at ho'; injection ho' with ho'; subst ho'
      rw [hcongr vs gl j (Nat.le_refl _), gi]
      exact ⟨hd, hs, hv⟩
    · exact g2 j o' (by omega) (by omega) ho'
theorem Zau {m : Nat} {vs : Nat → Value} {a0 : Act} (hu : ∀ i, i < m → ∃ d, Wb ops i = some d ∧ ∀ j, j < m → j ≠ i → Wb ops j ≠ some d) : ∀ i, i ≤ m → DoneQ ops m vs a0 (fun q => decide (q < i)) (Uo ops vs a0 i)
 | 0, _ => ⟨rfl, rfl, fun j d _ h => by simp at h, fun t _ => rfl⟩
 | i + 1, hi => by
  obtain ⟨d, hd, hud⟩ := hu i (by omega)
  have := (Zau (vs := vs) (a0 := a0) hu i (by omega)).put (by omega) hd hud
  simp only [Uo]
  rw [hd]
  have e : (fun q : Nat => decide (q < i + 1)) = fun q => if q = i then true else decide (q < i) := by
   funext q
   by_cases c : q = i
   · simp [c]
   ·
    have : (q < i + 1) ↔ q < i := by omega
    simp [c, this]
  rw [e]; exact this
theorem Ug {id : Nat} (m : Nat) (ll : List Nat) (hll : List.range m = ll) (hm : C.P.follows .mixedOrders = true) (hb : Gj ops = true) (ht : Np ops m = true) (hms : Nat.ble m ops.size = true) (hs : seqB ops m = true)
    (k : TQ C ops (fun a => ∀ w, Inv C.w0 C.M w H → wpOpsIn (FW C.ρ) 0 C.P ops Q (List.range' m (ops.size - m)) a w) ll E H) : T C (.region id ops true) Q E H := by
  subst hll
  intro a0 w hf hi
  have hms' := Nat.le_of_ble_eq_true hms
  have hseq : ∀ i, i < m → ∃ o d, ops[i]? = some o ∧ Wb ops i = some d ∧ (∀ j, j < m → j ≠ i → Wb ops j ≠ some d) ∧ ∀ t, t ∈ o.looksAt ops → ∀ j, j < m → Wb ops j = some t → j < i ∧ Kv ops ops.size i j = true := by
    intro i him
    have h1 := List.all_eq_true.1 hs i (List.mem_range.2 him)
    have ho : ops[i]? = some ops[i] := Array.getElem?_eq_getElem (by omega)
    rw [ho] at h1
    simp only [Bool.and_eq_true] at h1
    cases hd : (ops[i]).dst with
    | none => rw [hd] at h1; simp at h1
    | some d =>
      rw [hd] at h1
      refine ⟨ops[i], d, ho, by simp [Wb, ho, hd], fun j hj hji he => ?_, fun t htl j hj hsj => ?_⟩
      · have h2 := List.all_eq_true.1 h1.1 j (List.mem_range.2 hj)
        simp only [Bool.or_eq_true] at h2
        rcases h2 with h2 | h2
        · exact hji (Nat.eq_of_beq_eq_true h2)
        · rw [he] at h2; simp at h2
      · have h2 := List.all_eq_true.1 (List.all_eq_true.1 h1.2 t htl) j (List.mem_range.2 hj)
        rw [hsj] at h2
        simpa using h2
  have hu : ∀ i, i < m → ∃ d, Wb ops i = some d ∧ ∀ j, j < m → j ≠ i → Wb ops j ≠ some d := fun i h => by
    obtain ⟨_, d, _, h1, h2, _⟩ := hseq i h; exact ⟨d, h1, h2⟩
  have hk := k a0 hf
  rw [List.range_eq_range'] at hk
  obtain ⟨vs, -, hstep, hend⟩ := Zcy (C := C) (vs0 := fun _ => undef) (a0 := a0) m 0 (fun j hj => by obtain ⟨o, _, ho, _⟩ := hseq j (by omega); exact ⟨o, ho⟩) hk
  rw [Nat.zero_add] at hend
  refine Zbs (m := m) (Jp := fun done a w => DoneQ ops m vs a0 done a ∧ Inv C.w0 C.M w H) hm hb ht hms' ?_ ?_ ⟨⟨rfl, rfl, fun j d _ h => by simp at h, fun t _ => rfl⟩, hi.ofHeap rfl rfl rfl rfl⟩
  · rintro done i o a w1 him ho hdi hcl hafter _ ⟨hD, hinv⟩
    obtain ⟨o', d, ho', hsl, hud, hlook⟩ := hseq i him
    rw [ho] at ho'; injection ho' with ho'; subst ho'
    have hdst : o.dst = some d := by simpa [Wb, ho] using hsl
    have hdone : ∀ j, Kv ops ops.size i j = true → done j = true := fun j hj => Z0h hcl _ i j hj (fun o' ho' => by rw [ho] at ho'; injection ho' with ho'; subst ho'; exact hafter)
    obtain ⟨hev, hwt⟩ := seq_step hD (Zau hu i (by omega)) (o := o) (fun t htl j hj hsj => by
      obtain ⟨h1, h2⟩ := hlook t htl j hj hsj
      exact ⟨hdone j h2, by simpa using h1⟩)
    obtain ⟨hnd, hns, hval⟩ := hstep i o (by omega) (by omega) ho
    have hex := execOp_congr o hns hev
    have hput := hD.put him hsl hud
    unfold wpOpIn
    rw [ho]
    simp only
    rcases hval with ⟨hw, hq⟩ | ⟨hw, hq⟩
    · rw [hwt, hw]
      simp only [if_true]
      refine ⟨fun _ _ => trivial, ?_⟩
      rw [Oper.semAt_eq _ _ _ hnd, hex]
      have hq := hq w1 hinv
      generalize (execOp (Uo ops vs a0 i).eval o).run C.P w1 = r at hq
      cases r with
      | ok x w' =>
        cases x <;> simp only [Z2y] at hq
        case value u =>
          obtain ⟨rfl, rfl⟩ := hq
          show _ ∧ _
          rw [hdst]
          exact ⟨hput, hinv⟩
        case enter f args =>
          obtain ⟨rfl, hc⟩ := hq
          refine ⟨by simp [FW], callsIn_FW.2 (Calls.mono hc ?_)⟩
          rintro e w'' ⟨rfl, hK⟩
          show _ ∧ _
          rw [hdst]
          exact ⟨hput, hK⟩
      | halt x w' => simp only [Z2y] at hq
    · rw [hwt, hw]
      simp only [Bool.false_eq_true, if_false]
      refine ⟨fun _ _ => trivial, ?_⟩
      rw [hdst, ← hq]
      exact ⟨hput, hinv⟩
  · rintro done a w1 hall ⟨hD, hinv⟩
    have hA := Zau (vs := vs) (a0 := a0) hu m (Nat.le_refl _)
    have ea : a = Uo ops vs a0 m := by
      have e1 : a.tmps = (Uo ops vs a0 m).tmps := by
        apply Array.ext_getElem?
        intro t
        by_cases c : ∃ j, j < m ∧ Wb ops j = some t
        · obtain ⟨j, hj, hsj⟩ := c
          by_cases hlt : t < a0.tmps.size
          · rw [hD.has j t hj (hall j hj) hsj hlt, hA.has j t hj (by simpa using hj) hsj hlt]
          · rw [Array.getElem?_eq_none (by rw [hD.size]; omega), Array.getElem?_eq_none (by rw [hA.size]; omega)]
        · have hn : ∀ j, j < m → Wb ops j ≠ some t := fun j hj hsj => c ⟨j, hj, hsj⟩
          rw [hD.old t fun j hj _ => hn j hj, hA.old t fun j hj _ => hn j hj]
      have e2 : a.defers = (Uo ops vs a0 m).defers := by rw [hD.defers, hA.defers]
      cases a; simp_all
    rw [ea]
    exact hend w1 hinv
theorem TQ.tail {m k : Nat} (l : List Nat) {H0 : Heap} (q0_ : List.range' m k = l ∧ H0 = H) (h : TO C ops Q l E H) : TQ C ops (fun a => ∀ w, Inv C.w0 C.M w H → wpOpsIn (FW C.ρ) 0 C.P ops Q (List.range' m k) a w) [] E H0 := have ⟨hl, hH⟩ := q0_; fun a hf w hi => by rw [hl]; exact h a w hf hi
end
end Go.Acq
namespace Go.Acq
open Go Go.RowKit
section rules
variable {C : Cx} {ops : Array Oper} {Q : Act → Prop} {l : List Nat} {E : Env} {H R : Heap} {i d : Nat} {ty : TypeId} {Zm : String} {af : Array Edge} {g : Option (Nat × Bool)}
theorem TQ.val {op : Op} {v : Value} (ho : ops[i]? = some ⟨some d, op, ty, Zm, af, g⟩) (hg : Yd ops E g = true) (hd : Nat.ble (d + 1) C.n = true) (hnd : ∀ c, op ≠ .defer c)
    (hr : ∀ a w, Fits C.n C.D E a → Inv C.w0 C.M w H → (execOp a.eval ⟨some d, op, ty, Zm, af, g⟩).run C.P w = .ok (.value v) w)
    (k : TQ C ops Q l ((d, v) :: E) H) (hns : ∀ cs b, op ≠ .select cs b := by simp) : TQ C ops Q (i :: l) E H := by
  intro a hf
  simp only [Nf, ho]
  refine ⟨hnd, hns, ?_⟩
  rw [if_pos (Zcb hf hg)]
  exact ⟨v, fun w hi => by rw [hr a w hf hi]; exact ⟨rfl, rfl⟩, k _ (hf.put hd v)⟩
theorem Wu {o : Oper} (q0_ : ops[i]? = some o ∧ gdN ops E o.guard = true ∧ o.dst = some d ∧ Nat.ble (d + 1) C.n = true) (k : TQ C ops Q l ((d, undef) :: E) H) (hnd : ∀ c, o.op ≠ .defer c := by simp) (hns : ∀ cs b, o.op ≠ .select cs b := by simp) : TQ C ops Q (i :: l) E H := by
 obtain ⟨ho, hg, hdst, hd⟩ := q0_
 intro a hf
 simp only [Nf, ho]
 refine ⟨hnd, hns, ?_⟩
 rw [if_neg (by rw [Zer hf hg]; simp), hdst]
 exact k _ (hf.put hd _)
theorem Zd1 {o : Oper} (q0_ : ops[i]? = some o ∧ gdU ops E o.guard = true ∧ o.dst = some d ∧ Nat.ble (d + 1) C.n = true) (k : TQ C ops Q l ((d, undef) :: E) H) (hnd : ∀ c, o.op ≠ .defer c := by simp) (hns : ∀ cs b, o.op ≠ .select cs b := by simp) : TQ C ops Q (i :: l) E H := by
 obtain ⟨ho, hg, hdst, hd⟩ := q0_
 intro a hf
 simp only [Nf, ho]
 refine ⟨hnd, hns, ?_⟩
 rw [if_neg (by rw [Zdb hf hg]; simp), hdst]
 exact k _ (hf.put hd _)
theorem Ju {t : Nat} {b b' : Bool} (ht : Xk E t = some (.bool b)) (hb : b = b') (k : TQ C ops Q l ((t, .bool b') :: E) H) : TQ C ops Q l E H := by
 subst hb
 intro a hf
 refine k a ⟨hf.size, hf.defers, fun u v hu => ?_⟩
 rw [Kd] at hu
 by_cases e : t = u
 · subst e; rw [if_pos rfl] at hu; injection hu with hu; subst hu; exact hf.get t _ ht
 · rw [if_neg e] at hu; exact hf.get u v hu
theorem TQ.move {x : Operand} {v : Value} (q0_ : ops[i]? = some ⟨some d, .move x, ty, Zm, af, g⟩ ∧ Yd ops E g = true ∧ Nat.ble (d + 1) C.n = true ∧ ev E x = some v)
    (k : TQ C ops Q l ((d, v) :: E) H) : TQ C ops Q (i :: l) E H := have ⟨ho, hg, hd, hx⟩ := q0_;
  TQ.val ho hg hd (by simp) (fun a w hf _ => by simp [execOp, hf.ev hx]) k
theorem TQ.assign {x : Operand} {v : Value} (q0_ : ops[i]? = some ⟨some d, .assign x, ty, Zm, af, g⟩ ∧ Yd ops E g = true ∧ Nat.ble (d + 1) C.n = true ∧ ev E x = some v)
    (k : TQ C ops Q l ((d, v) :: E) H) : TQ C ops Q (i :: l) E H := have ⟨ho, hg, hd, hx⟩ := q0_;
  TQ.val ho hg hd (by simp) (fun a w hf _ => by simp [execOp, hf.ev hx]) k
theorem Zak {c x y : Operand} {v : Value} (q0_ : ops[i]? = some ⟨some d, .pick c x y, ty, Zm, af, g⟩ ∧ Yd ops E g = true ∧ Nat.ble (d + 1) C.n = true ∧ ev E c = some (.bool true) ∧ ev E x = some v) (k : TQ C ops Q l ((d, v) :: E) H) : TQ C ops Q (i :: l) E H := have ⟨ho, hg, hd, hc, hx⟩ := q0_;
  TQ.val ho hg hd (by simp) (fun a w hf _ => by simp [execOp, hf.ev hc, hf.ev hx, asBool]) k
theorem Zfq {c x y : Operand} {v : Value} (q0_ : ops[i]? = some ⟨some d, .pick c x y, ty, Zm, af, g⟩ ∧ Yd ops E g = true ∧ Nat.ble (d + 1) C.n = true ∧ ev E c = some (.bool false) ∧ ev E y = some v) (k : TQ C ops Q l ((d, v) :: E) H) : TQ C ops Q (i :: l) E H := have ⟨ho, hg, hd, hc, hx⟩ := q0_;
  TQ.val ho hg hd (by simp) (fun a w hf _ => by simp [execOp, hf.ev hc, hf.ev hx, asBool]) k
theorem Z0q {op : BinOp} {t t2 : TypeId} {x y : Operand} {k : IntKind} {p q : Int} {v : Value}
    (q0_ : ops[i]? = some ⟨some d, .binOp op t x y t2, ty, Zm, af, g⟩ ∧ Yd ops E g = true ∧ Nat.ble (d + 1) C.n = true ∧ ev E x = some (.int k p) ∧ ev E y = some (.int k q) ∧ Lj op k p q = some v) (kk : TQ C ops Q l ((d, v) :: E) H) : TQ C ops Q (i :: l) E H := have ⟨ho, hg, hd, hx, hy, hv⟩ := q0_;
  TQ.val ho hg hd (by simp) (fun a w hf _ => by simp [execOp, hf.ev hx, hf.ev hy, eqGuard_at_int, Ze7 hv]) kk
theorem TQ.add {t t2 : TypeId} {x y : Operand} {p q : Int}
    (ho : ops[i]? = some ⟨some d, .binOp .add t x y t2, ty, Zm, af, g⟩) (hg : Yd ops E g = true) (hd : Nat.ble (d + 1) C.n = true) (hx : ev E x = some (.int .i64 p)) (hy : ev E y = some (.int .i64 q))
    (h1 : -9223372036854775808 ≤ p + q) (h2 : p + q ≤ 9223372036854775807) (kk : TQ C ops Q l ((d, .int .i64 (p + q)) :: E) H) : TQ C ops Q (i :: l) E H :=
  Z0q ⟨ho, hg, hd, hx, hy, (by simp only [Lj]; rw [Ra h1 h2])⟩ kk
theorem TQ.sub {t t2 : TypeId} {x y : Operand} {p q : Int}
    (ho : ops[i]? = some ⟨some d, .binOp .sub t x y t2, ty, Zm, af, g⟩) (hg : Yd ops E g = true) (hd : Nat.ble (d + 1) C.n = true) (hx : ev E x = some (.int .i64 p)) (hy : ev E y = some (.int .i64 q))
    (h1 : -9223372036854775808 ≤ p - q) (h2 : p - q ≤ 9223372036854775807) (kk : TQ C ops Q l ((d, .int .i64 (p - q)) :: E) H) : TQ C ops Q (i :: l) E H :=
  Z0q ⟨ho, hg, hd, hx, hy, (by simp only [Lj]; rw [Ra h1 h2])⟩ kk
theorem TQ.not {t : TypeId} {x : Operand} {b : Bool} (q0_ : ops[i]? = some ⟨some d, .unOp .not t x, ty, Zm, af, g⟩ ∧ Yd ops E g = true ∧ Nat.ble (d + 1) C.n = true ∧ ev E x = some (.bool b)) (kk : TQ C ops Q l ((d, .bool (!b)) :: E) H) : TQ C ops Q (i :: l) E H := have ⟨ho, hg, hd, hx⟩ := q0_;
  TQ.val ho hg hd (by simp) (fun a w hf _ => by simp [execOp, hf.ev hx, Op.unary]) kk
theorem TQ.fieldAddr {s : TypeId} {x : Operand} {f o b p : Nat} (q0_ : ops[i]? = some ⟨some d, .fieldAddr s x f, ty, Zm, af, g⟩ ∧ Yd ops E g = true ∧ Nat.ble (d + 1) C.n = true ∧ ev E x = some (.pointer (some ⟨b, p, none⟩))) (hT : Ws C.P s f = some o) (kk : TQ C ops Q l ((d, .pointer (some ⟨b, p + o, none⟩)) :: E) H) : TQ C ops Q (i :: l) E H := have ⟨ho, hg, hd, hx⟩ := q0_;
  TQ.val ho hg hd (by simp) (fun a w hf _ => by simp [execOp, hf.ev hx, Zd5 hT]) kk
theorem Ww {s : TypeId} {x : Operand} {f o b : Nat} (q0_ : ops[i]? = some ⟨some d, .fieldAddr s x f, ty, Zm, af, g⟩ ∧ Yd ops E g = true ∧ Nat.ble (d + 1) C.n = true ∧ ev E x = some (.pointer (some ⟨b, 0, none⟩))) (hT : Ws C.P s f = some o) (kk : TQ C ops Q l ((d, .pointer (some ⟨b, o, none⟩)) :: E) H) : TQ C ops Q (i :: l) E H := have ⟨ho, hg, hd, hx⟩ := q0_;
  TQ.fieldAddr ⟨ho, hg, hd, hx⟩ hT (by rw [Nat.zero_add]; exact kk)
theorem TQ.load {t : TypeId} {x : Operand} {ad : Addr} {v : Value} (ho : ops[i]? = some ⟨some d, .load t x, ty, Zm, af, g⟩) (hg : Yd ops E g = true) (hd : Nat.ble (d + 1) C.n = true)
    (hx : ev E x = some (.pointer (some ad))) (hT : Vc C.P t = true) (hc : ∀ w, Inv C.w0 C.M w H → w.cell? ad = some v)
    (kk : TQ C ops Q l ((d, v) :: E) H) : TQ C ops Q (i :: l) E H :=
  TQ.val ho hg hd (by simp) (fun a w hf hi => by simp [execOp, hf.ev hx, Instr.loadAt, Instr.sureAddr, Z9w hT (hc w hi)]) kk
theorem Wv {t T' : TypeId} {x : Operand} {b o : Nat} {cs : Array Value} {fr : Nat × Nat} {v : Value} (q0_ : ops[i]? = some ⟨some d, .load t x, ty, Zm, af, g⟩ ∧ Yd ops E g = true ∧ Nat.ble (d + 1) C.n = true ∧ ev E x = some (.pointer (some ⟨b, o, none⟩))) (hT : Vc C.P t = true) (hm : (some b, Obj.cells cs T' fr) ∈ H) (hv : cs[o]? = some v)
    (kk : TQ C ops Q l ((d, v) :: E) H) : TQ C ops Q (i :: l) E H := have ⟨ho, hg, hd, hx⟩ := q0_;
  TQ.load ho hg hd hx hT (fun w hi => by rw [hi.cell_own hm]; exact hv) kk
theorem TQ.loadS {t : TypeId} {x : Operand} {ad : Addr} {k : Nat} {cs : List Value} (ho : ops[i]? = some ⟨some d, .load t x, ty, Zm, af, g⟩) (hg : Yd ops E g = true) (hd : Nat.ble (d + 1) C.n = true)
    (hx : ev E x = some (.pointer (some ad))) (hT : Up C.P t k = true) (hk : cs.length = k) (hc : ∀ w, Inv C.w0 C.M w H → ∀ j v, cs[j]? = some v → w.cell? (ad.add j) = some v)
    (kk : TQ C ops Q l ((d, .agg cs.toArray) :: E) H) : TQ C ops Q (i :: l) E H :=
  TQ.val ho hg hd (by simp) (fun a w hf hi => by simp [execOp, hf.ev hx, Instr.loadAt, Instr.sureAddr, Zc7 hT hk (hc w hi)]) kk
theorem TQ.ldI {t T' : TypeId} {x : Operand} {b o : Nat} {k : IntKind} {xs : List Int} {j : List Value} {fr : Nat × Nat} (ho : ops[i]? = some ⟨some d, .load t x, ty, Zm, af, g⟩) (hg : Yd ops E g = true) (hd : Nat.ble (d + 1) C.n = true)
    (hx : ev E x = some (.pointer (some ⟨b, o, none⟩))) (hT : Vc C.P t = true) (hm : (some b, Obj.cells (arr (intC k) xs j).toArray T' fr) ∈ H) (hv : o < xs.length)
    (kk : TQ C ops Q l ((d, .int k (xs.getD o 0)) :: E) H) : TQ C ops Q (i :: l) E H :=
  Wv ⟨ho, hg, hd, hx⟩ hT hm (by
    have := Z4l (f := intC k) (s := 1) (fun _ => rfl) 0 xs j o 0 hv (by omega)
    simpa using this) kk
theorem Zdu {t e : TypeId} {x y : Operand} {base : Option Addr} {n c s : Nat} {k : IntKind} {p : Int} (ho : ops[i]? = some ⟨some d, .indexAddr t x y, ty, Zm, af, g⟩) (hg : Yd ops E g = true) (hd : Nat.ble (d + 1) C.n = true)
    (hx : ev E x = some (.slice base n c)) (hy : ev E y = some (.int k p)) (ht : Wx C.P t = some e) (hs : Xt C.P e = some s) (hb : base = none → n = 0) (h0 : 0 ≤ p) (h1 : p < n)
    (kk : TQ C ops Q l ((d, .pointer (some (ea base (p.toNat * s)))) :: E) H) : TQ C ops Q (i :: l) E H :=
  TQ.val ho hg hd (by simp) (fun a w hf hi => by
    cases base with
    | none => exact absurd h1 (by simp [hb rfl]; omega)
    | some b =>
      have hu := Ga ht
      simp [execOp, hf.ev hx, hf.ev hy, Instr.indexAt, asIntOf, run_underlying hu, h0, h1, Rn hs, ea]) kk
theorem TQ.index {t e : TypeId} {x y : Operand} {b o n c s : Nat} {k : IntKind} {p : Int} (ho : ops[i]? = some ⟨some d, .indexAddr t x y, ty, Zm, af, g⟩) (hg : Yd ops E g = true) (hd : Nat.ble (d + 1) C.n = true)
    (hx : ev E x = some (.slice (some ⟨b, o, none⟩) n c)) (hy : ev E y = some (.int k p)) (ht : Wx C.P t = some e) (hs : Xt C.P e = some s) (h0 : 0 ≤ p) (h1 : p < n)
    (kk : TQ C ops Q l ((d, .pointer (some ⟨b, o + p.toNat * s, none⟩)) :: E) H) : TQ C ops Q (i :: l) E H :=
  Zdu ho hg hd hx hy ht hs (by simp) h0 h1 (by simpa [ea, Addr.add_mid] using kk)
theorem Zhs {t e : TypeId} {x y : Operand} {b n c s : Nat} {k : IntKind} {p : Int} (ho : ops[i]? = some ⟨some d, .indexAddr t x y, ty, Zm, af, g⟩) (hg : Yd ops E g = true) (hd : Nat.ble (d + 1) C.n = true)
    (hx : ev E x = some (.slice (some ⟨b, 0, none⟩) n c)) (hy : ev E y = some (.int k p)) (ht : Wx C.P t = some e) (hs : Xt C.P e = some s) (h0 : 0 ≤ p) (h1 : p < n)
    (kk : TQ C ops Q l ((d, .pointer (some ⟨b, p.toNat * s, none⟩)) :: E) H) : TQ C ops Q (i :: l) E H :=
  TQ.index ho hg hd hx hy ht hs h0 h1 (by rw [Nat.zero_add]; exact kk)
theorem Zke {t e : TypeId} {x y : Operand} {base : Option Addr} {n c s : Nat} {k : IntKind} {p : Int} (ho : ops[i]? = some ⟨some d, .slice t x none (some y) none, ty, Zm, af, g⟩) (hg : Yd ops E g = true) (hd : Nat.ble (d + 1) C.n = true)
    (hx : ev E x = some (.slice base n c)) (hy : ev E y = some (.int k p)) (ht : Wx C.P t = some e) (hs : Xt C.P e = some s) (h0 : 0 ≤ p) (h1 : p ≤ c)
    (kk : TQ C ops Q l ((d, .slice base p.toNat c) :: E) H) : TQ C ops Q (i :: l) E H :=
  TQ.val ho hg hd (by simp) (fun a w hf hi => by
    have hu := Ga ht
    have hb : ∀ b : Option Addr, Option.map (fun x => x.add 0) b = b := fun b => by cases b <;> simp [Addr.add]
    simp [execOp, hf.ev hx, hf.ev hy, Instr.sliceAt, Instr.slice, Instr.sliceBounds, Instr.sliceBound, asIntOf, run_underlying hu, h0, h1, Rn hs, hb]) kk
theorem TQ.len {t : TypeId} {at' : Array TypeId} {x : Operand} {e : TypeId} {base : Option Addr} {n c : Nat}
    (ho : ops[i]? = some ⟨some d, .call ⟨.builtin .len, #[x], at'⟩, ty, Zm, af, g⟩) (hg : Yd ops E g = true) (hd : Nat.ble (d + 1) C.n = true) (hat : at'[0]? = some t)
    (hx : ev E x = some (.slice base n c)) (ht : Wx C.P t = some e) (kk : TQ C ops Q l ((d, .int .i64 n) :: E) H) : TQ C ops Q (i :: l) E H :=
  TQ.val ho hg hd (by simp) (fun a w hf _ => by
    simp [execOp, resolve, invoke, builtin, hf.ev hx, Builtin.len_, hat, run_underlying (Ga ht), goInt]) kk
theorem Zb8 {α : Type} {t : TypeId} {at' : Array TypeId} {x : Operand} {e : TypeId} {base : Option Addr} {n c : Nat} {xs : List α} (hn : xs.length = n)
    (q0_ : ops[i]? = some ⟨some d, .call ⟨.builtin .len, #[x], at'⟩, ty, Zm, af, g⟩ ∧ Yd ops E g = true ∧ Nat.ble (d + 1) C.n = true ∧ at'[0]? = some t ∧ ev E x = some (.slice base n c)) (ht : Wx C.P t = some e) (kk : TQ C ops Q l ((d, .int .i64 (xs.length : Int)) :: E) H) : TQ C ops Q (i :: l) E H := have ⟨ho, hg, hd, hat, hx⟩ := q0_;
  TQ.len ho hg hd hat hx ht (by rw [← hn]; exact kk)
theorem Ub {α : Type} {f : α → List Value} {M : List Nat} {w : World} {xs : List α} {t e : TypeId} {x y : Operand} {base : Option Addr} {n c s : Nat} {k : IntKind} {p : Int} (hr : RS w M f s base n c xs) (hp : inb p xs.length)
    (q0_ : ops[i]? = some ⟨some d, .indexAddr t x y, ty, Zm, af, g⟩ ∧ Yd ops E g = true ∧ Nat.ble (d + 1) C.n = true ∧ ev E x = some (.slice base n c) ∧ ev E y = some (.int k p)) (ht : Wx C.P t = some e) (hs : Xt C.P e = some s)
    (kk : TQ C ops Q l ((d, .pointer (some (ea base (p.toNat * s)))) :: E) H) : TQ C ops Q (i :: l) E H := have ⟨ho, hg, hd, hx, hy⟩ := q0_;
  Zdu ho hg hd hx hy ht hs hr.ro.nil hp.1 (by have := hp.2; rw [hr.len] at this; exact this) kk
theorem TQ.ix0 {α : Type} {xs : List α} {t e : TypeId} {x y : Operand} {b n c s : Nat} {k : IntKind} {p : Int} (hn : xs.length = n) (hp : inb p xs.length)
    (ho : ops[i]? = some ⟨some d, .indexAddr t x y, ty, Zm, af, g⟩) (hg : Yd ops E g = true) (hd : Nat.ble (d + 1) C.n = true)
    (hx : ev E x = some (.slice (some ⟨b, 0, none⟩) n c)) (hy : ev E y = some (.int k p)) (ht : Wx C.P t = some e) (hs : Xt C.P e = some s)
    (kk : TQ C ops Q l ((d, .pointer (some ⟨b, p.toNat * s, none⟩)) :: E) H) : TQ C ops Q (i :: l) E H :=
  Zhs ho hg hd hx hy ht hs hp.1 (by have := hp.2; rw [hn] at this; exact this) kk
theorem Z50 {s : TypeId} {x : Operand} {f o n : Nat} {base : Option Addr} (q0_ : ops[i]? = some ⟨some d, .fieldAddr s x f, ty, Zm, af, g⟩ ∧ Yd ops E g = true ∧ Nat.ble (d + 1) C.n = true ∧ ev E x = some (.pointer (some (ea base n)))) (hT : Ws C.P s f = some o) (kk : TQ C ops Q l ((d, .pointer (some (ea base (n + o)))) :: E) H) : TQ C ops Q (i :: l) E H := have ⟨ho, hg, hd, hx⟩ := q0_;
  TQ.val ho hg hd (by simp) (fun a w hf _ => by simp [execOp, hf.ev hx, Zfp hT, Z97]) kk
theorem Kc {t : TypeId} {x : Operand} {base : Option Addr} {n c : Nat} {k : IntKind} {p : Int} {xs : List Int} (hr : RS C.w0 C.M (intC k) 1 base n c xs) (hp : inb p xs.length) (q0_ : ops[i]? = some ⟨some d, .load t x, ty, Zm, af, g⟩ ∧ Yd ops E g = true ∧ Nat.ble (d + 1) C.n = true ∧ ev E x = some (.pointer (some (ea base (p.toNat * 1))))) (hT : Vc C.P t = true)
    (kk : TQ C ops Q l ((d, .int k (xs.getD p.toNat 0)) :: E) H) : TQ C ops Q (i :: l) E H := have ⟨ho, hg, hd, hx⟩ := q0_;
  TQ.load ho hg hd hx hT (fun w hi => by
    have := (hr.ro.monoM hr.far hi).at 0 (o := p.toNat) (c := 0) (Uw hp) (by omega)
    simpa using this) kk
theorem Z5l {α : Type} {f : α → List Value} {s : Nat} {t : TypeId} {x : Operand} {base : Option Addr} {n c q : Nat} {p : Int} {xs : List α} {v : Value} (dflt : α) (hr : RS C.w0 C.M f s base n c xs) (hp : inb p xs.length) (q0_ : ops[i]? = some ⟨some d, .load t x, ty, Zm, af, g⟩ ∧ Yd ops E g = true ∧ Nat.ble (d + 1) C.n = true ∧ ev E x = some (.pointer (some (ea base (p.toNat * s + q)))) ∧ (f (xs.getD p.toNat dflt))[q]? = some v) (hT : Vc C.P t = true)
    (kk : TQ C ops Q l ((d, v) :: E) H) : TQ C ops Q (i :: l) E H := have ⟨ho, hg, hd, hx, hv⟩ := q0_;
  TQ.load ho hg hd hx hT (fun w hi => by
    have hqs : q < s := by rw [← hr.ro.wide (xs.getD p.toNat dflt)]; exact (List.getElem?_eq_some_iff.1 hv).1
    have := (hr.ro.monoM hr.far hi).at dflt (o := p.toNat) (c := q) (Uw hp) hqs
    exact this.trans hv) kk
theorem TQ.ldIO {t T' : TypeId} {x : Operand} {b : Nat} {k : IntKind} {p : Int} {xs : List Int} {j : List Value} {fr : Nat × Nat} (hp : inb p xs.length) (ho : ops[i]? = some ⟨some d, .load t x, ty, Zm, af, g⟩) (hg : Yd ops E g = true) (hd : Nat.ble (d + 1) C.n = true)
    (hx : ev E x = some (.pointer (some ⟨b, p.toNat, none⟩))) (hT : Vc C.P t = true) (hm : (some b, Obj.cells (arr (intC k) xs j).toArray T' fr) ∈ H)
    (kk : TQ C ops Q l ((d, .int k (xs.getD p.toNat 0)) :: E) H) : TQ C ops Q (i :: l) E H := TQ.ldI ho hg hd hx hT hm (Uw hp) kk
theorem Zdm {t t2 : TypeId} {x y : Operand} {p q : Int} (h : i64ok (p + q)) (q0_ : ops[i]? = some ⟨some d, .binOp .add t x y t2, ty, Zm, af, g⟩ ∧ Yd ops E g = true ∧ Nat.ble (d + 1) C.n = true ∧ ev E x = some (.int .i64 p) ∧ ev E y = some (.int .i64 q))
    (kk : TQ C ops Q l ((d, .int .i64 (p + q)) :: E) H) : TQ C ops Q (i :: l) E H := have ⟨ho, hg, hd, hx, hy⟩ := q0_; TQ.add ho hg hd hx hy h.1 h.2 kk
theorem Zdd {t t2 : TypeId} {x y : Operand} {p q : Int} (h : i64ok (p - q)) (q0_ : ops[i]? = some ⟨some d, .binOp .sub t x y t2, ty, Zm, af, g⟩ ∧ Yd ops E g = true ∧ Nat.ble (d + 1) C.n = true ∧ ev E x = some (.int .i64 p) ∧ ev E y = some (.int .i64 q))
    (kk : TQ C ops Q l ((d, .int .i64 (p - q)) :: E) H) : TQ C ops Q (i :: l) E H := have ⟨ho, hg, hd, hx, hy⟩ := q0_; TQ.sub ho hg hd hx hy h.1 h.2 kk
theorem Kj {t : TypeId} {x : Operand} {b o : Nat} {cs : List Value} {v : Value} (hc : HB C.w0 C.M b cs) (q0_ : ops[i]? = some ⟨some d, .load t x, ty, Zm, af, g⟩ ∧ Yd ops E g = true ∧ Nat.ble (d + 1) C.n = true ∧ ev E x = some (.pointer (some ⟨b, o, none⟩)) ∧ cs[o]? = some v) (hT : Vc C.P t = true)
    (kk : TQ C ops Q l ((d, v) :: E) H) : TQ C ops Q (i :: l) E H := have ⟨ho, hg, hd, hx, hv⟩ := q0_; TQ.load ho hg hd hx hT (fun w hi => hi.cell_old (hc.has o v hv) hc.far) kk
theorem TQ.ldHBA {t : TypeId} {x : Operand} {b k : Nat} {cs : List Value} (hc : HB C.w0 C.M b cs) (q0_ : ops[i]? = some ⟨some d, .load t x, ty, Zm, af, g⟩ ∧ Yd ops E g = true ∧ Nat.ble (d + 1) C.n = true ∧ ev E x = some (.pointer (some ⟨b, 0, none⟩)) ∧ cs.length = k) (hT : Up C.P t k = true)
    (kk : TQ C ops Q l ((d, .agg cs.toArray) :: E) H) : TQ C ops Q (i :: l) E H := have ⟨ho, hg, hd, hx, hk⟩ := q0_;
  TQ.loadS ho hg hd hx hT hk (fun w hi j v hv => by rw [Addr.add_mid, Nat.zero_add]; exact hi.cell_old (hc.has j v hv) hc.far) kk
theorem TQ.slH {α : Type} {xs : List α} {t e : TypeId} {x y : Operand} {base : Option Addr} {n c s : Nat} {k : IntKind} {p : Int} (hn : xs.length = n) (hc : n ≤ c) (hp : 0 ≤ p ∧ p ≤ (xs.length : Int))
    (q0_ : ops[i]? = some ⟨some d, .slice t x none (some y) none, ty, Zm, af, g⟩ ∧ Yd ops E g = true ∧ Nat.ble (d + 1) C.n = true ∧ ev E x = some (.slice base n c) ∧ ev E y = some (.int k p)) (ht : Wx C.P t = some e) (hs : Xt C.P e = some s)
    (kk : TQ C ops Q l ((d, .slice base p.toNat c) :: E) H) : TQ C ops Q (i :: l) E H := have ⟨ho, hg, hd, hx, hy⟩ := q0_;
  Zke ho hg hd hx hy ht hs hp.1 (by have := hp.2; omega) kk
theorem Nb {α : Type} {xs : List α} {t e : TypeId} {x y : Operand} {ob : Option Nat} {n c s : Nat} {k : IntKind} {p : Int} (hz : ob = none → c = 0) (hc : n ≤ c) (hn : xs.length = n) (hp : inb p xs.length)
    (q0_ : ops[i]? = some ⟨some d, .indexAddr t x y, ty, Zm, af, g⟩ ∧ Yd ops E g = true ∧ Nat.ble (d + 1) C.n = true ∧ ev E x = some (.slice (sb ob) n c) ∧ ev E y = some (.int k p)) (ht : Wx C.P t = some e) (hs : Xt C.P e = some s)
    (kk : TQ C ops Q l ((d, .pointer (some (ea (sb ob) (p.toNat * s)))) :: E) H) : TQ C ops Q (i :: l) E H := by
  obtain ⟨ho, hg, hd, hx, hy⟩ := q0_
  obtain ⟨b, rfl⟩ := Z13 hz hc hn hp
  exact TQ.ix0 hn hp ho hg hd hx hy ht hs (by rw [← Z0r]; exact kk)
theorem Gy {t T' : TypeId} {x : Operand} {ob : Option Nat} {n c : Nat} {k : IntKind} {p : Int} {xs : List Int} {j : List Value} {fr : Nat × Nat} (hz : ob = none → c = 0) (hc : n ≤ c) (hn : xs.length = n) (hp : inb p xs.length) (q0_ : ops[i]? = some ⟨some d, .load t x, ty, Zm, af, g⟩ ∧ Yd ops E g = true ∧ Nat.ble (d + 1) C.n = true ∧ ev E x = some (.pointer (some (ea (sb ob) (p.toNat * 1))))) (hT : Vc C.P t = true) (hm : (ob, Obj.cells (arr (intC k) xs j).toArray T' fr) ∈ H)
    (kk : TQ C ops Q l ((d, .int k (xs.getD p.toNat 0)) :: E) H) : TQ C ops Q (i :: l) E H := by
  obtain ⟨ho, hg, hd, hx⟩ := q0_
  obtain ⟨b, rfl⟩ := Z13 hz hc hn hp
  exact TQ.ldIO hp ho hg hd (by rw [← Z0r, ← Nat.mul_one p.toNat]; exact hx) hT hm kk
theorem Zfl {α : Type} {f : α → List Value} {s : Nat} {t : TypeId} {x : Operand} {base : Option Addr} {n c : Nat} {p : Int} {ms : List SM} {xss : List (List α)} (hr : RW C.w0 C.M f s base n c ms xss) (hp : inb p xss.length) (q0_ : ops[i]? = some ⟨some d, .load t x, ty, Zm, af, g⟩ ∧ Yd ops E g = true ∧ Nat.ble (d + 1) C.n = true ∧ ev E x = some (.pointer (some (ea base (p.toNat * 1))))) (hT : Vc C.P t = true)
    (kk : TQ C ops Q l ((d, .slice (ms.getD p.toNat default).1 (ms.getD p.toNat default).2.1 (ms.getD p.toNat default).2.2) :: E) H) : TQ C ops Q (i :: l) E H := have ⟨ho, hg, hd, hx⟩ := q0_;
  TQ.load ho hg hd hx hT (fun w hi => by
    have := (hr.rs.ro.monoM hr.rs.far hi).at default (o := p.toNat) (c := 0) (Uw (hr.inb hp)) (by omega)
    simpa [We] using this) kk
end rules
end Go.Acq
namespace Go.Acq
open Go Go.RowKit
section rules
variable {C : Cx} {ops : Array Oper} {Q : Exit → Act → World → Prop} {l : List Nat} {E : Env} {H R : Heap} {i d : Nat} {ty : TypeId} {Zm : String} {af : Array Edge} {g : Option (Nat × Bool)}
end rules
end Go.Acq
namespace Go.Acq
open Go Go.RowKit
section
variable {C : Cx} {Q : Exit → Act → World → Prop} {E : Env} {H : Heap} {c x y : Code}
theorem T.loopEM {α : Type} (φ : α → Prop) (L : α → Env) (Hs : α → Heap) (μ : α → Nat) (D : α → List Deferred) (s0 : α) (hD : C.D = D s0) (h0 : φ s0) (hE : AllF (L s0) E) (hH : Pick (Hs s0) H)
    (round : ∀ s, φ s → T { C with D := D s } c (Exit.then (fun a w => ∃ s', φ s' ∧ μ s' < μ s ∧ Fits C.n (D s') (L s') a ∧ Inv C.w0 C.M w (Hs s')) Q) (L s) (Hs s)) : T C (.loop c) Q E H := by
  intro a w hf hi b k cs hro hb hr
  have key : ∀ j s a w, μ s = j → φ s → Fits C.n (D s) (L s) a → Inv C.w0 C.M w (Hs s) →
      ∃ e a' w', Q e a' w' ∧ ArrivesIn (Machine.fenced C.P (FW C.ρ)) C.P (lone (b.atR a (.code c :: .inLoop c :: k)) cs w) b k cs e a' w' := by
    intro j
    induction j using Nat.strongRecOn with
    | _ j ih =>
      intro s a w hj hφ hfit hinv
      obtain ⟨e, a₁, w₁, hq, harr⟩ := round s hφ a w hfit hinv b (.inLoop c :: k) cs hro hb hr
      cases e with
      | normal =>
        obtain ⟨s', hφ', hlt, hfit', hinv'⟩ := hq
        obtain ⟨e₂, a₂, w₂, hq₂, harr₂⟩ := ih (μ s') (hj ▸ hlt) s' a₁ w₁ rfl hφ' hfit' hinv'
        exact ⟨e₂, a₂, w₂, hq₂, .of_steps (StepsIn.trans harr (.one (fenced_calm hb hr rfl) stepR_inLoop)) harr₂⟩
      | exit id => exact ⟨_, a₁, w₁, hq, .pass (x := .inLoop c) rfl (fun _ _ => .inl (by simp)) harr⟩
      | goto l => exact ⟨_, a₁, w₁, hq, .pass (x := .inLoop c) rfl (fun _ _ => .inl (by simp)) harr⟩
      | ret => exact ⟨_, a₁, w₁, hq, .pass (x := .inLoop c) rfl (fun _ _ => .inl (by simp)) harr⟩
      | panic ch => exact ⟨_, a₁, w₁, hq, .pass (x := .inLoop c) rfl (fun _ _ => .inl (by simp)) harr⟩
      | outgrown => exact ⟨_, a₁, w₁, hq, .pass (x := .inLoop c) rfl (fun _ _ => .inl (by simp)) harr⟩
  have hf0 : Fits C.n (D s0) (L s0) a := by rw [← hD]; exact hf.all hE
  obtain ⟨e, a', w', hq, harr⟩ := key _ s0 a w rfl h0 hf0 (hi.pick hH)
  exact ⟨e, a', w', hq, .of_steps (.one (fenced_calm hb hr rfl) stepR_loop) harr⟩
theorem Zhv {α0 α1 α2 α3 α4 α5 : Type} (φ : α0 → α1 → α2 → α3 → α4 → α5 → Prop) (L : α0 → α1 → α2 → α3 → α4 → α5 → Env) (Hs : α0 → α1 → α2 → α3 → α4 → α5 → Heap) (D : α0 → α1 → α2 → α3 → α4 → α5 → List Deferred) (hx : T C x (Exit.then (fun ac w => ∃ (b0 : α0) (b1 : α1) (b2 : α2) (b3 : α3) (b4 : α4) (b5 : α5), φ b0 b1 b2 b3 b4 b5 ∧ Fits C.n (D b0 b1 b2 b3 b4 b5) (L b0 b1 b2 b3 b4 b5) ac ∧ Inv C.w0 C.M w (Hs b0 b1 b2 b3 b4 b5)) Q) E H)
    (hy : ∀ (b0 : α0) (b1 : α1) (b2 : α2) (b3 : α3) (b4 : α4) (b5 : α5), φ b0 b1 b2 b3 b4 b5 → T { C with D := D b0 b1 b2 b3 b4 b5 } y Q (L b0 b1 b2 b3 b4 b5) (Hs b0 b1 b2 b3 b4 b5)) : T C x (Exit.then (y.wpIn (FW C.ρ) 0 C.P Q) Q) E H := T.mono hx (fun e ac w h => by
  cases e with
  | normal => obtain ⟨b0, b1, b2, b3, b4, b5, h1, h2, h3⟩ := h; exact hy b0 b1 b2 b3 b4 b5 h1 ac w h2 h3
  | _ => exact h)
theorem X.metEM6 {α0 α1 α2 α3 α4 α5 : Type} {φ : α0 → α1 → α2 → α3 → α4 → α5 → Prop} {L : α0 → α1 → α2 → α3 → α4 → α5 → Env} {Hs : α0 → α1 → α2 → α3 → α4 → α5 → Heap} {D : α0 → α1 → α2 → α3 → α4 → α5 → List Deferred} {Cn : Nat} {Cw : World} {CM : List Nat} (b0 : α0) (b1 : α1) (b2 : α2) (b3 : α3) (b4 : α4) (b5 : α5) (hφ : φ b0 b1 b2 b3 b4 b5) (q0_ : Cn = C.n ∧ Cw = C.w0 ∧ CM = C.M ∧ C.D = D b0 b1 b2 b3 b4 b5) (hL : AllF (L b0 b1 b2 b3 b4 b5) E) (hH : Pick (Hs b0 b1 b2 b3 b4 b5) H) :
    X C (Exit.then (fun ac w => ∃ (b0 : α0) (b1 : α1) (b2 : α2) (b3 : α3) (b4 : α4) (b5 : α5), φ b0 b1 b2 b3 b4 b5 ∧ Fits Cn (D b0 b1 b2 b3 b4 b5) (L b0 b1 b2 b3 b4 b5) ac ∧ Inv Cw CM w (Hs b0 b1 b2 b3 b4 b5)) Q) .normal E H := have ⟨hn, hw, hM, hD⟩ := q0_; fun _ _ hf hi => ⟨b0, b1, b2, b3, b4, b5, hφ, by rw [hn, ← hD]; exact hf.all hL, by rw [hw, hM]; exact hi.pick hH⟩
theorem Zgm {α0 α1 α2 α3 α4 α5 α6 α7 : Type} (φ : α0 → α1 → α2 → α3 → α4 → α5 → α6 → α7 → Prop) (L : α0 → α1 → α2 → α3 → α4 → α5 → α6 → α7 → Env) (Hs : α0 → α1 → α2 → α3 → α4 → α5 → α6 → α7 → Heap) (μ : α0 → α1 → α2 → α3 → α4 → α5 → α6 → α7 → Nat) (D : α0 → α1 → α2 → α3 → α4 → α5 → α6 → α7 → List Deferred) (a0 : α0) (a1 : α1) (a2 : α2) (a3 : α3) (a4 : α4) (a5 : α5) (a6 : α6) (a7 : α7) (hD : C.D = D a0 a1 a2 a3 a4 a5 a6 a7) (h0 : φ a0 a1 a2 a3 a4 a5 a6 a7) (hE : AllF (L a0 a1 a2 a3 a4 a5 a6 a7) E) (hH : Pick (Hs a0 a1 a2 a3 a4 a5 a6 a7) H)
    (round : ∀ (a0 : α0) (a1 : α1) (a2 : α2) (a3 : α3) (a4 : α4) (a5 : α5) (a6 : α6) (a7 : α7), φ a0 a1 a2 a3 a4 a5 a6 a7 → T { C with D := D a0 a1 a2 a3 a4 a5 a6 a7 } c (Exit.then (fun ac w => ∃ (b0 : α0) (b1 : α1) (b2 : α2) (b3 : α3) (b4 : α4) (b5 : α5) (b6 : α6) (b7 : α7), φ b0 b1 b2 b3 b4 b5 b6 b7 ∧ μ b0 b1 b2 b3 b4 b5 b6 b7 < μ a0 a1 a2 a3 a4 a5 a6 a7 ∧ Fits C.n (D b0 b1 b2 b3 b4 b5 b6 b7) (L b0 b1 b2 b3 b4 b5 b6 b7) ac ∧ Inv C.w0 C.M w (Hs b0 b1 b2 b3 b4 b5 b6 b7)) Q) (L a0 a1 a2 a3 a4 a5 a6 a7) (Hs a0 a1 a2 a3 a4 a5 a6 a7)) : T C (.loop c) Q E H :=
  T.loopEM (α := α0 × α1 × α2 × α3 × α4 × α5 × α6 × α7) (fun s => φ s.1 s.2.1 s.2.2.1 s.2.2.2.1 s.2.2.2.2.1 s.2.2.2.2.2.1 s.2.2.2.2.2.2.1 s.2.2.2.2.2.2.2) (fun s => L s.1 s.2.1 s.2.2.1 s.2.2.2.1 s.2.2.2.2.1 s.2.2.2.2.2.1 s.2.2.2.2.2.2.1 s.2.2.2.2.2.2.2) (fun s => Hs s.1 s.2.1 s.2.2.1 s.2.2.2.1 s.2.2.2.2.1 s.2.2.2.2.2.1 s.2.2.2.2.2.2.1 s.2.2.2.2.2.2.2) (fun s => μ s.1 s.2.1 s.2.2.1 s.2.2.2.1 s.2.2.2.2.1 s.2.2.2.2.2.1 s.2.2.2.2.2.2.1 s.2.2.2.2.2.2.2) (fun s => D s.1 s.2.1 s.2.2.1 s.2.2.2.1 s.2.2.2.2.1 s.2.2.2.2.2.1 s.2.2.2.2.2.2.1 s.2.2.2.2.2.2.2) (a0, a1, a2, a3, a4, a5, a6, a7) hD h0 hE hH (fun s hs => T.mono (round s.1 s.2.1 s.2.2.1 s.2.2.2.1 s.2.2.2.2.1 s.2.2.2.2.2.1 s.2.2.2.2.2.2.1 s.2.2.2.2.2.2.2 hs) (fun e ac w h => by
    cases e with
    | normal => obtain ⟨b0, b1, b2, b3, b4, b5, b6, b7, h1, h2, h3, h4⟩ := h; exact ⟨⟨b0, b1, b2, b3, b4, b5, b6, b7⟩, h1, h2, h3, h4⟩
    | _ => exact h))
theorem Zgj {α0 α1 α2 α3 α4 α5 α6 α7 : Type} {φ : α0 → α1 → α2 → α3 → α4 → α5 → α6 → α7 → Prop} {L : α0 → α1 → α2 → α3 → α4 → α5 → α6 → α7 → Env} {Hs : α0 → α1 → α2 → α3 → α4 → α5 → α6 → α7 → Heap} {μ : α0 → α1 → α2 → α3 → α4 → α5 → α6 → α7 → Nat} {D : α0 → α1 → α2 → α3 → α4 → α5 → α6 → α7 → List Deferred} {Cn : Nat} {Cw : World} {CM : List Nat} {m : Nat} (b0 : α0) (b1 : α1) (b2 : α2) (b3 : α3) (b4 : α4) (b5 : α5) (b6 : α6) (b7 : α7) (hφ : φ b0 b1 b2 b3 b4 b5 b6 b7) (hμ : μ b0 b1 b2 b3 b4 b5 b6 b7 < m) (q0_ : Cn = C.n ∧ Cw = C.w0 ∧ CM = C.M ∧ C.D = D b0 b1 b2 b3 b4 b5 b6 b7) (hL : AllF (L b0 b1 b2 b3 b4 b5 b6 b7) E) (hH : Pick (Hs b0 b1 b2 b3 b4 b5 b6 b7) H) :
    X C (Exit.then (fun ac w => ∃ (b0 : α0) (b1 : α1) (b2 : α2) (b3 : α3) (b4 : α4) (b5 : α5) (b6 : α6) (b7 : α7), φ b0 b1 b2 b3 b4 b5 b6 b7 ∧ μ b0 b1 b2 b3 b4 b5 b6 b7 < m ∧ Fits Cn (D b0 b1 b2 b3 b4 b5 b6 b7) (L b0 b1 b2 b3 b4 b5 b6 b7) ac ∧ Inv Cw CM w (Hs b0 b1 b2 b3 b4 b5 b6 b7)) Q) .normal E H := have ⟨hn, hw, hM, hD⟩ := q0_; fun _ _ hf hi => ⟨b0, b1, b2, b3, b4, b5, b6, b7, hφ, hμ, by rw [hn, ← hD]; exact hf.all hL, by rw [hw, hM]; exact hi.pick hH⟩
end
end Go.Acq
namespace Go.Acq
open Go
end Go.Acq
namespace Go.Acq
open Go Go.RowKit
theorem Zk {α : Type} {x : α} {l : List α} : x ∈ x :: l := .head _
theorem Yi {α : Type} {a0 x : α} {l : List α} : x ∈ a0 :: x :: l := .tail _ Zk
theorem Yx {α : Type} {a0 a1 x : α} {l : List α} : x ∈ a0 :: a1 :: x :: l := .tail _ Yi
theorem Wa {α : Type} {a0 a1 a2 x : α} {l : List α} : x ∈ a0 :: a1 :: a2 :: x :: l := .tail _ Yx
theorem Wt {α : Type} {a0 a1 a2 a3 x : α} {l : List α} : x ∈ a0 :: a1 :: a2 :: a3 :: x :: l := .tail _ Wa
theorem Ui {α : Type} {a0 a1 a2 a3 a4 x : α} {l : List α} : x ∈ a0 :: a1 :: a2 :: a3 :: a4 :: x :: l := .tail _ Wt
theorem Ur {α : Type} {a0 a1 a2 a3 a4 a5 x : α} {l : List α} : x ∈ a0 :: a1 :: a2 :: a3 :: a4 :: a5 :: x :: l := .tail _ Ui
theorem Jz {α : Type} {a0 a1 a2 a3 a4 a5 a6 x : α} {l : List α} : x ∈ a0 :: a1 :: a2 :: a3 :: a4 :: a5 :: a6 :: x :: l := .tail _ Ur
theorem Nx {α : Type} {a0 a1 a2 a3 a4 a5 a6 a7 x : α} {l : List α} : x ∈ a0 :: a1 :: a2 :: a3 :: a4 :: a5 :: a6 :: a7 :: x :: l := .tail _ Jz
theorem mm9 {α : Type} {a0 a1 a2 a3 a4 a5 a6 a7 a8 x : α} {l : List α} : x ∈ a0 :: a1 :: a2 :: a3 :: a4 :: a5 :: a6 :: a7 :: a8 :: x :: l := .tail _ Nx
theorem mm10 {α : Type} {a0 a1 a2 a3 a4 a5 a6 a7 a8 a9 x : α} {l : List α} : x ∈ a0 :: a1 :: a2 :: a3 :: a4 :: a5 :: a6 :: a7 :: a8 :: a9 :: x :: l := .tail _ mm9
theorem mm11 {α : Type} {a0 a1 a2 a3 a4 a5 a6 a7 a8 a9 a10 x : α} {l : List α} : x ∈ a0 :: a1 :: a2 :: a3 :: a4 :: a5 :: a6 :: a7 :: a8 :: a9 :: a10 :: x :: l := .tail _ mm10
theorem mm12 {α : Type} {a0 a1 a2 a3 a4 a5 a6 a7 a8 a9 a10 a11 x : α} {l : List α} : x ∈ a0 :: a1 :: a2 :: a3 :: a4 :: a5 :: a6 :: a7 :: a8 :: a9 :: a10 :: a11 :: x :: l := .tail _ mm11
theorem mm13 {α : Type} {a0 a1 a2 a3 a4 a5 a6 a7 a8 a9 a10 a11 a12 x : α} {l : List α} : x ∈ a0 :: a1 :: a2 :: a3 :: a4 :: a5 :: a6 :: a7 :: a8 :: a9 :: a10 :: a11 :: a12 :: x :: l := .tail _ mm12
theorem mm14 {α : Type} {a0 a1 a2 a3 a4 a5 a6 a7 a8 a9 a10 a11 a12 a13 x : α} {l : List α} : x ∈ a0 :: a1 :: a2 :: a3 :: a4 :: a5 :: a6 :: a7 :: a8 :: a9 :: a10 :: a11 :: a12 :: a13 :: x :: l := .tail _ mm13
theorem mm15 {α : Type} {a0 a1 a2 a3 a4 a5 a6 a7 a8 a9 a10 a11 a12 a13 a14 x : α} {l : List α} : x ∈ a0 :: a1 :: a2 :: a3 :: a4 :: a5 :: a6 :: a7 :: a8 :: a9 :: a10 :: a11 :: a12 :: a13 :: a14 :: x :: l := .tail _ mm14
theorem mm16 {α : Type} {a0 a1 a2 a3 a4 a5 a6 a7 a8 a9 a10 a11 a12 a13 a14 a15 x : α} {l : List α} : x ∈ a0 :: a1 :: a2 :: a3 :: a4 :: a5 :: a6 :: a7 :: a8 :: a9 :: a10 :: a11 :: a12 :: a13 :: a14 :: a15 :: x :: l := .tail _ mm15
theorem mm17 {α : Type} {a0 a1 a2 a3 a4 a5 a6 a7 a8 a9 a10 a11 a12 a13 a14 a15 a16 x : α} {l : List α} : x ∈ a0 :: a1 :: a2 :: a3 :: a4 :: a5 :: a6 :: a7 :: a8 :: a9 :: a10 :: a11 :: a12 :: a13 :: a14 :: a15 :: a16 :: x :: l := .tail _ mm16
theorem mm18 {α : Type} {a0 a1 a2 a3 a4 a5 a6 a7 a8 a9 a10 a11 a12 a13 a14 a15 a16 a17 x : α} {l : List α} : x ∈ a0 :: a1 :: a2 :: a3 :: a4 :: a5 :: a6 :: a7 :: a8 :: a9 :: a10 :: a11 :: a12 :: a13 :: a14 :: a15 :: a16 :: a17 :: x :: l := .tail _ mm17
theorem Ze {x : Option Nat × Obj} {l : Heap} : Take x (x :: l) (l) := Take.head _ _
theorem Zt {a0 x : Option Nat × Obj} {l : Heap} : Take x (a0 :: x :: l) (a0 :: l) := Take.tail Ze
theorem Zs {a0 a1 x : Option Nat × Obj} {l : Heap} : Take x (a0 :: a1 :: x :: l) (a0 :: a1 :: l) := Take.tail Zt
theorem Wj {a0 a1 a2 x : Option Nat × Obj} {l : Heap} : Take x (a0 :: a1 :: a2 :: x :: l) (a0 :: a1 :: a2 :: l) := Take.tail Zs
theorem Vk {a0 a1 a2 a3 x : Option Nat × Obj} {l : Heap} : Take x (a0 :: a1 :: a2 :: a3 :: x :: l) (a0 :: a1 :: a2 :: a3 :: l) := Take.tail Wj
theorem Xu {a0 a1 a2 a3 a4 x : Option Nat × Obj} {l : Heap} : Take x (a0 :: a1 :: a2 :: a3 :: a4 :: x :: l) (a0 :: a1 :: a2 :: a3 :: a4 :: l) := Take.tail Vk
theorem Ja {a0 a1 a2 a3 a4 a5 x : Option Nat × Obj} {l : Heap} : Take x (a0 :: a1 :: a2 :: a3 :: a4 :: a5 :: x :: l) (a0 :: a1 :: a2 :: a3 :: a4 :: a5 :: l) := Take.tail Xu
theorem tk7 {a0 a1 a2 a3 a4 a5 a6 x : Option Nat × Obj} {l : Heap} : Take x (a0 :: a1 :: a2 :: a3 :: a4 :: a5 :: a6 :: x :: l) (a0 :: a1 :: a2 :: a3 :: a4 :: a5 :: a6 :: l) := Take.tail Ja
theorem tk8 {a0 a1 a2 a3 a4 a5 a6 a7 x : Option Nat × Obj} {l : Heap} : Take x (a0 :: a1 :: a2 :: a3 :: a4 :: a5 :: a6 :: a7 :: x :: l) (a0 :: a1 :: a2 :: a3 :: a4 :: a5 :: a6 :: a7 :: l) := Take.tail tk7
theorem Gd {a0 a1 a2 a3 a4 a5 a6 a7 a8 x : Option Nat × Obj} {l : Heap} : Take x (a0 :: a1 :: a2 :: a3 :: a4 :: a5 :: a6 :: a7 :: a8 :: x :: l) (a0 :: a1 :: a2 :: a3 :: a4 :: a5 :: a6 :: a7 :: a8 :: l) := Take.tail tk8
theorem tk10 {a0 a1 a2 a3 a4 a5 a6 a7 a8 a9 x : Option Nat × Obj} {l : Heap} : Take x (a0 :: a1 :: a2 :: a3 :: a4 :: a5 :: a6 :: a7 :: a8 :: a9 :: x :: l) (a0 :: a1 :: a2 :: a3 :: a4 :: a5 :: a6 :: a7 :: a8 :: a9 :: l) := Take.tail Gd
theorem tk11 {a0 a1 a2 a3 a4 a5 a6 a7 a8 a9 a10 x : Option Nat × Obj} {l : Heap} : Take x (a0 :: a1 :: a2 :: a3 :: a4 :: a5 :: a6 :: a7 :: a8 :: a9 :: a10 :: x :: l) (a0 :: a1 :: a2 :: a3 :: a4 :: a5 :: a6 :: a7 :: a8 :: a9 :: a10 :: l) := Take.tail tk10
theorem tk12 {a0 a1 a2 a3 a4 a5 a6 a7 a8 a9 a10 a11 x : Option Nat × Obj} {l : Heap} : Take x (a0 :: a1 :: a2 :: a3 :: a4 :: a5 :: a6 :: a7 :: a8 :: a9 :: a10 :: a11 :: x :: l) (a0 :: a1 :: a2 :: a3 :: a4 :: a5 :: a6 :: a7 :: a8 :: a9 :: a10 :: a11 :: l) := Take.tail tk11
theorem tk13 {a0 a1 a2 a3 a4 a5 a6 a7 a8 a9 a10 a11 a12 x : Option Nat × Obj} {l : Heap} : Take x (a0 :: a1 :: a2 :: a3 :: a4 :: a5 :: a6 :: a7 :: a8 :: a9 :: a10 :: a11 :: a12 :: x :: l) (a0 :: a1 :: a2 :: a3 :: a4 :: a5 :: a6 :: a7 :: a8 :: a9 :: a10 :: a11 :: a12 :: l) := Take.tail tk12
theorem tk14 {a0 a1 a2 a3 a4 a5 a6 a7 a8 a9 a10 a11 a12 a13 x : Option Nat × Obj} {l : Heap} : Take x (a0 :: a1 :: a2 :: a3 :: a4 :: a5 :: a6 :: a7 :: a8 :: a9 :: a10 :: a11 :: a12 :: a13 :: x :: l) (a0 :: a1 :: a2 :: a3 :: a4 :: a5 :: a6 :: a7 :: a8 :: a9 :: a10 :: a11 :: a12 :: a13 :: l) := Take.tail tk13
theorem tk15 {a0 a1 a2 a3 a4 a5 a6 a7 a8 a9 a10 a11 a12 a13 a14 x : Option Nat × Obj} {l : Heap} : Take x (a0 :: a1 :: a2 :: a3 :: a4 :: a5 :: a6 :: a7 :: a8 :: a9 :: a10 :: a11 :: a12 :: a13 :: a14 :: x :: l) (a0 :: a1 :: a2 :: a3 :: a4 :: a5 :: a6 :: a7 :: a8 :: a9 :: a10 :: a11 :: a12 :: a13 :: a14 :: l) := Take.tail tk14
theorem tk16 {a0 a1 a2 a3 a4 a5 a6 a7 a8 a9 a10 a11 a12 a13 a14 a15 x : Option Nat × Obj} {l : Heap} : Take x (a0 :: a1 :: a2 :: a3 :: a4 :: a5 :: a6 :: a7 :: a8 :: a9 :: a10 :: a11 :: a12 :: a13 :: a14 :: a15 :: x :: l) (a0 :: a1 :: a2 :: a3 :: a4 :: a5 :: a6 :: a7 :: a8 :: a9 :: a10 :: a11 :: a12 :: a13 :: a14 :: a15 :: l) := Take.tail tk15
theorem Pick.tailM {X Es H' : Heap} (h : Pick H' Es) : Pick (X ++ H') (Es ++ X) := by
 obtain ⟨R, ns, hn, hp⟩ := h
 refine ⟨R, ns, hn, ?_⟩
 have e1 : List.Perm ((Es ++ X) ++ ns) (X ++ (Es ++ ns)) := by
  rw [← List.append_assoc]; exact List.Perm.append_right ns List.perm_append_comm
 rw [List.append_assoc X H' R]
 exact e1.trans (List.Perm.append_left X hp)
def Va : Value → Nat → Value
  | .agg cs, q => cs.getD q undef
  | _, _ => undef
theorem Gone.refl (R : Heap) : List.Perm R ([] ++ R) := List.Perm.refl R
section rules
variable {C : Cx} {ops : Array Oper} {Q : Exit → Act → World → Prop} {l : List Nat} {E : Env} {H R : Heap} {i d : Nat} {ty : TypeId} {Zm : String} {af : Array Edge} {g : Option (Nat × Bool)}
theorem TO.nilCheck {x : Operand} {p : Addr} (q0_ : ops[i]? = some ⟨some d, .nilCheck x, ty, Zm, af, g⟩ ∧ Yd ops E g = true ∧ Nat.ble (d + 1) C.n = true ∧ ev E x = some (.pointer (some p)))
    (k : TO C ops Q l ((d, .pointer (some p)) :: E) H) : TO C ops Q (i :: l) E H := have ⟨ho, hg, hd, hx⟩ := q0_;
  TO.val ho hg hd (by simp) (fun a w hf _ => by simp [execOp, hf.ev hx]) k
end rules
section rules
variable {C : Cx} {ops : Array Oper} {Q : Act → Prop} {l : List Nat} {E : Env} {H R : Heap} {i d : Nat} {ty : TypeId} {Zm : String} {af : Array Edge} {g : Option (Nat × Bool)}
theorem TQ.nilCheck {x : Operand} {p : Addr} (q0_ : ops[i]? = some ⟨some d, .nilCheck x, ty, Zm, af, g⟩ ∧ Yd ops E g = true ∧ Nat.ble (d + 1) C.n = true ∧ ev E x = some (.pointer (some p)))
    (k : TQ C ops Q l ((d, .pointer (some p)) :: E) H) : TQ C ops Q (i :: l) E H := have ⟨ho, hg, hd, hx⟩ := q0_;
  TQ.val ho hg hd (by simp) (fun a w hf _ => by simp [execOp, hf.ev hx]) k
end rules
section draw
variable {C : Cx} {ops : Array Oper} {Q : Exit → Act → World → Prop} {E : Env} {H : Heap}
theorem Z1w {A B Tl : Heap} (X Hx : Heap) : List.Perm (X ++ ((A ++ Tl) ++ (B ++ Hx))) (X ++ (A ++ (B ++ (Tl ++ Hx)))) := by
 refine List.Perm.append_left X ?_
 rw [List.append_assoc]
 refine List.Perm.append_left A ?_
 rw [← List.append_assoc, ← List.append_assoc]
 exact List.Perm.append_right Hx List.perm_append_comm
theorem ObQ.tail {S : List Sp} {W : Env} {Hc : Heap} {i : Nat} (Tl : Heap) (h : ObQ C ops Q S W Hc i) : ObQ C ops Q S W (Hc ++ Tl) i := by
 intro vs es Es Hx hr a w hf hi
 refine Z1y (l2 := []) (fun e a w hne hq => ?_) (fun a w hq => ?_) [i] a w (h vs es Es (Tl ++ Hx) hr a w hf (hi.perm (Z1w [] Hx)))
 · cases e <;> first | exact absurd rfl hne | exact hq
 ·
  obtain ⟨v, e', h1, h2, h3⟩ := hq
  exact ⟨v, e', h1, h2, h3.perm (Z1w e' Hx).symm⟩
theorem ObE.tail {S : List Sp} {HR : Nat → List Value → Heap → Prop} {hd : List (List Nat)} {W : Env} {Hc : Heap} {i : Nat} (Tl : Heap) (h : ObE C ops Q S HR hd W Hc i) : ObE C ops Q S HR hd W (Hc ++ Tl) i := by
 intro vs es Es Hx hb hr hh a w hf hi
 refine Z1y (l2 := []) (fun e a w hne hq => ?_) (fun a w hq => ?_) [i] a w (h vs es Es (Tl ++ Hx) hb hr hh a w hf (hi.perm (Z1w hb Hx)))
 · cases e <;> first | exact absurd rfl hne | exact hq
 ·
  obtain ⟨v, hb', h1, h2, h3, h4⟩ := hq
  exact ⟨v, hb', h1, h2, h3, h4.perm (Z1w hb' Hx).symm⟩
theorem ObsG.tail {S : List Sp} {HR : Nat → List Value → Heap → Prop} {hd : List (List Nat)} {W : Env} {Hc : Heap} (Tl : Heap) : ∀ {l : List Nat}, ObsG C ops Q S HR hd W Hc l → ObsG C ops Q S HR hd W (Hc ++ Tl) l
 | [], _ => trivial
 | i :: l, ⟨h1, h2⟩ => by
  refine ⟨?_, ObsG.tail Tl h2⟩
  cases he : Wk S i with
  | true => rw [he] at h1; exact ObE.tail Tl h1
  | false => rw [he] at h1; exact ObQ.tail Tl h1
theorem T.drawLT {id : Nat} (S : List Sp) (sl : List Nat) (m : Nat) (HR : Nat → List Value → Heap → Prop) (hd : List (List Nat)) (hb0 Hc Tl : Heap)
    (hm : C.P.follows .mixedOrders = true) (hsm : S.length = m) (hsl : Uz ops (List.range m) = sl) (hb : Gj ops = true) (ht : Np ops m = true) (hgood : Rf ops S hd = true) (hms : Nat.ble m ops.size = true)
    (hn : Gu sl = true) (h0 : HR 0 [] hb0) (hH : Pick (hb0 ++ (Hc ++ Tl)) H)
    (obs : ObsG C ops Q S HR hd (wo sl E) Hc (List.range m))
    (k : ∀ (vs : Nat → Value) (es : Nat → Heap) (hb : Heap), Jy S vs es (List.range m) → HR ((List.range m).filter (Wk S)).length ((hd.getD ((List.range m).filter (Wk S)).length []).map vs) hb →
      TO C ops Q (List.range' m (ops.size - m)) (Uc ops vs (List.range m) ++ wo sl E) ((hb ++ (Hc ++ Vm es ((List.range m).filter fun j => !Gm S j))) ++ Tl)) :
    T C (.region id ops true) Q E H :=
  Jb S sl m HR hd hb0 (Hc ++ Tl) hm hsm hsl hb ht hgood hms hn h0 hH (ObsG.tail Tl obs) fun vs es hb h1 h2 a w hf hi => k vs es hb h1 h2 a w hf (hi.perm (by
    simp only [List.append_assoc]
    exact List.Perm.append_left hb (List.Perm.append_left Hc List.perm_append_comm)))
end draw
end Go.Acq
namespace Go.Acq
open Go Go.RowKit Go.Conc
abbrev chanO (q : IntKind) (x : Chan) (s r : Nat) : Obj := .chan x.cap (x.buf.map (Value.int q)).toArray false s r false
def wpK (P : Program) (c : Code) (Q : Exit → Act → World → Prop) (a : Act) (w : World) : Prop :=
  ∀ (b : Frame) (k : List Item) (cs : List Frame), b.kind ≠ .early → b.roundOf = none →
    ∃ e a' w', Q e a' w' ∧ ArrivesIn (Machine.fenced P (FW none)) P (lone (b.atR a (.code c :: k)) cs w) b k cs e a' w'
def wpOK (P : Program) (ops : Array Oper) (Q : Exit → Act → World → Prop) (l : List Nat) (a : Act) (w : World) : Prop :=
  ∀ (b : Frame) (k : List Item) (cs : List Frame), b.kind ≠ .early → b.roundOf = none →
    ∃ e a' w', Q e a' w' ∧ ArrivesIn (Machine.fenced P (FW none)) P (lone (b.atR a (.inRegion ops l :: k)) cs w) b k cs e a' w'
def TK (C : Cx) (c : Code) (Q : Exit → Act → World → Prop) (E : Env) (H : Heap) : Prop := ∀ a w, Fits C.n C.D E a → Inv C.w0 C.M w H → wpK C.P c Q a w
def TOK (C : Cx) (ops : Array Oper) (Q : Exit → Act → World → Prop) (l : List Nat) (E : Env) (H : Heap) : Prop := ∀ a w, Fits C.n C.D E a → Inv C.w0 C.M w H → wpOK C.P ops Q l a w
def Z27 : Value → Nat
  | .pointer (some a) => a.block
  | _ => 0
theorem Nm (n : Nat) : (FW none).room n := fun d hd => by cases hd
section
variable {C : Cx} {Q : Exit → Act → World → Prop} {E E' : Env} {H H' R : Heap} {x y c : Code} {ops : Array Oper} {l : List Nat} {i d : Nat} {ty : TypeId} {Zm : String} {af : Array Edge} {g : Option (Nat × Bool)}
theorem Lo (hρ : C.ρ = none) (h : T C c Q E H) : TK C c Q E H := fun a w hf hi b k cs _ hro => by
 have := h a w hf hi
 rw [hρ] at this
 exact this b k cs hro trivial (Nm _)
theorem TK.seq (h : TK C x (Exit.then (wpK C.P y Q) Q) E H) : TK C (.seq x y) Q E H := fun a w hf hi b k cs hk hro => by
 have h0 : (lone (b.atR a (.code (.seq x y) :: k)) cs w).fenced C.P (FW none) := fenced_calm trivial (Nm (cs.length + 1 + 0)) rfl
 obtain ⟨e, a₁, w₁, hq, harr⟩ := h a w hf hi b (.code y :: k) cs hk hro
 cases e with
 | normal =>
  obtain ⟨e₂, a₂, w₂, hq₂, harr₂⟩ := hq b k cs hk hro
  exact ⟨e₂, a₂, w₂, hq₂, .of_steps (.head h0 stepR_seq harr) harr₂⟩
 | exit id => exact ⟨_, a₁, w₁, hq, .of_steps (.one h0 stepR_seq) (.pass (x := .code y) rfl (fun _ _ => .inl (by simp)) harr)⟩
 | goto l => exact ⟨_, a₁, w₁, hq, .of_steps (.one h0 stepR_seq) (.pass (x := .code y) rfl (fun _ _ => .inl (by simp)) harr)⟩
 | ret => exact ⟨_, a₁, w₁, hq, .of_steps (.one h0 stepR_seq) (.pass (x := .code y) rfl (fun _ _ => .inl (by simp)) harr)⟩
 | panic ch => exact ⟨_, a₁, w₁, hq, .of_steps (.one h0 stepR_seq) (.pass (x := .code y) rfl (fun _ _ => .inl (by simp)) harr)⟩
 | outgrown => exact ⟨_, a₁, w₁, hq, .of_steps (.one h0 stepR_seq) (.pass (x := .code y) rfl (fun _ _ => .inl (by simp)) harr)⟩
theorem Lt (h : TK C y Q E H) : X C (Exit.then (wpK C.P y Q) Q) .normal E H := h
theorem TK.block {id : Nat} (h : TK C c (Exit.inBlock id Q) E H) : TK C (.block id c) Q E H := fun a w hf hi b k cs hk hro => by
 have h0 : (lone (b.atR a (.code (.block id c) :: k)) cs w).fenced C.P (FW none) := fenced_calm trivial (Nm (cs.length + 1 + 0)) rfl
 obtain ⟨e, a₁, w₁, hq, harr⟩ := h a w hf hi b (.inBlock id :: k) cs hk hro
 cases e with
 | normal => exact ⟨.normal, a₁, w₁, hq, .head h0 stepR_block (StepsIn.trans harr (.one (fenced_calm trivial (Nm (cs.length + 1 + 0)) rfl) stepR_inBlock))⟩
 | exit id' =>
  by_cases hid : id' = id
  ·
   simp only [Exit.inBlock, hid, if_true] at hq
   exact ⟨.normal, a₁, w₁, hq, .head h0 stepR_block (harr.1 k (by simp [exitTo, hid]))⟩
  ·
   simp only [Exit.inBlock, hid, if_false] at hq
   have this : (id == id') = false := by simp; exact fun h => hid h.symm
   have hx : exitTo id' (.inBlock id :: k) = exitTo id' k := by simp [exitTo, this]
   exact ⟨.exit id', a₁, w₁, hq, fun k' hk => .head h0 stepR_block (harr.1 k' (by rw [hx]; exact hk)),
    fun hr' hk => let ⟨k₁, h1, h2⟩ := harr.2 hr' (by rw [hx]; exact hk); ⟨k₁, h1, .head h0 stepR_block h2⟩⟩
 | goto l =>
  have hx : gotoIn l (.inBlock id :: k) = gotoIn l k := by simp [gotoIn]
  exact ⟨_, a₁, w₁, hq, fun k' hk => .head h0 stepR_block (harr.1 k' (by rw [hx]; exact hk)),
   fun hr' hk => let ⟨k₁, h1, h2⟩ := harr.2 hr' (by rw [hx]; exact hk); ⟨k₁, h1, .head h0 stepR_block h2⟩⟩
 | ret => exact ⟨_, a₁, w₁, hq, .of_steps (.one h0 stepR_block) harr⟩
 | panic ch => exact ⟨_, a₁, w₁, hq, .of_steps (.one h0 stepR_block) harr⟩
 | outgrown => exact ⟨_, a₁, w₁, hq, .of_steps (.one h0 stepR_block) harr⟩
theorem Zg8 {o : Operand} {t : Bool} (ho : ev E o = some (.bool t)) (h : TK C (if t then x else y) Q E H) : TK C (.cond o x y) Q E H := fun a w hf hi b k cs hk hro =>
 let ⟨e, a', w', q, r⟩ := h a w hf hi b k cs hk hro; ⟨e, a', w', q, .of_steps (.one (fenced_calm trivial (Nm (cs.length + 1 + 0)) rfl) (stepR_cond (hf.ev ho))) r⟩
theorem Zal {o : Operand} {b : Bool} (ho : ev E o = some (.bool b)) (hb : b = true) (ht : TK C x Q E H) : TK C (.cond o x y) Q E H := by subst hb; exact Zg8 ho ht
theorem Zac {o : Operand} {b : Bool} (ho : ev E o = some (.bool b)) (hb : b = false) (ht : TK C y Q E H) : TK C (.cond o x y) Q E H := by subst hb; exact Zg8 ho ht
theorem TK.condPT {o : Operand} {p : Prop} {hp : Decidable p} (ho : ev E o = some (.bool (@decide p hp))) (hb : p) (ht : TK C x Q E H) : TK C (.cond o x y) Q E H := Zal ho (decide_eq_true hb) ht
theorem TK.condPF {o : Operand} {p : Prop} {hp : Decidable p} (ho : ev E o = some (.bool (@decide p hp))) (hb : ¬p) (ht : TK C y Q E H) : TK C (.cond o x y) Q E H := Zac ho (decide_eq_false hb) ht
theorem TK.skip (hρ : C.ρ = none) (h : X C Q .normal E H) : TK C .skip Q E H := Lo hρ (T.skip h)
theorem TK.ret (hρ : C.ρ = none) (h : X C Q .ret E H) : TK C .ret Q E H := Lo hρ (T.ret h)
theorem TK.weak (h : TK C c Q E' H') (hE : ∀ t v, Xk E' t = some v → Xk E t = some v) (hH : Pick H' H) : TK C c Q E H := fun a w hf hi => h a w (hf.weak hE) (hi.pick hH)
theorem Z9x (h : AllF E' E) (k : TK C c Q E' H) : TK C c Q E H := fun a w hf hi => k a w (hf.weak fun t v hv => h.sub t v hv) hi
theorem TK.region {id : Nat} {ll : List Nat} (hl : List.range ops.size = ll) (h : TOK C ops Q ll E H) : TK C (.region id ops false) Q E H := fun a w hf hi b k cs hk hro => by
 subst hl
 exact let ⟨e, a', w', q, r⟩ := h a w hf hi b k cs hk hro; ⟨e, a', w', q, .of_steps (.one (fenced_calm trivial (Nm (cs.length + 1 + 0)) rfl) stepR_region) r⟩
theorem Zc9 (hρ : C.ρ = none) (h : TO C ops Q l E H) : TOK C ops Q l E H := fun a w hf hi b k cs _ hro => by
 have := h a w hf hi
 rw [hρ] at this
 exact wp_opsIn l a w this b k cs hro trivial (Nm _)
theorem wpQ_K {P : Program} {K : World → Prop} (l2 : List Nat) (l : List Nat) : ∀ a : Act, Nf P ops K (fun a => ∀ w, K w → wpOK P ops Q l2 a w) l a → ∀ w, K w → wpOK P ops Q (l ++ l2) a w := by
 induction l with
 | nil => exact fun a h w hw => h w hw
 | cons i rest ih =>
  intro a h w hw b k cs hk hro
  have hb : (FW none).fn b.fn := trivial
  have hr := Nm (cs.length + 1 + 0)
  simp only [Nf] at h
  show ∃ e a' w', Q e a' w' ∧ ArrivesIn (Machine.fenced P (FW none)) P (lone (b.atR a (.inRegion ops (i :: (rest ++ l2)) :: k)) cs w) b k cs e a' w'
  cases ho : ops[i]? with
  | none =>
   simp only [ho] at h
   obtain ⟨e, a', w', hq, harr⟩ := ih a h w hw b k cs hk hro
   have hs := stepR_op_skip (P := P) (b := b) (a := a) (k := k) (cs := cs) (w := w) (ops := ops) (i := i) (rest := rest ++ l2) (by simp [ho])
   simp only [ho, Option.bind_none, Act.put] at hs
   exact ⟨e, a', w', hq, .of_steps (.one (fenced_noOper hb hr ho) hs) harr⟩
  | some o =>
   simp only [ho] at h
   obtain ⟨hnd, hns, h⟩ := h
   have h0 : (lone (b.atR a (.inRegion ops (i :: (rest ++ l2)) :: k)) cs w).fenced P (FW none) := fenced_oper hb hr ho (fun _ _ => trivial)
   by_cases hx : Region.wanted o (yielded ops a.tmps) = true
   ·
    rw [if_pos hx] at h
    obtain ⟨v, h1, h2⟩ := h
    have h1 := h1 w hw
    generalize he : (execOp a.eval o).run P w = z at h1
    unfold Z2y at h1
    split at h1
    ·
     obtain ⟨rfl, rfl⟩ := h1
     obtain ⟨e, a', w', hq, harr⟩ := ih _ h2 _ hw b k cs hk hro
     refine ⟨e, a', w', hq, .of_steps (.one h0 ?_) harr⟩
     rw [Frame.atR_of_none hro, Frame.atR_of_none hro]
     exact step_solo_go rfl (stepG_value ho hx hk he)
    ·
     obtain ⟨rfl, h1⟩ := h1
     rename_i f args w0
     obtain ⟨e, w'', fr, ⟨rfl, hw''⟩, hsteps, hfn, hleave⟩ := ((callsIn_FW (ρ := none) (n := 0)).2 h1).2 (b.atR a (.inRegion ops (i :: (rest ++ l2)) :: k) :: cs) (Nm _)
     have henter : step P (lone (b.atR a (.inRegion ops (i :: (rest ++ l2)) :: k)) cs w0) = .next (lone (Frame.enter P f args .normal) (b.atR a (.inRegion ops (i :: (rest ++ l2)) :: k) :: cs) w0) :=
      step_lone_go (by rw [stepGR_op ho hx, Oper.semAt_eq _ _ _ hnd]; simp [stepG.apply, he, Frame.atR])
     have hl : (lone fr (b.atR a (.inRegion ops (i :: (rest ++ l2)) :: k) :: cs) w'').fenced P (FW none) := fenced_leaving (n := 0) trivial (Nm _) hleave
     obtain ⟨e, a', w₃, hq, harr⟩ := ih _ h2 _ hw'' b k cs hk hro
     refine ⟨e, a', w₃, hq, .of_steps (.head h0 henter (StepsIn.trans hsteps (.one hl ?_))) harr⟩
     have hfin : (b.atR a (.inRegion ops (i :: (rest ++ l2)) :: k)).finish v = b.atR (a.put o.dst v) (.inRegion ops (rest ++ l2) :: k) := by rw [Frame.finish_atR, ho]; rfl
     rw [← hfin]; exact step_leave_returned hleave
    · exact h1.elim
   ·
    rw [if_neg hx] at h
    obtain ⟨e, a', w', hq, harr⟩ := ih _ h w hw b k cs hk hro
    have hs := stepR_op_skip (P := P) (b := b) (a := a) (k := k) (cs := cs) (w := w) (ops := ops) (i := i) (rest := rest ++ l2) (by simp [ho]; simpa using hx)
    simp only [ho, Option.bind_some] at hs
    exact ⟨e, a', w', hq, .of_steps (.one h0 hs) harr⟩
theorem TOK.pre (l1 l2 : List Nat) {l : List Nat} (hl : l1 ++ l2 = l) (h : TQ C ops (fun a => ∀ w, Inv C.w0 C.M w H → wpOK C.P ops Q l2 a w) l1 E H) : TOK C ops Q l E H := fun a w hf hi => by
 subst hl
 exact wpQ_K l2 l1 a (h a hf) w hi
theorem TQ.doneK {l2 : List Nat} (h : TOK C ops Q l2 E H) : TQ C ops (fun a => ∀ w, Inv C.w0 C.M w H → wpOK C.P ops Q l2 a w) [] E H := fun a hf w hi => h a w hf hi
theorem TOK.comm {o : Oper} {cases : Array CommCase} {blocking : Bool} {shape : CommShape} {v : Value} (ho : ops[i]? = some o) (hg : Yd ops E o.guard = true)
    (hr : ∀ a w, Fits C.n C.D E a → Inv C.w0 C.M w H → (execOp a.eval o).run C.P w = .ok (.comm cases blocking shape) w)
    (hs : ∀ (b : Frame) (cs : List Frame) (w : World) (es : Array Event), Inv C.w0 C.M w H → stepG C.P true (G b cs) w = .comm (G b cs) cases blocking shape w es → ∃ w', step C.P (solo (G b cs) w) = .next (solo (G (b.finish v) cs) w') ∧ Inv C.w0 C.M w' H')
    (kk : ∀ a w, Fits C.n C.D E a → Inv C.w0 C.M w H' → wpOK C.P ops Q l (a.put o.dst v) w) : TOK C ops Q (i :: l) E H := fun a w hf hi b k cs hk hro => by
  have hx : Region.wanted o (yielded ops a.tmps) = true := Zcb hf hg
  obtain ⟨w', h1, h2⟩ := hs _ cs w _ hi (stepG_comm (b := b) (k := k) (cs := cs) (rest := l) ho hx hk (hr a w hf hi))
  obtain ⟨e, a', w'', hq, harr⟩ := kk a w' hf h2 b k cs hk hro
  refine ⟨e, a', w'', hq, .of_steps (.one (fenced_oper trivial (Nm (cs.length + 1 + 0)) ho (fun _ _ => trivial)) ?_) harr⟩
  rw [Frame.atR_of_none hro, Frame.atR_of_none hro]
  rw [Frame.finish_at, ho] at h1
  exact h1
theorem Zed {w : World} {c : Nat} {q : IntKind} {x x' : Chan} {s r s' r' : Nat} (hi : Inv C.w0 C.M w H) (ht : Take (some c, chanO q x s r) H R) :
    w.heap[c]? = some (chanO q x s r) ∧ Inv C.w0 C.M (w.setChan c x'.cap (x'.buf.map (Value.int q)).toArray false s' r' false) ((some c, chanO q x' s' r') :: R) := by
  have hb := hi.own _ _ ht.mem
  have hlt : c < w.heap.size := (Array.getElem?_eq_some_iff.1 hb).1
  refine ⟨hb, Inv.upd (o' := chanO q x' s' r') hi ht rfl rfl rfl (size_setChan ..) (heap_setChan _ _ _ _ _ _ _ _ hlt) fun k hk => ?_⟩
  simp only [World.setChan]; rw [Array.getElem?_setIfInBounds_ne (Ne.symm hk)]
theorem TOK.send {x y : Operand} {c : Nat} {q : IntKind} {u : Chan} {s r : Nat} {v : Int} (hroom : u.buf.length < u.cap) (ho : ops[i]? = some ⟨none, .send x y, ty, Zm, af, g⟩) (hg : Yd ops E g = true)
    (hx : ev E x = some (.chan (some c))) (hy : ev E y = some (.int q v)) (ht : Take (some c, chanO q u s r) H R)
    (kk : TOK C ops Q l E ((some c, chanO q (u.put v) (s + 1) r) :: R)) : TOK C ops Q (i :: l) E H :=
  TOK.comm (cases := #[scase c (.int q v) (.tuple #[])]) (blocking := true) (shape := .send) (v := undef) (H' := (some c, chanO q (u.put v) (s + 1) r) :: R) ho hg
    (fun a w hf _ => by simp [execOp, hf.ev hx, hf.ev hy, scase])
    (fun b cs w es hi h => by
      obtain ⟨h1, h2⟩ := Zed (x' := u.put v) (s' := s + 1) (r' := r) hi ht
      refine ⟨_, ?_, h2⟩
      rw [step_lone_send_room h h1 (by simpa using hroom)]
      simp [Chan.put])
    (fun a w hf hi => kk a w hf hi)
theorem TOK.selD {x : Operand} {et : TypeId} {c : Nat} {q : IntKind} {u : Chan} {s r : Nat} {z : Value} (hbuf : u.buf = []) (ho : ops[i]? = some ⟨some d, .select #[⟨x, none, et⟩] false, ty, Zm, af, g⟩) (hg : Yd ops E g = true) (hd : Nat.ble (d + 1) C.n = true)
    (hx : ev E x = some (.chan (some c))) (hz : Vj C.P et = some z) (hm : (some c, chanO q u s r) ∈ H)
    (kk : TOK C ops Q l ((d, .tuple #[.int .i64 (-1), .bool false, z]) :: E) H) : TOK C ops Q (i :: l) E H :=
  TOK.comm (cases := #[rcase c z]) (blocking := false) (shape := .select) (v := .tuple #[goInt (-1), .bool false, z]) (H' := H) ho hg
    (fun a w hf _ => by simp [execOp, hf.ev hx, rcase, Zbh hz])
    (fun b cs w es hi h => ⟨w, step_lone_select_default (cap := u.cap) (s := s) (r := r) (tm := false) h (by have h1 := hi.own _ _ hm; simp only [chanO, hbuf] at h1; exact h1), hi⟩)
    (fun a w hf hi => kk _ w (hf.put hd _) hi)
theorem res_r0 (c : Nat) (z v : Value) (ok : Bool) : commResult #[rcase c z] .select ((0 : Nat) : Int) v ok = .tuple #[goInt 0, .bool ok, v] := by
 simp [commResult, rcase, List.zipIdx_cons]
theorem TOK.selR {x : Operand} {et : TypeId} {c : Nat} {q : IntKind} {u : Chan} {s r : Nat} {z : Value} (hbuf : u.buf ≠ []) (ho : ops[i]? = some ⟨some d, .select #[⟨x, none, et⟩] false, ty, Zm, af, g⟩) (hg : Yd ops E g = true) (hd : Nat.ble (d + 1) C.n = true)
    (hx : ev E x = some (.chan (some c))) (hz : Vj C.P et = some z) (ht : Take (some c, chanO q u s r) H R)
    (kk : TOK C ops Q l ((d, .tuple #[.int .i64 0, .bool true, .int q (u.buf.getD 0 0)]) :: E) ((some c, chanO q u.cut s (r + 1)) :: R)) : TOK C ops Q (i :: l) E H := by
  obtain ⟨cap, buf⟩ := u
  cases buf with
  | nil => exact absurd rfl hbuf
  | cons v0 l0 =>
    refine TOK.comm (cases := #[rcase c z]) (blocking := false) (shape := .select) (v := .tuple #[goInt 0, .bool true, .int q v0]) (H' := (some c, chanO q (Chan.cut ⟨cap, v0 :: l0⟩) s (r + 1)) :: R) ho hg
      (fun a w hf _ => by simp [execOp, hf.ev hx, rcase, Zbh hz]) (fun b cs w es hi h => ?_) (fun a w hf hi => kk _ w (hf.put hd _) hi)
    obtain ⟨h1, h2⟩ := Zed (x' := Chan.cut ⟨cap, v0 :: l0⟩) (s' := s) (r' := r + 1) hi ht
    refine ⟨_, ?_, h2⟩
    rw [step_lone_sel_recv_buf (k := 0) (c := c) (z := z) h rfl (fun m c' hm hc => ?_) h1 (by simp), res_r0]
    · simp [Chan.cut, List.take_of_length_le]
    · rcases m with _ | m
      · exact absurd rfl hm
      · simp at hc
def chanT (P : Program) (t : TypeId) : Option TypeId :=
  match P.underlying t with
  | some (.chan _ e) => some e
  | _ => none
theorem Zlg {P : Program} {t e : TypeId} (h : chanT P t = some e) : ∃ d, P.underlying t = some (.chan d e) := by
 unfold chanT at h
 split at h
 ·
  rename_i d e' he
  injection h with h; subst h
  exact ⟨d, he⟩
 · cases h
theorem Zho {t e : TypeId} {x : Operand} {n : Int} {b q : Nat} {kq : IntKind} (h : chok n b) (q0_ : ops[i]? = some ⟨some d, .makeChan t x, ty, Zm, af, g⟩ ∧ Yd ops E g = true ∧ Nat.ble (d + 1) C.n = true ∧ ev E x = some (.int .i64 n)) (hc : chanT C.P t = some e) (hb : Jf C.P e = some b) (k : ∀ c, TO C ops Q l ((d, .chan (some c)) :: E) ((some c, chanO kq ⟨n.toNat, []⟩ 0 0) :: H)) : TO C ops Q (i :: l) E H := by
  obtain ⟨ho, hg, hd, hx⟩ := q0_
  obtain ⟨dir, h1⟩ := Zlg hc
  obtain ⟨i0, h2, h3⟩ := Option.map_eq_some_iff.1 hb
  obtain ⟨m, rfl⟩ : ∃ m : Nat, n = m := ⟨n.toNat, by omega⟩
  exact Z0u (fun c => .chan (some c)) ho hg hd (by simp) (fun a w hf _ => by
    have := run_makeChan (P := C.P) (w := w) h1 h2 .i64 m (by omega) (by rw [h3]; omega)
    simp only [execOp, hf.ev hx]
    simp [this]
    rfl) k
theorem Zeo {t T' : TypeId} {x : Operand} {b o k : Nat} {cs vs : List Value} {fr : Nat × Nat} (q0_ : ops[i]? = some ⟨some d, .load t x, ty, Zm, af, g⟩ ∧ Yd ops E g = true ∧ Nat.ble (d + 1) C.n = true ∧ ev E x = some (.pointer (some ⟨b, o, none⟩))) (hT : Up C.P t k = true) (hm : (some b, Obj.cells cs.toArray T' fr) ∈ H) (q1_ : (cs.drop o).take k = vs ∧ vs.length = k)
    (kk : TO C ops Q l ((d, .agg vs.toArray) :: E) H) : TO C ops Q (i :: l) E H := have ⟨ho, hg, hd, hx⟩ := q0_; have ⟨hv, hk⟩ := q1_;
  Z7b ho hg hd hx hT hk (fun w hi j v hj => by
    rw [Addr.add_mid, hi.cell_own hm]
    subst hv
    rw [List.getElem?_take] at hj
    split at hj
    · rw [List.getElem?_drop] at hj; simpa using hj
    · cases hj) kk
theorem X.obQn {S : List Sp} {W Es B B' : Env} {Hc Hx : Heap} {e' De : Heap} {vl : List Value} {H' : Heap} (hs : Wb ops i = none) (hr : Kb S i vl undef e') (hH : Pick (e' ++ (Hc ++ (De ++ Hx))) H') (hB : B = B') :
    X C (fun e a w => match e with
      | .normal => ∃ v e', Kb S i vl v e' ∧ Fits C.n C.D (Gb (Wb ops i) v (B ++ (W ++ Es))) a ∧ Inv C.w0 C.M w (e' ++ (Hc ++ (De ++ Hx)))
      | e => Q e a w) .normal (B' ++ (W ++ Es)) H' := by
  subst hB
  exact fun _ _ hf hi => ⟨undef, e', hr, by rw [hs]; exact hf, hi.pick hH⟩
theorem Zcx {P : Program} {f : FuncId} {fn : Func} {c : Code} {vs : List Value} {w : World} {M : List Nat} {H : Heap} {Post : Value → Heap → Prop}
    (hf : P.funcs[f]? = some fn) (hb : fn.body = some c) (hn : Nat.ble vs.length fn.ntmps = true) (hi : Inv w M w H)
    (h : TK ⟨P, none, fn.ntmps, [], w, M⟩ c (bodyPost P fn (Jd w M Post)) (Z16 0 vs) H) : Fnc P f vs.toArray w M Post := by
  have hn' := Nat.le_of_ble_eq_true hn
  refine callsIn_FW (ρ := none) (n := 0) |>.1 ⟨trivial, fun cs hr => ?_⟩
  let b : Frame := { (default : Frame) with fn := f, kind := .normal, roundOf := none }
  have henter : Frame.enter P f vs.toArray .normal = b.atR { tmps := vs.toArray ++ Array.replicate (fn.ntmps - vs.toArray.size) undef, defers := [] } [.code c] := by
    simp [Frame.enter, Frame.atR, hf, hb, b]
  obtain ⟨e, a', w', hq, harr⟩ := h { tmps := vs.toArray ++ Array.replicate (fn.ntmps - vs.toArray.size) undef, defers := [] } w ⟨by simp; omega, rfl, fun t v hv => by
    obtain ⟨_, h2⟩ := Z8v vs 0 t v hv
    rw [Nat.sub_zero] at h2
    have hlt := (List.getElem?_eq_some_iff.1 h2).1
    simp only [Array.getD_eq_getD_getElem?]
    rw [Array.getElem?_append_left (by simpa using hlt)]
    simp [h2]⟩ hi b [] cs (by simp [b]) rfl
  rw [← henter] at harr
  cases e with
  | normal =>
    obtain ⟨hd, v, hr', hR⟩ := hq
    exact ⟨.returned v, w', _, hR, StepsIn.trans harr (.one (fenced_calm (fr := b.atR a' []) trivial hr rfl) (stepR_end rfl)), rfl, rfl, hd, rfl, fn, hf, hr'⟩
  | ret =>
    obtain ⟨hd, v, hr', hR⟩ := hq
    obtain ⟨todo, hs⟩ := harr.1 rfl
    exact ⟨.returned v, w', _, hR, hs, rfl, rfl, hd, rfl, fn, hf, hr'⟩
  | panic chain =>
    obtain ⟨hd, hR⟩ := hq
    obtain ⟨todo, hs⟩ := harr
    exact ⟨.panicked chain, w', _, hR, hs, rfl, rfl, hd, fn, hf⟩
  | exit id => exact hq.elim
  | goto l => exact hq.elim
  | outgrown => exact ⟨.outgrown, w', b, hq, harr.resolve_left (by simp [b]), rfl, trivial⟩
end
end Go.Acq
namespace Go.Acq
open Go Go.RowKit
section rules
variable {C : Cx} {ops : Array Oper} {Q : Exit → Act → World → Prop} {l : List Nat} {E : Env} {H R : Heap} {i d : Nat} {ty : TypeId} {Zm : String} {af : Array Edge} {g : Option (Nat × Bool)}
end rules
end Go.Acq
namespace Go.Acq
open Go Go.RowKit
section
variable {α : Type} {w0 w : World} {M M' : List Nat} {f : α → List Value} {s n c : Nat} {base : Option Addr} {xs ys : List α} {ob : Option Nat} {j : List Value} {H Hm R : Heap} {T' : TypeId} {fr : Nat × Nat}
def Seen (w0 : World) (M : List Nat) (f : α → List Value) (s : Nat) (base : Option Addr) (n c : Nat) (xs ys : List α) (ob : Option Nat) : Prop :=
  (base = sb ob ∧ ys = xs ∧ xs.length = n ∧ n ≤ c ∧ (ob = none → c = 0)) ∨ RS w0 M f s base n c xs
theorem Seen.own (hn : xs.length = n) (hc : n ≤ c) (hz : ob = none → c = 0) : Seen w0 M f s (sb ob) n c xs xs ob := .inl ⟨rfl, rfl, hn, hc, hz⟩
theorem Seen.ro (h : RS w0 M f s base n c xs) : Seen w0 M f s base n c xs [] none := .inr h
theorem Seen.len (h : Seen w0 M f s base n c xs ys ob) : xs.length = n := h.elim (fun h => h.2.2.1) (fun h => h.len)
theorem Seen.cap (h : Seen w0 M f s base n c xs ys ob) : n ≤ c := h.elim (fun h => h.2.2.2.1) (fun h => h.cap)
theorem Seen.nil (h : Seen w0 M f s base n c xs ys ob) (hb : base = none) : n = 0 := by
 rcases h with ⟨h1, h2, h3, h4, h5⟩ | h
 ·
  cases ob with
  | none => have := h5 rfl; omega
  | some b => rw [h1] at hb; cases hb
 · exact h.ro.nil hb
theorem Seen.rs (h : Seen w0 M f s base n c xs ys ob) (hf : ∀ x, (f x).length = s) (hi : Inv w0 M w H) (hm : (ob, Obj.cells (arr f ys j).toArray T' fr) ∈ H) : RS w [] f s base n c xs := by
 rcases h with ⟨rfl, rfl, h3, h4, h5⟩ | h
 · exact hi.rs hf hm h3 h4 h5
 · exact h.mono hi
theorem Seen.rsM (h : Seen w0 M f s base n c xs ys ob) (hf : ∀ x, (f x).length = s) (hs : 0 < s) (hi : Inv w0 M w H) (hp : List.Perm H (Hm ++ R)) (hM : Hm.filterMap (·.1) = M') (hm : (ob, Obj.cells (arr f ys j).toArray T' fr) ∈ R) : RS w M' f s base n c xs := by
 rcases h with ⟨rfl, rfl, h3, h4, h5⟩ | h
 · exact hi.rsM hf hp hM hm h3 h4 h5
 · exact h.monoM hs hi hp hM
end
section rules
variable {C : Cx} {ops : Array Oper} {Q : Exit → Act → World → Prop} {l : List Nat} {E : Env} {H R : Heap} {i d : Nat} {ty : TypeId} {Zm : String} {af : Array Edge} {g : Option (Nat × Bool)}
theorem T.label {c : Nat} (h : X C Q .normal E H) : T C (.label c) Q E H := fun a w hf hi => wpIn_label (h a w hf hi)
theorem T.scope {c : Code} (hρ : C.ρ = none) (h : T C c (Exit.noGoto Q) E H) : T C (.scope c) Q E H := fun a w hf hi => by
 have h1 := h a w hf hi
 rw [hρ] at h1 ⊢
 exact wpIn_wide.2 (wp_scope_straight (wpIn_wide.1 h1))
theorem Zeu (h : X C Q .ret E H) : X C (Exit.noGoto Q) .ret E H := h
end rules
end Go.Acq
namespace Go.Acq
end Go.Acq
namespace Go.Acq
open Go Go.RowKit
section
variable {α : Type} {q : IntKind} {f : α → Value} {k : Int × Int} {z v : α}
end
section
variable {P : Program} {w : World} {kt i : TypeId} {q : IntKind}
end
section rules
variable {C : Cx} {ops : Array Oper} {Q : Exit → Act → World → Prop} {l : List Nat} {E : Env} {H R : Heap} {i d : Nat} {ty : TypeId} {Zm : String} {af : Array Edge} {g : Option (Nat × Bool)}
variable {α : Type} {q : IntKind} {f : α → Value}
end rules
end Go.Acq
namespace Go.Acq
open Go
end Go.Acq
namespace Go.Acq
open Go Go.RowKit
section rules
variable {C : Cx} {ops : Array Oper} {Q : Exit → Act → World → Prop} {l : List Nat} {E : Env} {H R : Heap} {i d : Nat} {ty : TypeId} {Zm : String} {af : Array Edge} {g : Option (Nat × Bool)}
end rules
end Go.Acq
namespace Go.Acq
open Go Go.RowKit
def Kept (ob obK ob' : Option Nat) : Prop := obK = ob ∨ (obK = none ∧ ob' = ob)
section rules
variable {C : Cx} {ops : Array Oper} {Q : Exit → Act → World → Prop} {l : List Nat} {E : Env} {H R : Heap} {i d : Nat} {ty : TypeId} {Zm : String} {af : Array Edge} {g : Option (Nat × Bool)}
theorem Kept.rs {α : Type} {w0 w : World} {M : List Nat} {f : α → List Value} {s n c n2 c2 : Nat} {ob obK ob' : Option Nat} {xs ys : List α} {j j' : List Value} {T T' : TypeId} {fr fr' : Nat × Nat} (h : Kept ob obK ob') (hi : Inv w0 M w H) (hf : ∀ x, (f x).length = s)
    (hm2 : (ob', Obj.cells (arr f (xs ++ ys) j').toArray T' fr') ∈ H) (hmK : (obK, Obj.cells (arr f xs j).toArray T fr) ∈ H) (hn2 : (xs ++ ys).length = n2) (hc2 : n2 ≤ c2) (h02 : ob' = none → c2 = 0) (hn : xs.length = n) (hc : n ≤ c) (h0 : ob = none → c = 0) : RS w [] f s (sb ob) n c xs := by
  rcases h with rfl | ⟨rfl, rfl⟩
  · exact hi.rs hf hmK hn hc h0
  · have h1 := hi.rs hf hm2 hn2 hc2 h02
    have h2 := h1.take (p := (n : Int)) ⟨Int.natCast_nonneg n, by rw [List.length_append]; omega⟩
    rw [Int.toNat_natCast, List.take_left' hn] at h2
    exact ⟨h2.ro, fun _ _ _ => by simp, hc⟩
end rules
end Go.Acq
namespace Go.Acq
open Go Go.RowKit
section
variable {C : Cx} {ops : Array Oper} {Q : Exit → Act → World → Prop} {E : Env} {H : Heap}
def ObsG2 (C : Cx) (ops : Array Oper) (Q : Exit → Act → World → Prop) (S : List Sp) (HR : Nat → List Value → Heap → Prop) (hd : List (List Nat)) (W : Env) (Hc : Heap) : List Nat → Prop
  | [] => True
  | i :: l => (cond (Wk S i) (ObE2 C ops Q S HR hd W Hc i) (ObQ C ops Q S W Hc i)) ∧ ObsG2 C ops Q S HR hd W Hc l
theorem ObsG2.get {S : List Sp} {HR : Nat → List Value → Heap → Prop} {hd : List (List Nat)} {W : Env} {Hc : Heap} : ∀ {l : List Nat}, ObsG2 C ops Q S HR hd W Hc l → ∀ i, i ∈ l → (cond (Wk S i) (ObE2 C ops Q S HR hd W Hc i) (ObQ C ops Q S W Hc i))
 | [], _, i, h => by cases h
 | j :: l, ⟨h1, h2⟩, i, h => by
  rcases List.mem_cons.1 h with rfl | h
  · exact h1
  · exact ObsG2.get h2 i h
theorem Zd7 {S : List Sp} {HR : Nat → List Value → Heap → Prop} {hd : List (List Nat)} {W : Env} {Hc : Heap} : ∀ {l : List Nat}, ObsG2 C ops Q S HR hd W Hc l → ObsG3 C ops Q S HR hd [] W Hc l
 | [], _ => trivial
 | _ :: _, ⟨h1, h2⟩ => ⟨h1, Zd7 h2⟩
theorem T.drawG2 {id : Nat} (S : List Sp) (HR : Nat → List Value → Heap → Prop) (hd : List (List Nat)) (hb0 Hc : Heap)
    (hm : C.P.follows .mixedOrders = true) (hb : Gj ops = true) (ht : Np ops S.length = true) (hgood : Rf ops S hd = true) (hms : Nat.ble S.length ops.size = true)
    (hn : Gu (Uz ops (List.range S.length)) = true) (h0 : HR 0 [] hb0) (hH : Pick (hb0 ++ Hc) H)
    (obs : ObsG2 C ops Q S HR hd (wo (Uz ops (List.range S.length)) E) Hc (List.range S.length))
    (k : ∀ (vs : Nat → Value) (es : Nat → Heap) (hb : Heap), Jy S vs es (List.range S.length) → HR ((List.range S.length).filter (Wk S)).length ((hd.getD ((List.range S.length).filter (Wk S)).length []).map vs) hb →
      TO C ops Q (List.range' S.length (ops.size - S.length)) (Uc ops vs (List.range S.length) ++ wo (Uz ops (List.range S.length)) E) (hb ++ (Hc ++ Vm es ((List.range S.length).filter fun j => !Gm S j)))) :
    T C (.region id ops true) Q E H := Zbp S HR hd [] hb0 Hc hm hb ht hgood hms hn rfl trivial h0 hH (Zd7 obs) k
theorem Zfx {id : Nat} (S : List Sp) (sl : List Nat) (m : Nat) (HR : Nat → List Value → Heap → Prop) (hd : List (List Nat)) (hb0 Hc : Heap)
    (hm : C.P.follows .mixedOrders = true) (hsm : S.length = m) (hsl : Uz ops (List.range m) = sl) (hb : Gj ops = true) (ht : Np ops m = true) (hgood : Rf ops S hd = true) (hms : Nat.ble m ops.size = true)
    (hn : Gu sl = true) (h0 : HR 0 [] hb0) (hH : Pick (hb0 ++ Hc) H)
    (obs : ObsG2 C ops Q S HR hd (wo sl E) Hc (List.range m))
    (k : ∀ (vs : Nat → Value) (es : Nat → Heap) (hb : Heap), Jy S vs es (List.range m) → HR ((List.range m).filter (Wk S)).length ((hd.getD ((List.range m).filter (Wk S)).length []).map vs) hb →
      TO C ops Q (List.range' m (ops.size - m)) (Uc ops vs (List.range m) ++ wo sl E) (hb ++ (Hc ++ Vm es ((List.range m).filter fun j => !Gm S j)))) :
    T C (.region id ops true) Q E H := by
  subst hsm; subst hsl
  exact T.drawG2 S HR hd hb0 Hc hm hb ht hgood hms hn h0 hH obs k
theorem X.obE2 {S : List Sp} {HR : Nat → List Value → Heap → Prop} {W Es B B' : Env} {Hc Hx : Heap} {i k : Nat} {vl : List Value} {F : Value → List Value} {De hb' H' : Heap} (hs : Wb ops i = none) (hr : Kb S i vl undef []) (hh : HR k (F undef) hb')
    (hH : Pick (hb' ++ (Hc ++ (De ++ Hx))) H') (hB : B = B') :
    X C (fun e a w => match e with
      | .normal => ∃ v hb' e', Kb S i vl v e' ∧ HR k (F v) hb' ∧ Fits C.n C.D (Gb (Wb ops i) v (B ++ (W ++ Es))) a ∧ Inv C.w0 C.M w (hb' ++ (Hc ++ (e' ++ (De ++ Hx))))
      | e => Q e a w) .normal (B' ++ (W ++ Es)) H' := by
  subst hB
  exact fun _ _ hf hi => ⟨undef, hb', [], hr, hh, by rw [hs]; exact hf, hi.pick hH⟩
theorem Z86 {S : List Sp} {HR : Nat → List Value → Heap → Prop} {W Es B B' : Env} {Hc Hx : Heap} {i k d : Nat} {v : Value} {vl : List Value} {F : Value → List Value} {De hb' e' H' : Heap} (hs : Wb ops i = some d) (hr : Kb S i vl v e') (hh : HR k (F v) hb')
    (hH : Pick (hb' ++ (Hc ++ (e' ++ (De ++ Hx)))) H') (hB : B = B') :
    X C (fun e a w => match e with
      | .normal => ∃ v hb' e', Kb S i vl v e' ∧ HR k (F v) hb' ∧ Fits C.n C.D (Gb (Wb ops i) v (B ++ (W ++ Es))) a ∧ Inv C.w0 C.M w (hb' ++ (Hc ++ (e' ++ (De ++ Hx))))
      | e => Q e a w) .normal ((d, v) :: (B' ++ (W ++ Es))) H' := by
  subst hB
  exact fun _ _ hf hi => ⟨v, hb', e', hr, hh, by rw [hs]; exact hf, hi.pick hH⟩
end
end Go.Acq
namespace Go.Acq
open Go Go.RowKit
structure Qu {α : Type} (ob : Option Nat) (base : Option Addr) (n c : Nat) (xs ys : List α) (N C : Nat) : Prop where
  ex : ∃ o, o + n = N ∧ o + c = C ∧ xs = ys.drop o ∧ (0 < c → base = (sb ob).map (·.add o))
section
variable {α : Type} {ob : Option Nat} {base : Option Addr} {n c N C : Nat} {xs ys : List α} {w w0 : World} {M M' : List Nat} {H Hm R : Heap} {f : α → List Value} {j : List Value} {T' : TypeId} {fr : Nat × Nat}
theorem Qu.len (h : Qu ob base n c xs ys N C) (hn : ys.length = N) : xs.length = n := by
 obtain ⟨o, h1, _, rfl, _⟩ := h.ex
 rw [List.length_drop]; omega
theorem Qu.le (h : Qu ob base n c xs ys N C) (hc : N ≤ C) : n ≤ c := by
 obtain ⟨o, h1, h2, _, _⟩ := h.ex
 omega
theorem Zi9 (ob : Option Nat) : (sb ob).map (·.add 0) = sb ob := by cases ob <;> rfl
theorem Qu.self (ob : Option Nat) (ys : List α) (N C : Nat) : Qu ob (sb ob) N C ys ys N C := ⟨0, by omega, by omega, rfl, fun _ => (Zi9 ob).symm⟩
theorem Qu.drop (h : Qu ob base n c xs ys N C) {p : Int} (hp : 0 ≤ p ∧ p ≤ (xs.length : Int)) (hn : ys.length = N) (hc : N ≤ C) : Qu ob (Jv base p.toNat c 1) (n - p.toNat) (c - p.toNat) (xs.drop p.toNat) ys N C := by
 have hl := h.len hn
 have hle := h.le hc
 obtain ⟨o, h1, h2, rfl, h4⟩ := h.ex
 refine ⟨o + p.toNat, by omega, by omega, by rw [List.drop_drop], fun h5 => ?_⟩
 unfold Jv
 rw [if_neg (by omega), h4 (by omega)]
 cases ob with
 | none => rfl
 | some b => simp [Addr.add_lit]
theorem Qu.nil (h : Qu ob base n c xs ys N C) (hc : N ≤ C) (hz : ob = none → C = 0) : base = none → n = 0 := by
 intro hb
 have hle := h.le hc
 obtain ⟨o, h1, h2, rfl, h4⟩ := h.ex
 rcases Nat.eq_zero_or_pos c with h0 | h0
 · omega
 ·
  have := h4 h0
  rw [hb] at this
  cases ob with
  | none => have := hz rfl; omega
  | some b => cases this
theorem Qu.rsM (h : Qu ob base n c xs ys N C) (hi : Inv w0 M w H) (hf : ∀ x, (f x).length = 1) (hp : List.Perm H (Hm ++ R)) (hM : Hm.filterMap (·.1) = M') (hm : (ob, Obj.cells (arr f ys j).toArray T' fr) ∈ R) (hn : ys.length = N) (hc : N ≤ C) (hz : ob = none → C = 0) : RS w M' f 1 base n c xs := by
 have hl := h.len hn
 have hle := h.le hc
 have h9 := h.nil hc hz
 have hr := hi.rsM hf hp hM hm hn hc hz
 obtain ⟨o, h1, h2, rfl, h4⟩ := h.ex
 rcases Nat.eq_zero_or_pos c with h0 | h0
 ·
  have hn0 : n = 0 := by omega
  subst hn0
  have hx : ys.drop o = [] := List.eq_nil_of_length_eq_zero hl
  rw [hx]
  exact ⟨⟨rfl, fun _ => rfl, hf, fun o c h => by simp at h⟩, fun _ _ h => by omega, by omega⟩
 ·
  have h5 := hr.drop (p := (o : Int)) ⟨Int.natCast_nonneg o, by omega⟩
  rw [Int.toNat_natCast] at h5
  unfold Jv at h5
  rw [if_neg (by omega), Nat.mul_one, ← h4 h0, show N - o = n by omega, show C - o = c by omega] at h5
  exact h5
theorem Qu.rs (h : Qu ob base n c xs ys N C) (hi : Inv w0 M w H) (hf : ∀ x, (f x).length = 1) (hm : (ob, Obj.cells (arr f ys j).toArray T' fr) ∈ H) (hn : ys.length = N) (hc : N ≤ C) (hz : ob = none → C = 0) : RS w [] f 1 base n c xs :=
 h.rsM hi hf (Hm := []) (R := H) (List.Perm.refl _) rfl hm hn hc hz
end
section quiet
variable {C : Cx} {ops : Array Oper} {Q : Act → Prop} {l : List Nat} {E : Env} {H R : Heap} {i d : Nat} {ty : TypeId} {Zm : String} {af : Array Edge} {g : Option (Nat × Bool)}
end quiet
section rules
variable {C : Cx} {ops : Array Oper} {Q : Exit → Act → World → Prop} {l : List Nat} {E : Env} {H R : Heap} {i d : Nat} {ty : TypeId} {Zm : String} {af : Array Edge} {g : Option (Nat × Bool)}
theorem Z93 {α : Type} {xs ys : List α} {ob : Option Nat} {t e : TypeId} {x y : Operand} {base : Option Addr} {n c N K : Nat} {k : IntKind} {p : Int} (hr : Qu ob base n c xs ys N K) (hn : ys.length = N) (hc : N ≤ K) (hz : ob = none → K = 0) (hp : inb p xs.length)
    (q0_ : ops[i]? = some ⟨some d, .indexAddr t x y, ty, Zm, af, g⟩ ∧ Yd ops E g = true ∧ Nat.ble (d + 1) C.n = true ∧ ev E x = some (.slice base n c) ∧ ev E y = some (.int k p)) (ht : Wx C.P t = some e) (hs : Xt C.P e = some 1)
    (kk : TO C ops Q l ((d, .pointer (some (ea base (p.toNat * 1)))) :: E) H) : TO C ops Q (i :: l) E H := have ⟨ho, hg, hd, hx, hy⟩ := q0_;
  Z9u ho hg hd hx hy ht hs (hr.nil hc hz) hp.1 (by have := hp.2; rw [hr.len hn] at this; exact this) kk
theorem Z8r {t T' : TypeId} {x : Operand} {base : Option Addr} {n c N K : Nat} {k : IntKind} {p : Int} {xs ys : List Int} {ob : Option Nat} {j : List Value} {fr : Nat × Nat} (hr : Qu ob base n c xs ys N K) (hn : ys.length = N) (hc : N ≤ K) (hz : ob = none → K = 0) (hp : inb p xs.length)
    (q0_ : ops[i]? = some ⟨some d, .load t x, ty, Zm, af, g⟩ ∧ Yd ops E g = true ∧ Nat.ble (d + 1) C.n = true ∧ ev E x = some (.pointer (some (ea base (p.toNat * 1))))) (hT : Vc C.P t = true) (hm : (ob, Obj.cells (arr (intC k) ys j).toArray T' fr) ∈ H)
    (kk : TO C ops Q l ((d, .int k (xs.getD p.toNat 0)) :: E) H) : TO C ops Q (i :: l) E H := have ⟨ho, hg, hd, hx⟩ := q0_;
  TO.load ho hg hd hx hT (fun w hi => by
    have := (hr.rs hi (fun _ => rfl) hm hn hc hz).ro.at 0 (o := p.toNat) (c := 0) (Uw hp) (by omega)
    simpa using this) kk
theorem Zax {w : World} {n c : Nat} {e : TypeId} (h : n ≤ 4611686018427387904) : grownCap w n c e ≤ 9223372036854775807 := by
 unfold grownCap Question.cut
 have := Nat.mod_lt (w.tape w.drawn (.appendCap n c e)) (show 0 < 2 ^ 63 - n by omega)
 simp only
 omega
theorem Zfu {α : Type} {f : α → List Value} {s by' : Nat} {z : Value} {t e : TypeId} {x y : Operand} {ob : Option Nat} {base : Option Addr} {n c m cy : Nat} {xs ys : List α} {j : List Value}
    (hf : ∀ x, (f x).length = s) (h1 : ∀ x, (f x).all (·.oneCell') = true) (hT : ElemT C.P t e s by' z) (hk : apok (xs ++ ys).length by')
    (q0_ : ops[i]? = some ⟨some d, .call ⟨.builtin .append, #[x, y], #[t, t]⟩, ty, Zm, af, g⟩ ∧ Yd ops E g = true ∧ Nat.ble (d + 1) C.n = true ∧ ev E x = some (.slice (sb ob) n c) ∧ ev E y = some (.slice base m cy))
    (ht : Take (ob, .cells (arr f xs j).toArray e (0, 0)) H R) (hn : xs.length = n) (hnc : n ≤ c) (hj : j.length = (c - n) * s) (h0 : ob = none → c = 0) (hcm : c ≤ 9223372036854775807)
    (hsrc : ∀ w, Inv C.w0 C.M w H → RS w [] f s base m cy ys)
    (kk : ∀ (ob' : Option Nat) (c' : Nat) (j' : List Value), n + m ≤ c' → j'.length = (c' - (n + m)) * s → (ob' = none → c' = 0) → c' ≤ 9223372036854775807 → TO C ops Q l ((d, .slice (sb ob') (n + m) c') :: E) ((ob', .cells (arr f (xs ++ ys) j').toArray e (0, 0)) :: R)) :
    TO C ops Q (i :: l) E H := by
  obtain ⟨ho, hg, hd, hx, hy⟩ := q0_
  by_cases hmm : ys.length = m
  case neg =>
    intro a w _ hi
    exact absurd (hsrc w hi).len hmm
  rw [Jm hn hmm] at hk
  obtain ⟨hroom, hmax⟩ := hk
  refine Z10 ho hg (by simp) fun a w hfit hi => ?_
  obtain ⟨ti, hti, hsz⟩ := Z23 hT.size
  have hu := Ga hT.slice
  have hz' : ti.zero = some z := by have := hT.zero; simpa [Vj, hti] using this
  have hb' : ti.bytes = by' := by have := hT.bytes; simpa [Jf, hti] using this
  have hs := (hsrc w hi).ro
  have hro := hi.roO hf ht.mem hn (fun e => by have := h0 e; omega)
  have hexec : (execOp a.eval ⟨some d, .call ⟨.builtin .append, #[x, y], #[t, t]⟩, ty, Zm, af, g⟩).run C.P w = ((Builtin.append_ #[t, t] ty #[.slice (sb ob) n c, .slice base m cy]).run C.P w).andThen fun v w' => .ok (.value v) w' := by
    simp [execOp, resolve, invoke, builtin, hfit.ev hx, hfit.ev hy]
  rw [hexec]
  by_cases hr : n + m ≤ c
  · cases ob with
    | none =>
      have := h0 rfl
      subst this
      have hm0 : m = 0 := by omega
      subst hm0
      have hys : ys = [] := List.eq_nil_of_length_eq_zero hs.len
      subst hys
      have : (Builtin.append_ #[t, t] ty #[.slice none n 0, .slice base 0 cy]).run C.P w = .ok (.slice none n 0) w := by
        have hl := (hs.src hu h1 cy).len w
        have hc := (hs.src hu h1 cy).cells
        have hn0 : n = 0 := by omega
        subst hn0
        simp only [List.flatMap_nil] at hc
        simp [Builtin.append_, run_underlying hu, sizeOf, typeInfo, hti, hl, hsz, hc]
      simp only [sb, Option.map_none, this, Result.andThen_ok]
      refine kk none 0 j (by omega) (by omega) (fun _ => rfl) (by omega) _ _ (hfit.put hd _) ?_
      rw [List.append_nil]
      exact hi.perm ht
    | some b =>
      have hb := hi.own b _ ht.mem
      have hlen : (arr f xs j).length = c * s := by
        simp only [arr, List.length_append, Jh hf, hj, hn]
        rw [← Nat.add_mul]; congr 1; omega
      have hnews : (ys.flatMap f).length = m * s := by rw [Jh hf, hs.len]
      have hfit2 : n * s + (ys.flatMap f).length ≤ (arr f xs j).toArray.size := by
        rw [hnews, List.size_toArray, hlen, ← Nat.add_mul]; exact Nat.mul_le_mul_right s hr
      have hall := (hs.src hu h1 cy).one
      have hcell : ∀ q, q < (ys.flatMap f).length → (w.cell? ⟨b, 0 + n * ti.size + q, none⟩).isSome = true := fun q hq => by
        rw [hsz, Nat.zero_add, hi.cell_own ht.mem, Array.getElem?_eq_getElem (by omega)]; rfl
      have hr2 := run_append_room_src (P := C.P) w t t ty e ti hu hti b 0 n c (.slice base m cy) m (ys.flatMap f) (by rw [hsz]; exact hs.src hu h1 cy) hr hcell (fun q _ => hi.frozen_own ht.mem _)
      rw [hsz, Nat.zero_add, Zbt (P := C.P) hb hfit2 hall] at hr2
      simp only [sb, Option.map_some, hr2, Result.andThen_ok]
      refine kk (some b) c (j.drop (m * s)) hr ?_ (by simp) hcm _ _ (hfit.put hd _) ?_
      · rw [List.length_drop, hj, ← Nat.sub_mul]; congr 1; omega
      · have : ((arr f xs j).toArray.toList.take (n * s) ++ ys.flatMap f ++ (arr f xs j).toArray.toList.drop (n * s + (ys.flatMap f).length)).toArray = (arr f (xs ++ ys) (j.drop (m * s))).toArray := by
          have e1 : (xs.flatMap f).length = n * s := by rw [Jh hf, hn]
          simp only [arr, List.flatMap_append]
          rw [hnews]
          congr 1
          rw [← e1, List.take_left', List.drop_append]
          · simp [e1, List.append_assoc, List.drop_eq_nil_of_le (show (xs.flatMap f).length ≤ n * s + m * s by omega)]
          · rfl
        rw [← this]
        exact hi.setRow ht
  · have hold : (Builtin.firstCells ti.size n (.slice (sb ob) n c)).run C.P w.drew = .ok (xs.flatMap f).toArray w.drew := by rw [hsz]; exact hro.drew.first c
    have hg2 := run_append_grow_src (P := C.P) w t t ty e ti z hu hti hz' (sb ob) n c (xs.flatMap f) hold (.slice base m cy) m (ys.flatMap f) (by rw [hsz]; exact hs.src hu h1 cy) (by omega) (by omega) (by
      rw [hb']; exact growslice_fits (by omega) hroom)
    simp only [hg2, Result.andThen_ok]
    have hcap : n + m ≤ grownCap w (n + m) c e := by unfold grownCap Question.cut; simp only; omega
    refine kk (some w.heap.size) (grownCap w (n + m) c e) (Builtin.zeroCells z.cells (grownCap w (n + m) c e - (n + m))).toList hcap (by rw [Array.length_toList, size_zeroCells, hT.zsize]) (by simp) (Zax hmax) _ _ (hfit.put hd _) ?_
    have e2 : ((xs.flatMap f ++ ys.flatMap f).toArray ++ Builtin.zeroCells z.cells (grownCap w (n + m) c e - (n + m))) = (arr f (xs ++ ys) (Builtin.zeroCells z.cells (grownCap w (n + m) c e - (n + m))).toList).toArray := by
      simp only [arr, List.flatMap_append]
      apply Array.ext'
      simp [List.append_assoc]
    rw [e2]
    have h3 := (hi.perm ht).drew.alloc (Obj.cells (arr f (xs ++ ys) (Builtin.zeroCells z.cells (grownCap w (n + m) c e - (n + m))).toList).toArray e (0, 0))
    exact h3.pick (Z4t (S := [(ob, .cells (arr f xs j).toArray e (0, 0))]) (by
      refine List.Perm.cons _ ?_
      exact (List.perm_append_comm (l₁ := [(ob, Obj.cells (arr f xs j).toArray e (0, 0))]) (l₂ := R))))
end rules
end Go.Acq
namespace Go.Acq
open Go Go.RowKit Go.Proofs Go.Shelf
theorem Zex (xs : List Int) (i : Nat) : (xs.flatMap (intC .i64)).drop i = (xs.drop i).flatMap (intC .i64) := by
 induction xs generalizing i with
 | nil => simp
 | cons x xs ih => cases i with
  | zero => rfl
  | succ i => simpa [intC] using ih i
theorem Zky (xs : List Int) (i : Nat) : (xs.flatMap (intC .i64)).take i = (xs.take i).flatMap (intC .i64) := by
 induction xs generalizing i with
 | nil => simp
 | cons x xs ih => cases i with
  | zero => rfl
  | succ i => simpa [intC] using ih i
theorem Gz (xs : List Int) : (xs.flatMap (intC .i64)).length = xs.length := by rw [Jh (s := 1) (fun _ => rfl)]; omega
theorem Zcg (xs : List Int) : ∀ v, v ∈ xs.flatMap (intC .i64) → v.oneCell' = true := by
 intro v hv
 obtain ⟨x, _, hx⟩ := List.mem_flatMap.1 hv
 have : v = .int .i64 x := by simpa [intC] using hx
 rw [this]; rfl
section
variable {P : Program} {ρ : Ren} {w w0 : World} {M : List Nat} {H R : Heap} {b : Nat} {T : TypeId} {cs : Array Value}
theorem Inv.setCells (P : Program) (h : Inv w0 M w H) (ht : Take (some b, .cells cs T (0, 0)) H R) {o : Nat} {vs : List Value} (hfit : o + vs.length ≤ cs.size) (h1 : ∀ u, u ∈ vs → u.oneCell' = true) :
    Inv w0 M (w.setCells b o vs) ((some b, .cells (cs.toList.take o ++ vs ++ cs.toList.drop (o + vs.length)).toArray T (0, 0)) :: R) := by
  rw [Zbt (P := P) (h.own _ _ ht.mem) hfit h1]
  exact h.setRow ht
theorem Zfr (h : Inv w0 M w H) (hm : (some b, .cells cs T (0, 0)) ∈ H) : w.shape? b = some (T, cs.size) := by
 have := h.own _ _ hm
 simp [World.shape?, this]
theorem Zcw (ys : List Int) (j : List Value) : (arr (intC .i64) ys j).toArray.size = ys.length + j.length := by
 rw [List.size_toArray, arr, List.length_append, Gz]
theorem ins_list {α : Type} (A B D j U : List α) {o i m k : Nat} (hA : A.length = o) (hB : B.length = i) (hU : U.length = m) (hk : k = o + i) (hm : m ≤ j.length) :
    ((((A ++ B) ++ (D ++ j)).take (k + m) ++ D ++ ((A ++ B) ++ (D ++ j)).drop (k + m + D.length)).take k ++ U ++ (((A ++ B) ++ (D ++ j)).take (k + m) ++ D ++ ((A ++ B) ++ (D ++ j)).drop (k + m + D.length)).drop (k + U.length))
    = (A ++ B) ++ U ++ (D ++ j.drop m) := by
  have hAB : (A ++ B).length = k := by rw [List.length_append]; omega
  have h1 : ((A ++ B) ++ (D ++ j)).take (k + m) = (A ++ B) ++ (D ++ j).take m := by
    rw [List.take_append, List.take_of_length_le (by omega), hAB, Nat.add_sub_cancel_left]
  have h2 : ((A ++ B) ++ (D ++ j)).drop (k + m + D.length) = j.drop m := by
    rw [List.drop_append, List.drop_eq_nil_of_le (by omega), List.nil_append, hAB, show k + m + D.length - k = D.length + m by omega, List.drop_append, List.drop_eq_nil_of_le (by omega), List.nil_append, Nat.add_sub_cancel_left]
  have h3 : ((D ++ j).take m).length = m := by rw [List.length_take, List.length_append]; omega
  rw [h1, h2]
  generalize (D ++ j).take m = t at h3
  generalize j.drop m = j'
  generalize A ++ B = X at hAB ⊢
  have hY : X ++ t ++ D ++ j' = X ++ (t ++ (D ++ j')) := by simp only [List.append_assoc]
  rw [hY, List.take_left' hAB, List.drop_append, List.drop_eq_nil_of_le (by omega), List.nil_append, hAB, hU, Nat.add_sub_cancel_left, List.drop_left' h3]
theorem ins_grow {α : Type} (A D Z Z' U : List α) {p m : Nat} (hA : A.length = p) (hU : U.length = m) (hZ : Z.length = m + D.length) :
    ((A ++ Z ++ Z').take p ++ U ++ (A ++ Z ++ Z').drop (p + U.length)).take (p + m) ++ D ++ ((A ++ Z ++ Z').take p ++ U ++ (A ++ Z ++ Z').drop (p + U.length)).drop (p + m + D.length) = A ++ U ++ D ++ Z' := by
  have h1 : (A ++ Z ++ Z').take p = A := by rw [List.append_assoc, List.take_left' hA]
  have h2 : (A ++ Z ++ Z').drop (p + U.length) = (Z ++ Z').drop m := by
    rw [List.append_assoc, List.drop_append, List.drop_eq_nil_of_le (by omega), List.nil_append, hA, hU, Nat.add_sub_cancel_left]
  have hAU : (A ++ U).length = p + m := by rw [List.length_append]; omega
  rw [h1, h2, List.take_left' hAU, List.drop_append, List.drop_eq_nil_of_le (by omega), List.nil_append, hAU, Nat.add_sub_cancel_left, List.drop_drop, List.drop_left' hZ]
theorem Zh5 {ys : List Int} {j : List Value} {o i m : Nat} {us : List Int} (ho : o + i ≤ ys.length) (hm : us.length = m) (hj : m ≤ j.length) :
    (((arr (intC .i64) ys j).take (o + (i + m)) ++ ((ys.drop o).flatMap (intC .i64)).drop i ++ (arr (intC .i64) ys j).drop (o + (i + m) + (((ys.drop o).flatMap (intC .i64)).drop i).length)).take (o + i) ++ us.flatMap (intC .i64) ++
      ((arr (intC .i64) ys j).take (o + (i + m)) ++ ((ys.drop o).flatMap (intC .i64)).drop i ++ (arr (intC .i64) ys j).drop (o + (i + m) + (((ys.drop o).flatMap (intC .i64)).drop i).length)).drop (o + i + (us.flatMap (intC .i64)).length))
    = arr (intC .i64) (ys.take o ++ ((ys.drop o).take i ++ us ++ (ys.drop o).drop i)) (j.drop m) := by
  have hY : arr (intC .i64) ys j = ((ys.take o).flatMap (intC .i64) ++ ((ys.drop o).take i).flatMap (intC .i64)) ++ (((ys.drop o).drop i).flatMap (intC .i64) ++ j) := by
    show ys.flatMap (intC .i64) ++ j = _
    rw [← List.append_assoc, ← List.flatMap_append, ← List.flatMap_append, List.append_assoc, List.take_append_drop, List.take_append_drop]
  rw [Zex, hY, ← Nat.add_assoc]
  have := ins_list ((ys.take o).flatMap (intC .i64)) (((ys.drop o).take i).flatMap (intC .i64)) (((ys.drop o).drop i).flatMap (intC .i64)) j (us.flatMap (intC .i64)) (o := o) (i := i) (m := m) (k := o + i)
    (by rw [Gz, List.length_take]; omega) (by rw [Gz, List.length_take, List.length_drop]; omega) (by rw [Gz, hm]) rfl hj
  rw [this]
  simp only [arr, List.flatMap_append, List.append_assoc]
def InsP (T : TypeId) (r us : List Int) (b2 : Nat) (j2 : List Value) (v : Value) (N : Heap) : Prop :=
  ∃ (base' : Option Addr) (n' c' : Nat) (ob' : Option Nat) (N' C' : Nat) (ys' : List Int) (j' : List Value), v = .slice base' n' c' ∧
    N = [(ob', .cells (arr (intC .i64) ys' j').toArray T (0, 0)), (some b2, .cells (arr (intC .i64) us j2).toArray T (0, 0))] ∧ Qu ob' base' n' c' r ys' N' C' ∧ ys'.length = N' ∧ N' ≤ C' ∧ j'.length = (C' - N') * 1 ∧ (ob' = none → C' = 0) ∧ C' ≤ 9223372036854775807
theorem Zfb {xs : List Int} {n : Nat} {base : Option Addr} (h : RO w (intC .i64) 1 base n xs) {a : Addr} (ha : base = some a) : ∀ j v, (xs.flatMap (intC .i64))[j]? = some v → w.cell? (a.add j) = some v := by
 intro j v hj
 have := h.cells j v hj
 rw [ha] at this
 exact this
theorem Zi1 (L : Lays2.n21 P ρ) (w : World) {M : List Nat} {ob : Option Nat} {base : Option Addr} {n c N C : Nat} {xs ys : List Int} {j : List Value} {i : Int} {us : List Int} {b2 c2 : Nat} {j2 : List Value} {r : List Int}
    (hin : Inv w M w [(ob, .cells (arr (intC .i64) ys j).toArray (ρ.t 3) (0, 0)), (some b2, .cells (arr (intC .i64) us j2).toArray (ρ.t 3) (0, 0))])
    (hQ : Qu ob base n c xs ys N C) (hn : ys.length = N) (hc : N ≤ C) (hj : j.length = (C - N) * 1) (hz : ob = none → C = 0) (hC : C ≤ 9223372036854775807)
    (hi0 : 0 ≤ i) (hi1 : i ≤ (xs.length : Int)) (hm : 0 < us.length) (hap : apok (xs ++ us).length 8) (hr9 : r = xs.take i.toNat ++ us ++ xs.drop i.toNat) :
    Fnc P (ρ.f 21) #[.slice base n c, .int .i64 i, .slice (some ⟨b2, 0, none⟩) us.length c2] w M (InsP (ρ.t 3) r us b2 j2) := by
  subst hr9
  have hl := hQ.len hn
  have hle := hQ.le hc
  have hnil := hQ.nil hc hz
  have hR := hQ.rs hin (fun _ => rfl) (.head _) hn hc hz
  obtain ⟨p, rfl⟩ : ∃ p : Nat, i = (p : Int) := ⟨i.toNat, (Int.toNat_of_nonneg hi0).symm⟩
  rw [Int.toNat_natCast]
  rw [List.length_append] at hap
  obtain ⟨hap1, hap2⟩ := hap
  have hm2 : (some b2, Obj.cells (arr (intC .i64) us j2).toArray (ρ.t 3) (0, 0)) ∈ [(ob, Obj.cells (arr (intC .i64) ys j).toArray (ρ.t 3) (0, 0)), (some b2, Obj.cells (arr (intC .i64) us j2).toArray (ρ.t 3) (0, 0))] := .tail _ (.head _)
  have hvs : ∀ q v, (us.flatMap (intC .i64))[q]? = some v → w.cell? ⟨b2, 0 + q, none⟩ = some v := fun q v hq => by
    rw [Nat.zero_add, hin.cell_own hm2]
    rw [List.getElem?_toArray, arr, List.getElem?_append_left (List.getElem?_eq_some_iff.1 hq).1]; exact hq
  have hcl := Gz xs
  have hvl := Gz us
  have h1c := Zcg xs
  have h1v := Zcg us
  by_cases hend : p = n
  · subst hend
    by_cases hr : p + us.length ≤ c
    · -- there is room at the end
      obtain ⟨o, ho1, ho2, rfl, ho4⟩ := hQ.ex
      have hb := ho4 (by omega)
      cases ob with
      | none => have := hz rfl; omega
      | some b =>
        simp only [sb, Option.map_some, Addr.add_lit, Nat.zero_add] at hb
        subst hb
        have hhd : (some b, Obj.cells (arr (intC .i64) ys j).toArray (ρ.t 3) (0, 0)) ∈ [(some b, Obj.cells (arr (intC .i64) ys j).toArray (ρ.t 3) (0, 0)), (some b2, Obj.cells (arr (intC .i64) us j2).toArray (ρ.t 3) (0, 0))] := .head _
        have hsz := Zcw ys j
        refine Calls.mono (Any2.slices_Insert_int_end_room L b o p c b2 0 us.length c2 (us.flatMap (intC .i64)) w hm hr (by omega) hvl (fun q hq => ?_) (fun q _ => hin.frozen_own hhd _) hvs h1v) ?_
        · rw [hin.cell_own hhd, Array.getElem?_eq_getElem (by rw [hsz]; omega)]; rfl
        · rintro e w' ⟨rfl, rfl⟩
          have h5 := hin.setCells P (Take.head _ _) (o := o + p) (vs := us.flatMap (intC .i64)) (by rw [hsz, hvl]; omega) h1v
          refine ⟨_, _, ⟨some ⟨b, o, none⟩, p + us.length, c, some b, N + us.length, C, ys ++ us, j.drop us.length, rfl, rfl, ⟨o, by omega, by omega, ?_, fun _ => by simp [sb, Addr.add_lit]⟩, by rw [List.length_append]; omega, by omega, by rw [List.length_drop]; omega, (fun e => by cases e), hC⟩, rfl, ?_⟩
          · rw [List.take_of_length_le (by omega), List.drop_eq_nil_of_le (show (ys.drop o).length ≤ p by omega), List.append_nil, List.drop_append_of_le_length (by omega)]
          · have e1 : ((arr (intC .i64) ys j).toArray.toList.take (o + p) ++ us.flatMap (intC .i64) ++ (arr (intC .i64) ys j).toArray.toList.drop (o + p + (us.flatMap (intC .i64)).length)).toArray = (arr (intC .i64) (ys ++ us) (j.drop us.length)).toArray := by
              have e2 := Gz ys
              simp only [arr, List.flatMap_append]
              rw [hvl, List.take_left' (by omega), List.drop_append, List.drop_eq_nil_of_le (by omega), List.nil_append, e2, show o + p + us.length - ys.length = us.length by omega]
            rw [← e1]; exact h5
    · -- a new row
      refine Calls.mono (Any2.slices_Insert_int_end_grow L base p c b2 0 us.length c2 (xs.flatMap (intC .i64)) (us.flatMap (intC .i64)) w hm hle (by omega) (by omega) (by omega) hvl hnil (fun a ha => Zfb hR.ro ha) hvs h1v) ?_
      rintro e w' ⟨rfl, rfl⟩
      have hcap : p + us.length ≤ grownCap w (p + us.length) c (ρ.t 3) := by unfold grownCap Question.cut; simp only; omega
      refine ⟨_, _, ⟨_, p + us.length, grownCap w (p + us.length) c (ρ.t 3), some w.heap.size, p + us.length, grownCap w (p + us.length) c (ρ.t 3), xs ++ us, (Builtin.zeroCells (Value.int .i64 0).cells (grownCap w (p + us.length) c (ρ.t 3) - (p + us.length))).toList, rfl, rfl, ?_, by rw [List.length_append]; omega, hcap, by rw [Array.length_toList, size_zeroCells]; rfl, (fun e => by cases e), Zax (by omega)⟩, rfl, ?_⟩
      · rw [List.take_of_length_le (by omega), List.drop_eq_nil_of_le (by omega), List.append_nil]
        exact Qu.self (some w.heap.size) (xs ++ us) _ _
      · have e2 : ((xs.flatMap (intC .i64) ++ us.flatMap (intC .i64)).toArray ++ Builtin.zeroCells (Value.int .i64 0).cells (grownCap w (p + us.length) c (ρ.t 3) - (p + us.length))) = (arr (intC .i64) (xs ++ us) (Builtin.zeroCells (Value.int .i64 0).cells (grownCap w (p + us.length) c (ρ.t 3) - (p + us.length))).toList).toArray := by
          simp only [arr, List.flatMap_append]
          apply Array.ext'
          simp [List.append_assoc]
        rw [e2]
        exact (hin.drew.alloc _).pick (Zb (Take.head _ _) (Zb (Take.tail (Take.head _ _)) Zg))
  · have hpn : p < n := by omega
    obtain ⟨o, ho1, ho2, rfl, ho4⟩ := hQ.ex
    have hb := ho4 (by omega)
    cases ob with
    | none => have := hz rfl; omega
    | some b =>
      simp only [sb, Option.map_some, Addr.add_lit, Nat.zero_add] at hb
      subst hb
      have hhd : (some b, Obj.cells (arr (intC .i64) ys j).toArray (ρ.t 3) (0, 0)) ∈ [(some b, Obj.cells (arr (intC .i64) ys j).toArray (ρ.t 3) (0, 0)), (some b2, Obj.cells (arr (intC .i64) us j2).toArray (ρ.t 3) (0, 0))] := .head _
      have hsz := Zcw ys j
      have hcs : ∀ q v, ((ys.drop o).flatMap (intC .i64))[q]? = some v → w.cell? ⟨b, o + q, none⟩ = some v := fun q v hq => by
        have := Zfb hR.ro rfl q v hq
        rwa [Addr.add_lit] at this
      have hbb : b2 ≠ b := by
        have := hin.apart
        simp only [List.filterMap_cons, List.filterMap_nil, List.nodup_cons, List.mem_singleton] at this
        exact fun e => this.1 e.symm
      by_cases hr : n + us.length ≤ c
      · refine Calls.mono (Any2.slices_Insert_int_shift L b o n c p b2 0 us.length c2 ((ys.drop o).flatMap (intC .i64)) (us.flatMap (intC .i64)) w hpn hm hr (by omega) hbb (by rw [Gz]; exact hl) hvl hcs (fun q hq => ?_) (fun q _ => hin.frozen_own hhd _) hvs h1c h1v _ _ _ _ (Zfr hin hm2) (Zfr hin hhd) (by rw [hsz]; omega) (hin.frozen_own hm2 _) (hin.frozen_own hm2 _)) ?_
        · rw [hin.cell_own hhd, Array.getElem?_eq_getElem (by rw [hsz]; omega)]; rfl
        · rintro e w' ⟨rfl, rfl⟩
          have hdl : (((ys.drop o).flatMap (intC .i64)).drop p).length = n - p := by rw [List.length_drop, Gz]; omega
          have h5 := hin.drew.setCells P (Take.head _ _) (o := o + (p + us.length)) (vs := ((ys.drop o).flatMap (intC .i64)).drop p) (by rw [hsz, hdl]; omega) (fun v hv => h1c v (List.mem_of_mem_drop hv))
          have hsz2 : (arr (intC .i64) ys j).toArray.toList.length = ys.length + j.length := by rw [Array.length_toList]; exact hsz
          have h6 := h5.setCells P (Take.head _ _) (o := o + p) (vs := us.flatMap (intC .i64)) (by
            rw [List.size_toArray, List.length_append, List.length_append, List.length_take, hdl, hvl, List.length_drop, hsz2]; omega) h1v
          refine ⟨_, _, ⟨some ⟨b, o, none⟩, n + us.length, c, some b, N + us.length, C, ys.take o ++ ((ys.drop o).take p ++ us ++ (ys.drop o).drop p), j.drop us.length, rfl, rfl, ⟨o, by omega, by omega, ?_, fun _ => by simp [sb, Addr.add_lit]⟩, ?_, by omega, by rw [List.length_drop]; omega, (fun e => by cases e), hC⟩, rfl, ?_⟩
          · rw [List.drop_left' (by rw [List.length_take]; omega)]
          · simp only [List.length_append, List.length_take, List.length_drop]; omega
          · rw [← Zh5 (by omega) rfl (by omega)]
            exact h6
      · refine Calls.mono (Any2.slices_Insert_int_grow L b o n c p b2 0 us.length c2 ((ys.drop o).flatMap (intC .i64)) (us.flatMap (intC .i64)) w hpn hm hle (by omega) (by omega) (by rw [Gz]; exact hl) hvl hcs hvs h1c h1v) ?_
        rintro e w' ⟨rfl, rfl⟩
        have hcap : n + us.length ≤ grownCap w (n + us.length) c (ρ.t 3) := by unfold grownCap Question.cut; simp only; omega
        obtain ⟨G, hG⟩ : ∃ G, G = grownCap w (n + us.length) c (ρ.t 3) := ⟨_, rfl⟩
        have hGm : G ≤ 9223372036854775807 := by rw [hG]; exact Zax (by omega)
        rw [← hG] at hcap ⊢
        have hzl : ∀ k, (Builtin.zeroCells (Value.int .i64 0).cells k).toList.length = k := fun k => by rw [Array.length_toList, size_zeroCells]; exact Nat.mul_one k
        have hdl : (((ys.drop o).flatMap (intC .i64)).drop p).length = n - p := by rw [List.length_drop, Gz]; omega
        have htl : (((ys.drop o).flatMap (intC .i64)).take p).length = p := by rw [List.length_take, Gz]; omega
        have h0 := hin.alloc (.cells ((((ys.drop o).flatMap (intC .i64)).take p).toArray ++ Builtin.zeroCells (Value.int .i64 0).cells (n + us.length - p) ++ Builtin.zeroCells (Value.int .i64 0).cells (G - (n + us.length))) (ρ.t 3))
        have hsz0 : ((((ys.drop o).flatMap (intC .i64)).take p).toArray ++ Builtin.zeroCells (Value.int .i64 0).cells (n + us.length - p) ++ Builtin.zeroCells (Value.int .i64 0).cells (G - (n + us.length))).size = p + (n + us.length - p) + (G - (n + us.length)) := by
          rw [Array.size_append, Array.size_append, List.size_toArray, htl, size_zeroCells, size_zeroCells]
          show p + _ * 1 + _ * 1 = _
          rw [Nat.mul_one, Nat.mul_one]
        have h1 := h0.drew.setCells P (Take.head _ _) (o := p) (vs := us.flatMap (intC .i64)) (by rw [hsz0, hvl]; omega) h1v
        have h2 := h1.drew.setCells P (Take.head _ _) (o := p + us.length) (vs := ((ys.drop o).flatMap (intC .i64)).drop p) (by
          have hs0 : ((((ys.drop o).flatMap (intC .i64)).take p).toArray ++ Builtin.zeroCells (Value.int .i64 0).cells (n + us.length - p) ++ Builtin.zeroCells (Value.int .i64 0).cells (G - (n + us.length))).toList.length = p + (n + us.length - p) + (G - (n + us.length)) := by rw [Array.length_toList]; exact hsz0
          rw [List.size_toArray, List.length_append, List.length_append, List.length_take, hdl, hvl, List.length_drop, hs0]; omega) (fun v hv => h1c v (List.mem_of_mem_drop hv))
        refine ⟨_, _, ⟨_, n + us.length, G, some w.heap.size, n + us.length, G, (ys.drop o).take p ++ us ++ (ys.drop o).drop p, (Builtin.zeroCells (Value.int .i64 0).cells (G - (n + us.length))).toList, rfl, rfl, Qu.self (some w.heap.size) _ _ _, ?_, hcap, by rw [hzl]; omega, (fun e => by cases e), hGm⟩, rfl, ?_⟩
        · simp only [List.length_append, List.length_take, List.length_drop]; omega
        · have key := ins_grow (((ys.drop o).flatMap (intC .i64)).take p) (((ys.drop o).flatMap (intC .i64)).drop p) (Builtin.zeroCells (Value.int .i64 0).cells (n + us.length - p)).toList (Builtin.zeroCells (Value.int .i64 0).cells (G - (n + us.length))).toList (us.flatMap (intC .i64)) (p := p) (m := us.length) htl hvl (by rw [hzl, hdl]; omega)
          have e1 : (arr (intC .i64) ((ys.drop o).take p ++ us ++ (ys.drop o).drop p) (Builtin.zeroCells (Value.int .i64 0).cells (G - (n + us.length))).toList) = ((ys.drop o).flatMap (intC .i64)).take p ++ us.flatMap (intC .i64) ++ ((ys.drop o).flatMap (intC .i64)).drop p ++ (Builtin.zeroCells (Value.int .i64 0).cells (G - (n + us.length))).toList := by
            rw [Zky, Zex]; simp only [arr, List.flatMap_append]
          rw [e1, ← key]
          have e3 : ((((ys.drop o).flatMap (intC .i64)).take p).toArray ++ Builtin.zeroCells (Value.int .i64 0).cells (n + us.length - p) ++ Builtin.zeroCells (Value.int .i64 0).cells (G - (n + us.length))).toList = ((ys.drop o).flatMap (intC .i64)).take p ++ (Builtin.zeroCells (Value.int .i64 0).cells (n + us.length - p)).toList ++ (Builtin.zeroCells (Value.int .i64 0).cells (G - (n + us.length))).toList := by simp
          rw [e3] at h2
          exact h2.pick (Zb (Take.head _ _) (Zb (Take.tail (Take.head _ _)) Zg))
end
end Go.Acq
namespace Go.Acq
open Go Go.RowKit
section
variable {C : Cx} {ops : Array Oper} {Q : Exit → Act → World → Prop} {E : Env} {H : Heap}
theorem T.drawL3 {id : Nat} (S : List Sp) (sl : List Nat) (m : Nat) (HR : Nat → List Value → Heap → Prop) (hd : List (List Nat)) (rd : List (Nat × Nat × Heap)) (hb0 Hc : Heap)
    (hm : C.P.follows .mixedOrders = true) (hsm : S.length = m) (hsl : Uz ops (List.range m) = sl) (hb : Gj ops = true) (ht : Np ops m = true) (hgood : Rf ops S hd = true) (hms : Nat.ble m ops.size = true)
    (hn : Gu sl = true) (hgr : goodR ops S rd = true) (hro : RdOk HR rd) (h0 : HR 0 [] hb0) (hH : Pick (hb0 ++ Hc) H)
    (obs : ObsG3 C ops Q S HR hd rd (wo sl E) Hc (List.range m))
    (k : ∀ (vs : Nat → Value) (es : Nat → Heap) (hb : Heap), Jy S vs es (List.range m) → HR ((List.range m).filter (Wk S)).length ((hd.getD ((List.range m).filter (Wk S)).length []).map vs) hb →
      TO C ops Q (List.range' m (ops.size - m)) (Uc ops vs (List.range m) ++ wo sl E) (hb ++ (Hc ++ Vm es ((List.range m).filter fun j => !Gm S j)))) :
    T C (.region id ops true) Q E H := by
  subst hsm; subst hsl
  exact Zbp S HR hd rd hb0 Hc hm hb ht hgood hms hn hgr hro h0 hH obs k
end
end Go.Acq
namespace Go.Acq
open Go Go.RowKit
structure RowB where
  ob : Option Nat
  xs : List Int
  n : Nat
  c : Nat
  j : List Value
instance : Inhabited RowB := ⟨⟨none, [], 0, 0, []⟩⟩
def RowB.ok (r : RowB) : Prop := r.xs.length = r.n ∧ r.n ≤ r.c ∧ r.j.length = (r.c - r.n) * 1 ∧ (r.ob = none → r.c = 0)
def RowB.sm (r : RowB) : SM := (sb r.ob, r.n, r.c)
def RowB.ent (T : TypeId) (r : RowB) : Option Nat × Obj := (r.ob, .cells (arr (intC .i64) r.xs r.j).toArray T (0, 0))
def Ve (T : TypeId) (L : List RowB) : Heap := L.map (RowB.ent T)
structure Fam (L : List RowB) (xss : List (List Int)) (n : Nat) : Prop where
  xs : L.map RowB.xs = xss
  ok : ∀ r, r ∈ L → r.ok
  len : xss.length = n
theorem Zct {ob : Option Nat} {xs : List Int} {n c : Nat} {j : List Value} (h1 : xs.length = n) (h2 : n ≤ c) (h3 : j.length = (c - n) * 1) (h4 : ob = none → c = 0) : RowB.ok ⟨ob, xs, n, c, j⟩ := ⟨h1, h2, h3, h4⟩
theorem RowB.ok0 : (default : RowB).ok := ⟨rfl, Nat.le_refl _, rfl, fun _ => rfl⟩
theorem Fam.replicate (n : Nat) : Fam (List.replicate n default) (List.replicate n []) n :=
 ⟨by rw [List.map_replicate]; rfl, fun r hr => by rw [(List.mem_replicate.1 hr).2]; exact RowB.ok0, List.length_replicate⟩
theorem Fam.lenL {L : List RowB} {xss : List (List Int)} {n : Nat} (h : Fam L xss n) : L.length = n := by rw [← h.len, ← h.xs, List.length_map]
theorem Fam.set {L : List RowB} {xss : List (List Int)} {n p : Nat} {r : RowB} (h : Fam L xss n) (hr : r.ok) : Fam (L.set p r) (xss.set p r.xs) n :=
 ⟨by rw [List.map_set, h.xs], fun q hq => by
  rcases List.mem_or_eq_of_mem_set hq with h1 | rfl
  · exact h.ok q h1
  · exact hr, by rw [List.length_set]; exact h.len⟩
theorem Zcm {T : TypeId} : ∀ {L : List RowB} {p : Nat} (hp : p < L.length), List.Perm (Ve T L) ((L.getD p default).ent T :: Ve T (L.eraseIdx p))
 | [], p, h => by simp at h
 | r :: L, 0, _ => List.Perm.refl _
 | r :: L, p + 1, h => by
  have := Zcm (T := T) (L := L) (p := p) (by simpa using h)
  exact (List.Perm.cons _ this).trans (List.Perm.swap _ _ _)
theorem Zen {T : TypeId} {r : RowB} : ∀ {L : List RowB} {p : Nat} (hp : p < L.length), List.Perm (Ve T (L.set p r)) (r.ent T :: Ve T (L.eraseIdx p))
 | [], p, h => by simp at h
 | q :: L, 0, _ => List.Perm.refl _
 | q :: L, p + 1, h => by
  have := Zen (T := T) (r := r) (L := L) (p := p) (by simpa using h)
  exact (List.Perm.cons _ this).trans (List.Perm.swap _ _ _)
theorem Zja {T : TypeId} {n : Nat} : ∀ x, x ∈ Ve T (List.replicate n default) → x.1 = none := by
 intro x hx
 obtain ⟨r, hr, rfl⟩ := List.mem_map.1 hx
 rw [(List.mem_replicate.1 hr).2]; rfl
section
variable {C : Cx} {Q : Exit → Act → World → Prop} {E : Env} {H : Heap} {e : Exit} {code : Code}
theorem Zdo {T T2 : TypeId} {bo n : Nat} {Es : Heap} (hT : Take (some bo, .cells (arr We (List.replicate n (default : SM)) []).toArray T2 (0, 0)) H Es)
    (h : X C Q e E ((some bo, .cells (arr We ((List.replicate n (default : RowB)).map RowB.sm) []).toArray T2 (0, 0)) :: (Es ++ Ve T (List.replicate n default)))) : X C Q e E H := fun a w hf hi => h a w hf (by
  rw [List.map_replicate]
  exact (hi.perm hT).nones Zja)
theorem Zfm {T : TypeId} {L : List RowB} {xss : List (List Int)} {n p : Nat} {Es : Heap} (hF : Fam L xss n) (hp : p < xss.length) (hH : H = Es ++ Ve T L)
    (h : ∀ (ob : Option Nat) (m c : Nat) (j : List Value), (xss.getD p []).length = m → m ≤ c → j.length = (c - m) * 1 → (ob = none → c = 0) → (L.map RowB.sm).getD p default = (sb ob, m, c) →
      Acq.T C code Q E ((ob, .cells (arr (intC .i64) (xss.getD p []) j).toArray T (0, 0)) :: (Es ++ Ve T (L.eraseIdx p)))) : Acq.T C code Q E H := by
  subst hH
  have hpl : p < L.length := by rw [hF.lenL, ← hF.len]; exact hp
  have hm : L.getD p default ∈ L := by rw [List.getD_eq_getElem?_getD, List.getElem?_eq_getElem hpl]; exact List.getElem_mem hpl
  obtain ⟨o1, o2, o3, o4⟩ := hF.ok _ hm
  have hx : xss.getD p [] = (L.getD p default).xs := by
    rw [← hF.xs, List.getD_eq_getElem?_getD, List.getElem?_map, List.getElem?_eq_getElem hpl, List.getD_eq_getElem?_getD, List.getElem?_eq_getElem hpl]; rfl
  have hs : (L.map RowB.sm).getD p default = (L.getD p default).sm := by
    rw [List.getD_eq_getElem?_getD, List.getElem?_map, List.getElem?_eq_getElem hpl, List.getD_eq_getElem?_getD, List.getElem?_eq_getElem hpl]; rfl
  intro a w hf hi
  refine h (L.getD p default).ob (L.getD p default).n (L.getD p default).c (L.getD p default).j (by rw [hx]; exact o1) o2 o3 o4 hs a w hf (hi.perm ?_)
  rw [hx]
  exact (List.Perm.append_left Es (Zcm hpl)).trans List.perm_middle
theorem Zd2 {T T2 : TypeId} {L : List RowB} {xss : List (List Int)} {n p bo : Nat} {r : RowB} {Es : Heap} (hF : Fam L xss n) (hp : p < xss.length)
    (hH : Pick (r.ent T :: (some bo, .cells (arr We ((L.map RowB.sm).set p r.sm) []).toArray T2 (0, 0)) :: (Es ++ Ve T (L.eraseIdx p))) H)
    (h : X C Q e E ((some bo, .cells (arr We ((L.set p r).map RowB.sm) []).toArray T2 (0, 0)) :: (Es ++ Ve T (L.set p r)))) : X C Q e E H := fun a w hf hi => h a w hf (by
  have hpl : p < L.length := by rw [hF.lenL, ← hF.len]; exact hp
  rw [List.map_set]
  refine (hi.pick hH).perm ?_
  refine (List.Perm.swap _ _ _).trans (List.Perm.cons _ ?_)
  exact List.perm_middle.symm.trans (List.Perm.append_left Es (Zen hpl).symm))
def Reb (w0 : World) (M : List Nat) (w1 : World) (M1 : List Nat) : Prop := ∀ w N, Inv w1 M1 w N → Inv w0 M w N
theorem Inv.reb {w0 w : World} {M : List Nat} {Es R : Heap} (h : Inv w0 M w (Es ++ R)) : Reb w0 M w (Es.filterMap Prod.fst) := by
 intro w' N g
 have := (h.left).join (Hm := Es) (R := []) (M' := Es.filterMap Prod.fst) (by simp) (fun m hm => hm) g
 simpa using this
theorem Zh0 {L : List RowB} {i : Nat} (h : i < L.length) : (L.map RowB.sm).getD i default = (L.getD i default).sm := by
 rw [List.getD_eq_getElem?_getD, List.getElem?_map, List.getElem?_eq_getElem h, List.getD_eq_getElem?_getD, List.getElem?_eq_getElem h]; rfl
theorem Inv.rw_ {w0 w : World} {M : List Nat} {Es : Heap} {T T2 : TypeId} {L : List RowB} {xss : List (List Int)} {n bo : Nat} (hF : Fam L xss n) (h : Inv w0 M w (Es ++ ((some bo, .cells (arr We (L.map RowB.sm) []).toArray T2 (0, 0)) :: Ve T L))) :
    RW w (Es.filterMap Prod.fst) (intC .i64) 1 (some ⟨bo, 0, none⟩) n n (L.map RowB.sm) xss := by
  refine ⟨h.rsM (f := We) (s := 1) (ob := some bo) (fun _ => rfl) (List.Perm.refl _) rfl (.head _) (by rw [List.length_map]; exact hF.lenL) (Nat.le_refl _) (fun e => by cases e), by rw [List.length_map, hF.lenL, hF.len], fun i hi => ?_⟩
  rw [List.length_map] at hi
  have hm : L.getD i default ∈ L := by rw [List.getD_eq_getElem?_getD, List.getElem?_eq_getElem hi]; exact List.getElem_mem hi
  have hx : xss.getD i [] = (L.getD i default).xs := by
    rw [← hF.xs, List.getD_eq_getElem?_getD, List.getElem?_map, List.getElem?_eq_getElem hi, List.getD_eq_getElem?_getD, List.getElem?_eq_getElem hi]; rfl
  obtain ⟨o1, o2, o3, o4⟩ := hF.ok _ hm
  rw [Zh0 hi, hx]
  exact h.rsM (f := intC .i64) (s := 1) (T' := T) (j := (L.getD i default).j) (fr := (0, 0)) (fun _ => rfl) (List.Perm.refl _) rfl (.tail _ (List.mem_map.2 ⟨_, hm, rfl⟩)) o1 o2 o4
theorem Zbj {ops : Array Oper} {l : List Nat} {T T2 : TypeId} {L : List RowB} {xss : List (List Int)} {n bo : Nat} {Es Ns R : Heap} (hF : Fam L xss n) (hH : H = Ns ++ (Ve T L ++ R))
    (hP : Pick (Es ++ [(some bo, .cells (arr We (L.map RowB.sm) []).toArray T2 (0, 0))]) (Ns ++ R))
    (h : ∀ w, Inv C.w0 C.M w (Es ++ ((some bo, .cells (arr We (L.map RowB.sm) []).toArray T2 (0, 0)) :: Ve T L)) → Reb C.w0 C.M w (Es.filterMap Prod.fst) → RW w (Es.filterMap Prod.fst) (intC .i64) 1 (some ⟨bo, 0, none⟩) n n (L.map RowB.sm) xss →
      TO ⟨C.P, C.ρ, C.n, C.D, w, Es.filterMap Prod.fst⟩ ops Q l E Es) : TO C ops Q l E H := by
  subst hH
  intro a w hf hi
  have h1 : Inv C.w0 C.M w (Es ++ ((some bo, .cells (arr We (L.map RowB.sm) []).toArray T2 (0, 0)) :: Ve T L)) := by
    obtain ⟨S, ns, hn, hS⟩ := hP
    have h2 : List.Perm (Ns ++ (Ve T L ++ R)) ((Ns ++ R) ++ Ve T L) := by
      rw [List.append_assoc]; exact List.Perm.append_left Ns List.perm_append_comm
    have h3 := (hi.perm h2).nones hn
    have h4 : List.Perm (((Ns ++ R) ++ Ve T L) ++ ns) ((Es ++ ((some bo, .cells (arr We (L.map RowB.sm) []).toArray T2 (0, 0)) :: Ve T L)) ++ S) := by
      have h5 : List.Perm (((Ns ++ R) ++ Ve T L) ++ ns) (((Ns ++ R) ++ ns) ++ Ve T L) := by
        rw [List.append_assoc (Ns ++ R), List.append_assoc (Ns ++ R)]; exact List.Perm.append_left _ List.perm_append_comm
      refine h5.trans ((List.Perm.append_right _ hS).trans ?_)
      have h6 : ((Es ++ [(some bo, Obj.cells (arr We (L.map RowB.sm) []).toArray T2 (0, 0))]) ++ S) ++ Ve T L = Es ++ ([(some bo, Obj.cells (arr We (L.map RowB.sm) []).toArray T2 (0, 0))] ++ (S ++ Ve T L)) := by simp only [List.append_assoc]
      rw [h6, List.append_assoc]
      exact List.Perm.append_left _ (List.Perm.cons _ (List.perm_append_comm (l₁ := S) (l₂ := Ve T L)))
    exact (h3.perm h4).left
  refine h w h1 h1.reb (h1.rw_ hF) a w hf ?_
  have h7 : Inv w [] w [] := Inv.refl w
  have h8 := h1.left
  exact ⟨rfl, rfl, rfl, Nat.le_refl _, fun _ _ _ => rfl, h8.own, fun b o hb => .inr (Z0c hb), h8.apart⟩
end
section ends
variable {C : Cx} {E : Env} {H N : Heap}
theorem X.reb {fn : Func} {w0 : World} {M : List Nat} {Post : Value → Heap → Prop} (hr : Reb w0 M C.w0 C.M) (h : X C (bodyPost C.P fn (Jd C.w0 C.M Post)) .ret E H) : X C (bodyPost C.P fn (Jd w0 M Post)) .ret E H := by
 intro a w hf hi
 obtain ⟨h1, v, h2, v', N, h3, h4, h5⟩ := h a w hf hi
 exact ⟨h1, v, h2, v', N, h3, h4, hr w N h5⟩
end ends
section rules
variable {C : Cx} {ops : Array Oper} {Q : Exit → Act → World → Prop} {l : List Nat} {E : Env} {H R : Heap} {i d : Nat} {ty : TypeId} {Zm : String} {af : Array Edge} {g : Option (Nat × Bool)}
theorem Zco {t T' : TypeId} {x : Operand} {b m c : Nat} {base : Option Addr} {p : Int} {ms : List SM} (hs : ms.getD p.toNat default = (base, m, c)) (hp : inb p ms.length) (q0_ : ops[i]? = some ⟨some d, .load t x, ty, Zm, af, g⟩ ∧ Yd ops E g = true ∧ Nat.ble (d + 1) C.n = true ∧ ev E x = some (.pointer (some ⟨b, p.toNat, none⟩))) (hT : Vc C.P t = true) (hm : (some b, Obj.cells (arr We ms []).toArray T' (0, 0)) ∈ H)
    (kk : TO C ops Q l ((d, .slice base m c) :: E) H) : TO C ops Q (i :: l) E H := have ⟨ho, hg, hd, hx⟩ := q0_;
  Zo ⟨ho, hg, hd, hx⟩ hT hm (by
    have := Z4l (f := We) (s := 1) (fun _ => rfl) default ms [] p.toNat 0 (Uw hp) (by omega)
    rw [hs] at this
    simpa [We] using this) kk
theorem Zf5 {t T' : TypeId} {x y : Operand} {b m c : Nat} {base : Option Addr} {p : Int} {ms : List SM} (hp : inb p ms.length) (q0_ : ops[i]? = some ⟨none, .store t x y, ty, Zm, af, g⟩ ∧ Yd ops E g = true ∧ ev E x = some (.pointer (some ⟨b, p.toNat, none⟩)) ∧ ev E y = some (.slice base m c)) (ht : Take (some b, .cells (arr We ms []).toArray T' (0, 0)) H R) (hs : Xt C.P t = some 1)
    (kk : TO C ops Q l E ((some b, .cells (arr We (ms.set p.toNat (base, m, c)) []).toArray T' (0, 0)) :: R)) : TO C ops Q (i :: l) E H := by
  obtain ⟨ho, hg, hx, hy⟩ := q0_
  refine Z39 (vs := [.slice base m c]) ho hg hx hy ht rfl hs (fun u hu => by simp at hu; subst hu; rfl) (by
    have := Uw hp
    have h2 := Jh (f := We) (s := 1) (fun _ => rfl) ms
    simp [arr, h2]; omega) ?_ kk
  have := Z91 (f := We) (s := 1) (fun _ => rfl) (base, m, c) [] ms p.toNat (Uw hp)
  simpa [We] using this
theorem Fam.inb {L : List RowB} {xss : List (List Int)} {n : Nat} {p : Int} (h : Fam L xss n) (hp : inb p xss.length) : inb p (L.map RowB.sm).length := by
 rw [List.length_map, h.lenL, ← h.len]; exact hp
end rules
section draw
variable {C : Cx} {ops : Array Oper} {Q : Exit → Act → World → Prop} {E : Env} {H : Heap}
theorem ObE2.tail {S : List Sp} {HR : Nat → List Value → Heap → Prop} {hd : List (List Nat)} {W : Env} {Hc : Heap} {i : Nat} (Tl : Heap) (h : ObE2 C ops Q S HR hd W Hc i) : ObE2 C ops Q S HR hd W (Hc ++ Tl) i := by
 intro vs es Es Hx hb hr hh a w hf hi
 refine Z1y (l2 := []) (fun e a w hne hq => ?_) (fun a w hq => ?_) [i] a w (h vs es Es (Tl ++ Hx) hb hr hh a w hf (hi.perm (Z1w hb Hx)))
 · cases e <;> first | exact absurd rfl hne | exact hq
 ·
  obtain ⟨v, hb', e', h1, h2, h3, h4⟩ := hq
  refine ⟨v, hb', e', h1, h2, h3, h4.perm ?_⟩
  have e1 : hb' ++ (Hc ++ (e' ++ (Vm es (Wl S i) ++ (Tl ++ Hx)))) = hb' ++ (Hc ++ ((e' ++ Vm es (Wl S i)) ++ (Tl ++ Hx))) := by simp only [List.append_assoc]
  have e2 : hb' ++ ((Hc ++ Tl) ++ (e' ++ (Vm es (Wl S i) ++ Hx))) = hb' ++ ((Hc ++ Tl) ++ ((e' ++ Vm es (Wl S i)) ++ Hx)) := by simp only [List.append_assoc]
  rw [e1, e2]
  exact (Z1w hb' Hx).symm
theorem ObsG2.tail {S : List Sp} {HR : Nat → List Value → Heap → Prop} {hd : List (List Nat)} {W : Env} {Hc : Heap} (Tl : Heap) : ∀ {l : List Nat}, ObsG2 C ops Q S HR hd W Hc l → ObsG2 C ops Q S HR hd W (Hc ++ Tl) l
 | [], _ => trivial
 | i :: l, ⟨h1, h2⟩ => by
  refine ⟨?_, ObsG2.tail Tl h2⟩
  cases he : Wk S i with
  | true => rw [he] at h1; exact ObE2.tail Tl h1
  | false => rw [he] at h1; exact ObQ.tail Tl h1
theorem Zfz {id : Nat} (S : List Sp) (sl : List Nat) (m : Nat) (HR : Nat → List Value → Heap → Prop) (hd : List (List Nat)) (hb0 Hc Tl : Heap)
    (hm : C.P.follows .mixedOrders = true) (hsm : S.length = m) (hsl : Uz ops (List.range m) = sl) (hb : Gj ops = true) (ht : Np ops m = true) (hgood : Rf ops S hd = true) (hms : Nat.ble m ops.size = true)
    (hn : Gu sl = true) (h0 : HR 0 [] hb0) (hH : Pick (hb0 ++ (Hc ++ Tl)) H)
    (obs : ObsG2 C ops Q S HR hd (wo sl E) Hc (List.range m))
    (k : ∀ (vs : Nat → Value) (es : Nat → Heap) (hb : Heap), Jy S vs es (List.range m) → HR ((List.range m).filter (Wk S)).length ((hd.getD ((List.range m).filter (Wk S)).length []).map vs) hb →
      TO C ops Q (List.range' m (ops.size - m)) (Uc ops vs (List.range m) ++ wo sl E) ((hb ++ (Hc ++ Vm es ((List.range m).filter fun j => !Gm S j))) ++ Tl)) :
    T C (.region id ops true) Q E H :=
  Zfx S sl m HR hd hb0 (Hc ++ Tl) hm hsm hsl hb ht hgood hms hn h0 hH (ObsG2.tail Tl obs) fun vs es hb h1 h2 a w hf hi => k vs es hb h1 h2 a w hf (hi.perm (by
    simp only [List.append_assoc]
    exact List.Perm.append_left hb (List.Perm.append_left Hc List.perm_append_comm)))
end draw
section ends
variable {C : Cx} {E : Env} {H H' N : Heap}
theorem X.retMR {fn : Func} {rs : List ResultVar} {vs : List Value} {v : Value} {w0 : World} {M : List Nat} {Post : Value → Heap → Prop} (ms : List Nat) (hρ : C.ρ = none) (hb : Reb w0 M C.w0 C.M) (hD : C.D = ms.map mkD) (hfn : fn.results.toList = rs)
    (hH : Pick (Gn ms ++ H') H) (hr : ∀ (j : Nat) r u, rs[j]? = some r → vs[j]? = some u → Res { C with D := [] } E H' r u) (q0_ : rs.length = vs.length ∧ v = Z2j vs)
    (hN : Pick N H') (hP : Post v N) : Acq.X C (bodyPostM (FW none) 0 C.P fn (Jd w0 M Post)) .ret E H := by
  obtain ⟨hl, hv⟩ := q0_
  intro a w hf hi
  show LeavesInM (FW none) 0 C.P fn a.tmps (Jd w0 M Post) a.defers .returning w
  rw [hf.defers, hD]
  refine Zaz ms w (hi.pick hH) fun w' hi' => ?_
  have hx := X.reb (C := { C with D := [] }) (fn := fn) (Post := Post) hb (X.ret rfl rfl rfl hfn hr ⟨hl, hv⟩ hN hP) { a with defers := [] } w' ⟨hf.size, rfl, hf.get⟩ hi'
  exact hx.2
theorem X.retMR2 {fn : Func} {r r' : ResultVar} {v v' : Value} {w0 : World} {M : List Nat} {Post : Value → Heap → Prop} (ms : List Nat) (hρ : C.ρ = none) (hb : Reb w0 M C.w0 C.M) (q0_ : C.D = ms.map mkD ∧ fn.results.toList = [r, r']) (hH : Pick (Gn ms ++ H') H) (hr : Res { C with D := [] } E H' r v) (hr' : Res { C with D := [] } E H' r' v') (hN : Pick N H') (hP : Post (.tuple #[v, v']) N) :
    Acq.X C (bodyPostM (FW none) 0 C.P fn (Jd w0 M Post)) .ret E H := have ⟨hD, hfn⟩ := q0_;
  X.retMR (vs := [v, v']) ms hρ hb hD hfn hH (fun j r'' u h1 h2 => by
    match j with
    | 0 => simp at h1 h2; subst h1; subst h2; exact hr
    | 1 => simp at h1 h2; subst h1; subst h2; exact hr'
    | j + 2 => simp at h1) Xw hN hP
end ends
end Go.Acq
