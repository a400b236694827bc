/- Texts of this claim, one behind the other. -/
import Derived.Test.YtfdhelnfgfaeaaaA1
import Derived.Laws.Bits64b
import Derived.Deep.Slices
import Derived.Deep.Fields
import Derived.ChangeSame
import Derived.Lib.SmallJoins
import Derived.ProofKit
import Derived.ChangeArms
import Derived.RangeFuncSeq
import Derived.Conc.LoneCalls
import Derived.Conc.LoneSelectN
import Derived.Conc.SmallLaws
import Derived.Laws.StructEq
import Derived.Scope
import Derived.ChangeKeysEq
import Derived.Shelf.Spec.SlicesInsertGrow
set_option linter.unusedVariables false
set_option linter.unusedSimpArgs false
namespace Go.Acq
open Go
set_option linter.unusedVariables false
structure Net where
  N : Int
  S : Int
  T : Int
  Arcs : List Arc
  deriving DecidableEq
instance : Inhabited Net := ⟨⟨default, default, default, default⟩⟩
structure Csr where
  N : Int
  S : Int
  T : Int
  First : List Int
  Head : List Int
  Rev : List Int
  Cap : List Int
  Arc : List Int
  Back : List Bool
  deriving DecidableEq
instance : Inhabited Csr := ⟨⟨default, default, default, default, default, default, default, default, default⟩⟩
def Z2m (x0 : Int) (n1 : Int) : Option (Int) :=
  if n1 < 1 then
  (some 0)
  else
  gd (n1 ≠ 0) <|
  gd (i64ok ((x0.tmod n1) + n1)) <|
  gd (n1 ≠ 0) <|
  some (((x0.tmod n1) + n1).tmod n1)
def Z3t (n0 : Net) (arcs2 : Int) (r6 : Int) (Arcs20 : List Arc) (x30 : Int) (c38 : Int) : Option ((List Arc × Int) ⊕ (List Arc)) :=
  Option.bind (Z2m (((n0.Arcs.take (min (n0.Arcs.length : Int) arcs2).toNat).getD x30.toNat default).fr) (2 + r6)) fun r39 =>
  Option.bind (Z2m (((n0.Arcs.take (min (n0.Arcs.length : Int) arcs2).toNat).getD x30.toNat default).to) (2 + r6)) fun r41 =>
  gd (apok (Arcs20 ++ ([(Arc.mk r39 r41 (c38.tmod 1125899906842624))])).length 24) <|
  gd (i64ok (x30 + 1)) <|
  some (.inl ((Arcs20 ++ ([(Arc.mk r39 r41 (c38.tmod 1125899906842624))])), (x30 + 1)))
def Z4i (n0 : Net) (arcs2 : Int) (r6 : Int) (Arcs20 : List Arc) (x30 : Int) : Option ((List Arc × Int) ⊕ (List Arc)) :=
  if x30 < ((n0.Arcs.take (min (n0.Arcs.length : Int) arcs2).toNat).length : Int) then
  (gd (inb x30 (n0.Arcs.take (min (n0.Arcs.length : Int) arcs2).toNat).length) <|
  if (((n0.Arcs.take (min (n0.Arcs.length : Int) arcs2).toNat).getD x30.toNat default).cap) < 0 then
  (gd (i64ok ((((n0.Arcs.take (min (n0.Arcs.length : Int) arcs2).toNat).getD x30.toNat default).cap) + 1)) <|
  gd (i64ok (-((((n0.Arcs.take (min (n0.Arcs.length : Int) arcs2).toNat).getD x30.toNat default).cap) + 1))) <|
  Z3t n0 arcs2 r6 Arcs20 x30 (-((((n0.Arcs.take (min (n0.Arcs.length : Int) arcs2).toNat).getD x30.toNat default).cap) + 1)))
  else
  Z3t n0 arcs2 r6 Arcs20 x30 (((n0.Arcs.take (min (n0.Arcs.length : Int) arcs2).toNat).getD x30.toNat default).cap))
  else
  some (.inr Arcs20)
def Z5o (r6 : Int) (r11 : Int) (T18 : Int) (Arcs54 : List Arc) : Option (Net) :=
  some (Net.mk (2 + r6) r11 T18 Arcs54)
def Z3u (n0 : Net) (arcs2 : Int) (r6 : Int) (r11 : Int) (T18 : Int) : Option (Net) :=
  gd (0 ≤ (min (n0.Arcs.length : Int) arcs2) ∧ (min (n0.Arcs.length : Int) arcs2) ≤ (n0.Arcs.length : Int)) <|
  Option.bind (Z1t (fun s => Z4i n0 arcs2 r6 s.1 s.2) Z3f ([], 0)) fun p2_0_0 => Z5o r6 r11 T18 p2_0_0
def Z5x (n0 : Net) (verts1 : Int) (arcs2 : Int) : Option (Net) :=
  gd (i64ok (verts1 - 1)) <|
  Option.bind (Z2m n0.N (verts1 - 1)) fun r6 =>
  gd (i64ok (2 + r6)) <|
  Option.bind (Z2m n0.S (2 + r6)) fun r11 =>
  Option.bind (Z2m n0.T (2 + r6)) fun r13 =>
  if r11 = r13 then
  (gd (i64ok (r11 + 1)) <|
  gd ((2 + r6) ≠ 0) <|
  Z3u n0 arcs2 r6 r11 ((r11 + 1).tmod (2 + r6)))
  else
  Z3u n0 arcs2 r6 r11 r13
def Z7s  : Option (Unit) :=
  some ()
def Z7r  : Option (Unit) :=
  some ()
def Zbz  : Option (Unit) :=
  Option.bind Z7s fun _ =>
  Option.bind Z7r fun _ =>
  some ()
def Za0 (n0 : Net) : Option (Bool) :=
  if 2 ≤ n0.N then
  (some (decide (n0.N ≤ 4096)))
  else
  some false
def Z9z (n0 : Net) : Option (Bool) :=
  some (decide ((n0.Arcs.length : Int) ≤ 16384))
def Z63 (n0 : Net) (v1 : Int) : Option (Bool) :=
  if 0 ≤ v1 then
  (some (decide (v1 < n0.N)))
  else
  some false
def Z9y (n0 : Net) : Option (Bool) :=
  Option.bind (Z63 n0 n0.S) fun r3 =>
  if r3 = true then
  (Option.bind (Z63 n0 n0.T) fun r6 =>
  if r6 = true then
  (some (decide (n0.S ≠ n0.T)))
  else
  some false)
  else
  some false
def Z8i (n0 : Net) (a1 : Arc) : Option (Bool) :=
  Option.bind (Z63 n0 a1.fr) fun r5 =>
  if r5 = true then
  (Option.bind (Z63 n0 a1.to) fun r8 =>
  some r8)
  else
  some false
def Z5n (a0 : Arc) (c2 : Net) : Option (Bool) :=
  Option.bind (Z8i c2 a0) fun r3 =>
  some (!r3)
def Z1l (s0 : List Arc) (f1_1 : Net) (x1 : Int) : Option ((Int) ⊕ (Int ⊕ Unit)) :=
  if x1 < (s0.length : Int) then
  (gd (inb x1 s0.length) <|
  Option.bind (Z5n (s0.getD x1.toNat default) f1_1) fun r4 =>
  if r4 = true then
  (some (.inr (.inl x1)))
  else
  gd (i64ok (x1 + 1)) <|
  some (.inl (x1 + 1)))
  else
  some (.inr (.inr ()))
def Z2q  : Option (Int) :=
  some (-1)
def Z28 (s0 : List Arc) (f1_1 : Net) : Option (Int) :=
  Option.bind (Z1t (fun s => Z1l s0 f1_1 s) Z3f 0) fun o => match o with | .inl p1_0_0 => (some p1_0_0) | .inr () => Z2q
def Z1z (s0 : List Arc) (f1_1 : Net) : Option (Bool) :=
  Option.bind (Z28 s0 f1_1) fun r1 =>
  some (decide (0 ≤ r1))
def Z58 (n0 : Net) : Option (Bool) :=
  Option.bind (Z1z n0.Arcs n0) fun r3 =>
  some (!r3)
def Z9x (n0 : Net) (a1 : Arc) : Option (Bool) :=
  some (decide (0 ≤ a1.cap))
def Z5m (a0 : Arc) (c2 : Net) : Option (Bool) :=
  Option.bind (Z9x c2 a0) fun r3 =>
  some (!r3)
def Z1k (s0 : List Arc) (f1_1 : Net) (x1 : Int) : Option ((Int) ⊕ (Int ⊕ Unit)) :=
  if x1 < (s0.length : Int) then
  (gd (inb x1 s0.length) <|
  Option.bind (Z5m (s0.getD x1.toNat default) f1_1) fun r4 =>
  if r4 = true then
  (some (.inr (.inl x1)))
  else
  gd (i64ok (x1 + 1)) <|
  some (.inl (x1 + 1)))
  else
  some (.inr (.inr ()))
def Z2p  : Option (Int) :=
  some (-1)
def Z27 (s0 : List Arc) (f1_1 : Net) : Option (Int) :=
  Option.bind (Z1t (fun s => Z1k s0 f1_1 s) Z3f 0) fun o => match o with | .inl p1_0_0 => (some p1_0_0) | .inr () => Z2p
def Z1y (s0 : List Arc) (f1_1 : Net) : Option (Bool) :=
  Option.bind (Z27 s0 f1_1) fun r1 =>
  some (decide (0 ≤ r1))
def Z57 (n0 : Net) : Option (Bool) :=
  Option.bind (Z1y n0.Arcs n0) fun r3 =>
  some (!r3)
def Z9e (n0 : Net) (left3 : Int) (x4 : Int) (x10 : Bool) : Option ((Int × Int) ⊕ ((Int × Bool) ⊕ Int)) :=
  if x10 = true then
  (some (.inr (.inl (0, false))))
  else
  gd (i64ok (left3 - ((n0.Arcs.getD x4.toNat default).cap))) <|
  gd (i64ok (x4 + 1)) <|
  some (.inl ((left3 - ((n0.Arcs.getD x4.toNat default).cap)), (x4 + 1)))
def Z9d (n0 : Net) (left3 : Int) (x4 : Int) : Option ((Int × Int) ⊕ ((Int × Bool) ⊕ Int)) :=
  if x4 < (n0.Arcs.length : Int) then
  (gd (inb x4 n0.Arcs.length) <|
  if ((n0.Arcs.getD x4.toNat default).cap) < 0 then
  (Z9e n0 left3 x4 true)
  else
  Z9e n0 left3 x4 (decide (left3 < ((n0.Arcs.getD x4.toNat default).cap))))
  else
  some (.inr (.inr left3))
def Zaz (left14 : Int) : Option (Int × Bool) :=
  gd (i64ok (4611686018427387904 - left14)) <|
  some ((4611686018427387904 - left14), true)
def Zce (n0 : Net) : Option (Int × Bool) :=
  Option.bind (Z1t (fun s => Z9d n0 s.1 s.2) Z3f (4611686018427387904, 0)) fun o => match o with | .inl (p1_0_0, p1_0_1) => (some (p1_0_0, p1_0_1)) | .inr p1_1_0 => (Zaz p1_1_0)
def Z9w (n0 : Net) : Option (Bool) :=
  Option.bind (Zce n0) fun (r3, r4) =>
  some r4
def Z94  : Option (Int) :=
  some 0
def Z8y (n0 : Net) : Option (Int) :=
  Option.bind Zbz fun _ =>
  Option.bind (Za0 n0) fun r10 =>
  if (!r10) = true then
  (some 10)
  else
  Option.bind (Z9z n0) fun r15 =>
  if (!r15) = true then
  (some 11)
  else
  Option.bind (Z9y n0) fun r20 =>
  if (!r20) = true then
  (some 12)
  else
  Option.bind (Z58 n0) fun r25 =>
  if (!r25) = true then
  (some 13)
  else
  Option.bind (Z57 n0) fun r30 =>
  if (!r30) = true then
  (some 14)
  else
  Option.bind (Z9w n0) fun r35 =>
  if (!r35) = true then
  (some 15)
  else
  Z94
def Z6e (n0 : Net) (xs7 : List Int) (x9 : Int) : Option ((List Int × Int) ⊕ (List Int)) :=
  if x9 < (n0.Arcs.length : Int) then
  (gd (inb x9 n0.Arcs.length) <|
  if ((n0.Arcs.getD x9.toNat default).fr) ≠ ((n0.Arcs.getD x9.toNat default).to) then
  (gd (i64ok (((n0.Arcs.getD x9.toNat default).fr) + 1)) <|
  gd (inb (((n0.Arcs.getD x9.toNat default).fr) + 1) xs7.length) <|
  gd (i64ok ((xs7.getD (((n0.Arcs.getD x9.toNat default).fr) + 1).toNat 0) + 1)) <|
  gd (inb (((n0.Arcs.getD x9.toNat default).fr) + 1) xs7.length) <|
  gd (i64ok (((n0.Arcs.getD x9.toNat default).to) + 1)) <|
  gd (inb (((n0.Arcs.getD x9.toNat default).to) + 1) (xs7.set (((n0.Arcs.getD x9.toNat default).fr) + 1).toNat ((xs7.getD (((n0.Arcs.getD x9.toNat default).fr) + 1).toNat 0) + 1)).length) <|
  gd (i64ok (((xs7.set (((n0.Arcs.getD x9.toNat default).fr) + 1).toNat ((xs7.getD (((n0.Arcs.getD x9.toNat default).fr) + 1).toNat 0) + 1)).getD (((n0.Arcs.getD x9.toNat default).to) + 1).toNat 0) + 1)) <|
  gd (inb (((n0.Arcs.getD x9.toNat default).to) + 1) (xs7.set (((n0.Arcs.getD x9.toNat default).fr) + 1).toNat ((xs7.getD (((n0.Arcs.getD x9.toNat default).fr) + 1).toNat 0) + 1)).length) <|
  gd (i64ok (x9 + 1)) <|
  some (.inl (((xs7.set (((n0.Arcs.getD x9.toNat default).fr) + 1).toNat ((xs7.getD (((n0.Arcs.getD x9.toNat default).fr) + 1).toNat 0) + 1)).set (((n0.Arcs.getD x9.toNat default).to) + 1).toNat (((xs7.set (((n0.Arcs.getD x9.toNat default).fr) + 1).toNat ((xs7.getD (((n0.Arcs.getD x9.toNat default).fr) + 1).toNat 0) + 1)).getD (((n0.Arcs.getD x9.toNat default).to) + 1).toNat 0) + 1)), (x9 + 1))))
  else
  gd (i64ok (x9 + 1)) <|
  some (.inl (xs7, (x9 + 1))))
  else
  some (.inr xs7)
def Z6d (n0 : Net) (xs27 : List Int) (x29 : Int) : Option ((List Int × Int) ⊕ (List Int)) :=
  if x29 < n0.N then
  (gd (i64ok (x29 + 1)) <|
  gd (inb (x29 + 1) xs27.length) <|
  gd (inb x29 xs27.length) <|
  gd (i64ok ((xs27.getD (x29 + 1).toNat 0) + (xs27.getD x29.toNat 0))) <|
  gd (inb (x29 + 1) xs27.length) <|
  gd (i64ok (x29 + 1)) <|
  some (.inl ((xs27.set (x29 + 1).toNat ((xs27.getD (x29 + 1).toNat 0) + (xs27.getD x29.toNat 0))), (x29 + 1))))
  else
  some (.inr xs27)
def Z7w (xs37 : List Int) : Option (List Int) :=
  some xs37
def Z7x (n0 : Net) (xs25 : List Int) : Option (List Int) :=
  Option.bind (Z1t (fun s => Z6d n0 s.1 s.2) Z3f (xs25, 0)) fun p3_0_0 => Z7w p3_0_0
def Z8k (n0 : Net) : Option (List Int) :=
  gd (i64ok (n0.N + 1)) <|
  gd (mkok (n0.N + 1)) <|
  Option.bind (Z1t (fun s => Z6e n0 s.1 s.2) Z3f ((List.replicate ((n0.N + 1).toNat) (0 : Int)), 0)) fun p1_0_0 => Z7x n0 p1_0_0
def Z2a (s0 : List Int) : Option (List Int) :=
  gd (apok s0.length 8) <|
  some s0
def Z9g (from0 : Int) (to1 : Int) (most2 : Int) (arc3 : Int) (back4 : Bool) (c5 : List Int) (c6 : Csr) : Option (Int × List Int × Csr) :=
  gd (inb from0 c5.length) <|
  gd (inb from0 c5.length) <|
  gd (i64ok ((c5.getD from0.toNat 0) + 1)) <|
  gd (inb from0 c5.length) <|
  gd (inb (c5.getD from0.toNat 0) c6.Head.length) <|
  gd (inb (c5.getD from0.toNat 0) c6.Cap.length) <|
  gd (inb (c5.getD from0.toNat 0) c6.Arc.length) <|
  gd (inb (c5.getD from0.toNat 0) c6.Back.length) <|
  some ((c5.getD from0.toNat 0), (c5.set from0.toNat ((c5.getD from0.toNat 0) + 1)), (Csr.mk c6.N c6.S c6.T c6.First (c6.Head.set (c5.getD from0.toNat 0).toNat to1) c6.Rev (c6.Cap.set (c5.getD from0.toNat 0).toNat most2) (c6.Arc.set (c5.getD from0.toNat 0).toNat arc3) (c6.Back.set (c5.getD from0.toNat 0).toNat back4)))
def Z8m (n0 : Net) (r8 : List Int) (xs50 : List Int) (xs52 : List Int) (xs54 : List Int) (xs56 : List Int) (xs58 : List Bool) (xs60 : List Int) (x62 : Int) : Option ((List Int × List Int × List Int × List Int × List Bool × List Int × Int) ⊕ (List Int × List Int × List Int × List Int × List Bool)) :=
  if x62 < (n0.Arcs.length : Int) then
  (gd (inb x62 n0.Arcs.length) <|
  if ((n0.Arcs.getD x62.toNat default).fr) = ((n0.Arcs.getD x62.toNat default).to) then
  (gd (i64ok (x62 + 1)) <|
  some (.inl (xs50, xs52, xs54, xs56, xs58, xs60, (x62 + 1))))
  else
  Option.bind (Z9g ((n0.Arcs.getD x62.toNat default).fr) ((n0.Arcs.getD x62.toNat default).to) ((n0.Arcs.getD x62.toNat default).cap) x62 false xs60 (Csr.mk n0.N n0.S n0.T r8 xs50 xs52 xs54 xs56 xs58)) fun (r69, r70, r71) =>
  Option.bind (Z9g ((n0.Arcs.getD x62.toNat default).to) ((n0.Arcs.getD x62.toNat default).fr) 0 x62 true r70 (Csr.mk n0.N n0.S n0.T r8 r71.Head xs52 r71.Cap r71.Arc r71.Back)) fun (r78, r79, r80) =>
  gd (inb r69 xs52.length) <|
  gd (inb r78 (xs52.set r69.toNat r78).length) <|
  gd (i64ok (x62 + 1)) <|
  some (.inl (r80.Head, ((xs52.set r69.toNat r78).set r78.toNat r69), r80.Cap, r80.Arc, r80.Back, r79, (x62 + 1))))
  else
  some (.inr (xs50, xs52, xs54, xs56, xs58))
def Za1 (n0 : Net) (r8 : List Int) (xs90 : List Int) (xs92 : List Int) (xs94 : List Int) (xs96 : List Int) (xs98 : List Bool) : Option (Csr × Int) :=
  some ((Csr.mk n0.N n0.S n0.T r8 xs90 xs92 xs94 xs96 xs98), 0)
def Zbh (n0 : Net) : Option (Csr × Int) :=
  Option.bind (Z8y n0) fun r5 =>
  if r5 ≠ 0 then
  (some ((Csr.mk 0 0 0 ([]) ([]) ([]) ([]) ([]) ([])), r5))
  else
  Option.bind (Z8k n0) fun r8 =>
  gd (inb n0.N r8.length) <|
  gd (mkok (r8.getD n0.N.toNat 0)) <|
  gd (mkok (r8.getD n0.N.toNat 0)) <|
  gd (mkok (r8.getD n0.N.toNat 0)) <|
  gd (mkok (r8.getD n0.N.toNat 0)) <|
  gd (mkok (r8.getD n0.N.toNat 0)) <|
  Option.bind (Z2a r8) fun r37 =>
  Option.bind (Z1t (fun s => Z8m n0 r8 s.1 s.2.1 s.2.2.1 s.2.2.2.1 s.2.2.2.2.1 s.2.2.2.2.2.1 s.2.2.2.2.2.2) Z3f ((List.replicate ((r8.getD n0.N.toNat 0).toNat) (0 : Int)), (List.replicate ((r8.getD n0.N.toNat 0).toNat) (0 : Int)), (List.replicate ((r8.getD n0.N.toNat 0).toNat) (0 : Int)), (List.replicate ((r8.getD n0.N.toNat 0).toNat) (0 : Int)), (List.replicate ((r8.getD n0.N.toNat 0).toNat) (false : Bool)), r37, 0)) fun (p1_0_0, p1_0_1, p1_0_2, p1_0_3, p1_0_4) => Za1 n0 r8 p1_0_0 p1_0_1 p1_0_2 p1_0_3 p1_0_4
def Zbi (c0 : Csr) : Option (Int) :=
  some (c0.Head.length : Int)
def Zb1 (k0 : Int) (c1 : Int) : Option (Bool) :=
  some (decide (c1 ≤ k0))
def Z24 (s0 : List Int) (f1_0 : Int) (x1 : Int) : Option ((Int) ⊕ (Int ⊕ Unit)) :=
  if x1 < (s0.length : Int) then
  (gd (inb x1 s0.length) <|
  Option.bind (Zb1 (s0.getD x1.toNat 0) f1_0) fun r4 =>
  if r4 = true then
  (some (.inr (.inl x1)))
  else
  gd (i64ok (x1 + 1)) <|
  some (.inl (x1 + 1)))
  else
  some (.inr (.inr ()))
def Z3v  : Option (Int) :=
  some (-1)
def Z3e (s0 : List Int) (f1_0 : Int) : Option (Int) :=
  Option.bind (Z1t (fun s => Z24 s0 f1_0 s) Z3f 0) fun o => match o with | .inl p1_0_0 => (some p1_0_0) | .inr () => Z3v
def Z25 (s0 : List Int) (f1_0 : Int) : Option (Bool) :=
  Option.bind (Z3e s0 f1_0) fun r1 =>
  some (decide (0 ≤ r1))
def Z67 (c0 : Csr) (res1 : List Int) (xs17 : List Int) (x19 : Int) (x30 : Bool) : Option ((List Int × Int) ⊕ ((List Int × Int) ⊕ (List Int))) :=
  if x30 = true then
  (some (.inr (.inl ([], 20))))
  else
  gd (inb x19 c0.Back.length) <|
  if (c0.Back.getD x19.toNat false) = true then
  (gd (inb x19 c0.Arc.length) <|
  gd (inb (c0.Arc.getD x19.toNat 0) xs17.length) <|
  gd (i64ok (x19 + 1)) <|
  some (.inl ((xs17.set (c0.Arc.getD x19.toNat 0).toNat (res1.getD x19.toNat 0)), (x19 + 1))))
  else
  gd (i64ok (x19 + 1)) <|
  some (.inl (xs17, (x19 + 1)))
def Z8n (c0 : Csr) (res1 : List Int) (xs17 : List Int) (x19 : Int) : Option ((List Int × Int) ⊕ ((List Int × Int) ⊕ (List Int))) :=
  if x19 < (res1.length : Int) then
  (gd (inb x19 res1.length) <|
  gd (inb x19 c0.Cap.length) <|
  gd (inb x19 c0.Rev.length) <|
  gd (inb (c0.Rev.getD x19.toNat 0) c0.Cap.length) <|
  if (res1.getD x19.toNat 0) < 0 then
  (Z67 c0 res1 xs17 x19 true)
  else
  if (max (c0.Cap.getD x19.toNat 0) (c0.Cap.getD (c0.Rev.getD x19.toNat 0).toNat 0)) < (res1.getD x19.toNat 0) then
  (Z67 c0 res1 xs17 x19 true)
  else
  gd (inb x19 c0.Rev.length) <|
  gd (inb (c0.Rev.getD x19.toNat 0) res1.length) <|
  gd (i64ok ((max (c0.Cap.getD x19.toNat 0) (c0.Cap.getD (c0.Rev.getD x19.toNat 0).toNat 0)) - (res1.getD x19.toNat 0))) <|
  Z67 c0 res1 xs17 x19 (decide ((res1.getD (c0.Rev.getD x19.toNat 0).toNat 0) ≠ ((max (c0.Cap.getD x19.toNat 0) (c0.Cap.getD (c0.Rev.getD x19.toNat 0).toNat 0)) - (res1.getD x19.toNat 0)))))
  else
  some (.inr (.inr xs17))
def Za2 (xs38 : List Int) : Option (List Int × Int) :=
  some (xs38, 0)
def Z68 (c0 : Csr) (res1 : List Int) (arcs2 : Int) (x12 : Bool) : Option (List Int × Int) :=
  if x12 = true then
  (some ([], 2))
  else
  gd (mkok arcs2) <|
  Option.bind (Z1t (fun s => Z8n c0 res1 s.1 s.2) Z3f ((List.replicate arcs2.toNat (0 : Int)), 0)) fun o => match o with | .inl (p2_0_0, p2_0_1) => (some (p2_0_0, p2_0_1)) | .inr p2_1_0 => (Za2 p2_1_0)
def Zad (c0 : Csr) (res1 : List Int) (arcs2 : Int) : Option (List Int × Int) :=
  Option.bind (Zbi c0) fun r5 =>
  if (res1.length : Int) ≠ r5 then
  (Z68 c0 res1 arcs2 true)
  else
  if arcs2 < 0 then
  (Z68 c0 res1 arcs2 true)
  else
  if 16384 < arcs2 then
  (Z68 c0 res1 arcs2 true)
  else
  Option.bind (Z25 c0.Arc arcs2) fun r10 =>
  Z68 c0 res1 arcs2 r10
def Z64 (i0 : Int) (c1 : List Int) (c2 : Int) : Option (Bool) :=
  gd (inb i0 c1.length) <|
  some (decide (c2 ≤ (c1.getD i0.toNat 0)))
def Z2i (f1_0 : List Int) (f1_1 : Int) (i1 : Int) (j2 : Int) : Option ((Int × Int) ⊕ (Int)) :=
  if i1 < j2 then
  (gd (i64ok (i1 + j2)) <|
  gd (u64ok (i1 + j2)) <|
  gd (i64ok (Int.fdiv (i1 + j2) (2 ^ 1))) <|
  Option.bind (Z64 (Int.fdiv (i1 + j2) (2 ^ 1)) f1_0 f1_1) fun r7 =>
  if (!r7) = true then
  (gd (i64ok ((Int.fdiv (i1 + j2) (2 ^ 1)) + 1)) <|
  some (.inl (((Int.fdiv (i1 + j2) (2 ^ 1)) + 1), j2)))
  else
  some (.inl (i1, (Int.fdiv (i1 + j2) (2 ^ 1)))))
  else
  some (.inr i1)
def Z3d (i11 : Int) : Option (Int) :=
  some i11
def Z3x (n0 : Int) (f1_0 : List Int) (f1_1 : Int) : Option (Int) :=
  Option.bind (Z1t (fun s => Z2i f1_0 f1_1 s.1 s.2) Z3f (0, n0)) fun p1_0_0 => Z3d p1_0_0
def Z5r (a0 : List Int) (x1 : Int) : Option (Int) :=
  Option.bind (Z3x (a0.length : Int) a0 x1) fun r5 =>
  some r5
def Z8l (c0 : Csr) (a1 : Int) (x6 : Bool) : Option (Int × Bool) :=
  if x6 = true then
  (some (0, false))
  else
  gd (i64ok (a1 + 1)) <|
  Option.bind (Z5r c0.First (a1 + 1)) fun r9 =>
  gd (i64ok (r9 - 1)) <|
  some ((r9 - 1), true)
def Zac (c0 : Csr) (a1 : Int) : Option (Int × Bool) :=
  if a1 < 0 then
  (Z8l c0 a1 true)
  else
  Option.bind (Zbi c0) fun r4 =>
  Z8l c0 a1 (decide (r4 ≤ a1))
def Z5c (a0 : List Int) (b1 : List Int) (x2 : Int) : Option ((Int) ⊕ (Bool ⊕ Unit)) :=
  if x2 < (a0.length : Int) then
  (gd (inb x2 a0.length) <|
  gd (inb x2 b1.length) <|
  if (a0.getD x2.toNat 0) ≠ (b1.getD x2.toNat 0) then
  (some (.inr (.inl false)))
  else
  gd (i64ok (x2 + 1)) <|
  some (.inl (x2 + 1)))
  else
  some (.inr (.inr ()))
def Z72  : Option (Bool) :=
  some true
def Z8o (a0 : List Int) (b1 : List Int) : Option (Bool) :=
  if (a0.length : Int) ≠ (b1.length : Int) then
  (some false)
  else
  Option.bind (Z1t (fun s => Z5c a0 b1 s) Z3f 0) fun o => match o with | .inl p1_0_0 => (some p1_0_0) | .inr () => Z72
end Go.Acq
namespace Go.Acq
open Go
set_option linter.unusedVariables false
structure Hop where
  Arc : Int
  Back : Bool
  deriving DecidableEq
instance : Inhabited Hop := ⟨⟨default, default⟩⟩
def Z6b (n0 : Net) (f1 : List Int) (x7 : Int) : Option ((Int) ⊕ (Bool ⊕ Unit)) :=
  if x7 < (n0.Arcs.length : Int) then
  (gd (inb x7 n0.Arcs.length) <|
  gd (inb x7 f1.length) <|
  if (f1.getD x7.toNat 0) < 0 then
  (some (.inr (.inl false)))
  else
  gd (inb x7 f1.length) <|
  if ((n0.Arcs.getD x7.toNat default).cap) < (f1.getD x7.toNat 0) then
  (some (.inr (.inl false)))
  else
  gd (i64ok (x7 + 1)) <|
  some (.inl (x7 + 1)))
  else
  some (.inr (.inr ()))
def Z7u  : Option (Bool) :=
  some true
def Z5a (n0 : Net) (f1 : List Int) : Option (Bool) :=
  Option.bind (Z8y n0) fun r3 =>
  if r3 ≠ 0 then
  (some false)
  else
  if (f1.length : Int) ≠ (n0.Arcs.length : Int) then
  (some false)
  else
  Option.bind (Z1t (fun s => Z6b n0 f1 s) Z3f 0) fun o => match o with | .inl p1_0_0 => (some p1_0_0) | .inr () => Z7u
def Z1v (s0 : List Int) : Option (List Int) :=
  gd (apok s0.length 8) <|
  some s0
def Z6c (n0 : Net) (f1 : List Int) (xs9 : List Int) (x11 : Int) : Option ((List Int × Int) ⊕ (List Int)) :=
  if x11 < (n0.Arcs.length : Int) then
  (gd (inb x11 n0.Arcs.length) <|
  gd (inb ((n0.Arcs.getD x11.toNat default).fr) xs9.length) <|
  gd (inb x11 f1.length) <|
  gd (i64ok ((xs9.getD ((n0.Arcs.getD x11.toNat default).fr).toNat 0) - (f1.getD x11.toNat 0))) <|
  gd (inb ((n0.Arcs.getD x11.toNat default).fr) xs9.length) <|
  gd (inb ((n0.Arcs.getD x11.toNat default).to) (xs9.set ((n0.Arcs.getD x11.toNat default).fr).toNat ((xs9.getD ((n0.Arcs.getD x11.toNat default).fr).toNat 0) - (f1.getD x11.toNat 0))).length) <|
  gd (inb x11 f1.length) <|
  gd (i64ok (((xs9.set ((n0.Arcs.getD x11.toNat default).fr).toNat ((xs9.getD ((n0.Arcs.getD x11.toNat default).fr).toNat 0) - (f1.getD x11.toNat 0))).getD ((n0.Arcs.getD x11.toNat default).to).toNat 0) + (f1.getD x11.toNat 0))) <|
  gd (inb ((n0.Arcs.getD x11.toNat default).to) (xs9.set ((n0.Arcs.getD x11.toNat default).fr).toNat ((xs9.getD ((n0.Arcs.getD x11.toNat default).fr).toNat 0) - (f1.getD x11.toNat 0))).length) <|
  gd (i64ok (x11 + 1)) <|
  some (.inl (((xs9.set ((n0.Arcs.getD x11.toNat default).fr).toNat ((xs9.getD ((n0.Arcs.getD x11.toNat default).fr).toNat 0) - (f1.getD x11.toNat 0))).set ((n0.Arcs.getD x11.toNat default).to).toNat (((xs9.set ((n0.Arcs.getD x11.toNat default).fr).toNat ((xs9.getD ((n0.Arcs.getD x11.toNat default).fr).toNat 0) - (f1.getD x11.toNat 0))).getD ((n0.Arcs.getD x11.toNat default).to).toNat 0) + (f1.getD x11.toNat 0))), (x11 + 1))))
  else
  some (.inr xs9)
def Z7v (xs25 : List Int) : Option (List Int × Int) :=
  some (xs25, 0)
def Z47 (n0 : Net) (f1 : List Int) : Option (List Int × Int) :=
  Option.bind (Z5a n0 f1) fun r3 =>
  if (!r3) = true then
  (some ([], 20))
  else
  gd (mkok n0.N) <|
  Option.bind (Z1t (fun s => Z6c n0 f1 s.1 s.2) Z3f ((List.replicate n0.N.toNat (0 : Int)), 0)) fun p1_0_0 => Z7v p1_0_0
def Zb0 (x0 : Int) : Option (Bool) :=
  some (decide (0 ≤ x0))
def Z49 (s0 : List Int) (v1 : Int) (x1 : Int) : Option ((Int) ⊕ (Int ⊕ Unit)) :=
  if x1 < (s0.length : Int) then
  (gd (inb x1 s0.length) <|
  if v1 = (s0.getD x1.toNat 0) then
  (some (.inr (.inl x1)))
  else
  gd (i64ok (x1 + 1)) <|
  some (.inl (x1 + 1)))
  else
  some (.inr (.inr ()))
def Z54  : Option (Int) :=
  some (-1)
def Z6q (s0 : List Int) (v1 : Int) : Option (Int) :=
  Option.bind (Z1t (fun s => Z49 s0 v1 s) Z3f 0) fun o => match o with | .inl p1_0_0 => (some p1_0_0) | .inr () => Z54
def Z3i (s0 : List Int) (v1 : Int) : Option (Bool) :=
  Option.bind (Z6q s0 v1) fun r1 =>
  some (decide (0 ≤ r1))
def Z4v (but3 : List Int) (r3 : List Int) (x15 : Int) : Option ((Int) ⊕ (Bool ⊕ Unit)) :=
  if x15 < (r3.length : Int) then
  (gd (inb x15 r3.length) <|
  Option.bind (Zb0 (r3.getD x15.toNat 0)) fun r18 =>
  if (!r18) = true then
  (Option.bind (Z3i but3 x15) fun r21 =>
  if (!r21) = true then
  (some (.inr (.inl false)))
  else
  gd (i64ok (x15 + 1)) <|
  some (.inl (x15 + 1)))
  else
  gd (i64ok (x15 + 1)) <|
  some (.inl (x15 + 1)))
  else
  some (.inr (.inr ()))
def Z66 (r4 : Int) : Option (Bool) :=
  some (decide (r4 = 0))
def Z7t (n0 : Net) (f1 : List Int) (but3 : List Int) : Option (Bool) :=
  Option.bind (Z47 n0 f1) fun (r3, r4) =>
  Option.bind (Z1t (fun s => Z4v but3 r3 s) Z3f 0) fun o => match o with | .inl p1_0_0 => (some p1_0_0) | .inr () => (Z66 r4)
def Z8z (n0 : Net) (f1 : List Int) : Option (Bool) :=
  Option.bind (Z7t n0 f1 ([n0.S])) fun r5 =>
  some r5
def Z95 (x0 : Int) : Option (Bool) :=
  some (decide (x0 = 0))
def Z4a (but3 : List Int) (r3 : List Int) (x15 : Int) : Option ((Int) ⊕ (Bool ⊕ Unit)) :=
  if x15 < (r3.length : Int) then
  (gd (inb x15 r3.length) <|
  Option.bind (Z95 (r3.getD x15.toNat 0)) fun r18 =>
  if (!r18) = true then
  (Option.bind (Z3i but3 x15) fun r21 =>
  if (!r21) = true then
  (some (.inr (.inl false)))
  else
  gd (i64ok (x15 + 1)) <|
  some (.inl (x15 + 1)))
  else
  gd (i64ok (x15 + 1)) <|
  some (.inl (x15 + 1)))
  else
  some (.inr (.inr ()))
def Z59 (r4 : Int) : Option (Bool) :=
  some (decide (r4 = 0))
def Z6s (n0 : Net) (f1 : List Int) (but3 : List Int) : Option (Bool) :=
  Option.bind (Z47 n0 f1) fun (r3, r4) =>
  Option.bind (Z1t (fun s => Z4a but3 r3 s) Z3f 0) fun o => match o with | .inl p1_0_0 => (some p1_0_0) | .inr () => (Z59 r4)
def Z9f (n0 : Net) (f1 : List Int) : Option (Bool) :=
  Option.bind (Z6s n0 f1 ([n0.S, n0.T])) fun r5 =>
  some r5
end Go.Acq
namespace Go.Acq
open Go
set_option linter.unusedVariables false
end Go.Acq
namespace Go.Acq
open Go
set_option linter.unusedVariables false
structure CyclesSearch where
  n : Net
  out : List (List Int)
  at_ : List Int
  done : List Bool
  on : List Bool
  way : List Int
  deriving DecidableEq
instance : Inhabited CyclesSearch := ⟨⟨default, default, default, default, default, default⟩⟩
def Z5u (n0 : Net) (f1 : List Int) (out17 : List (List Int)) (x20 : Int) : Option ((List (List Int) × Int) ⊕ (List (List Int))) :=
  if x20 < (n0.Arcs.length : Int) then
  (gd (inb x20 n0.Arcs.length) <|
  gd (inb x20 f1.length) <|
  if 0 < (f1.getD x20.toNat 0) then
  (gd (inb ((n0.Arcs.getD x20.toNat default).fr) out17.length) <|
  gd (apok ((out17.getD ((n0.Arcs.getD x20.toNat default).fr).toNat []) ++ ([x20])).length 8) <|
  gd (i64ok (x20 + 1)) <|
  some (.inl ((out17.set ((n0.Arcs.getD x20.toNat default).fr).toNat ((out17.getD ((n0.Arcs.getD x20.toNat default).fr).toNat []) ++ ([x20]))), (x20 + 1))))
  else
  gd (i64ok (x20 + 1)) <|
  some (.inl (out17, (x20 + 1))))
  else
  some (.inr out17)
def Z7b (n0 : Net) (out50 : List (List Int)) : Option (CyclesSearch) :=
  some (CyclesSearch.mk n0 out50 (List.replicate n0.N.toNat (0 : Int)) (List.replicate n0.N.toNat (false : Bool)) (List.replicate n0.N.toNat (false : Bool)) ([]))
def Z6k (n0 : Net) (f1 : List Int) : Option (CyclesSearch) :=
  gd (mkok n0.N) <|
  gd (mkok n0.N) <|
  gd (mkok n0.N) <|
  gd (mkok n0.N) <|
  Option.bind (Z1t (fun s => Z5u n0 f1 s.1 s.2) Z3f ((List.replicate n0.N.toNat ([] : List Int)), 0)) fun p1_0_0 => Z7b n0 p1_0_0
def Z4d (k0 : Int) (c1 : CyclesSearch) (c2 : Int) : Option (Bool) :=
  gd (inb k0 c1.n.Arcs.length) <|
  some (decide (((c1.n.Arcs.getD k0.toNat default).fr) = c2))
def Z1g (s0 : List Int) (f1_0 : CyclesSearch) (f1_1 : Int) (x1 : Int) : Option ((Int) ⊕ (Int ⊕ Unit)) :=
  if x1 < (s0.length : Int) then
  (gd (inb x1 s0.length) <|
  Option.bind (Z4d (s0.getD x1.toNat 0) f1_0 f1_1) fun r4 =>
  if r4 = true then
  (some (.inr (.inl x1)))
  else
  gd (i64ok (x1 + 1)) <|
  some (.inl (x1 + 1)))
  else
  some (.inr (.inr ()))
def Z2k  : Option (Int) :=
  some (-1)
def Z23 (s0 : List Int) (f1_0 : CyclesSearch) (f1_1 : Int) : Option (Int) :=
  Option.bind (Z1t (fun s => Z1g s0 f1_0 f1_1 s) Z3f 0) fun o => match o with | .inl p1_0_0 => (some p1_0_0) | .inr () => Z2k
def Z3z (s0 : CyclesSearch) (v1 : Int) (last2 : Int) : Option (List Int) :=
  Option.bind (Z2a s0.way) fun r5 =>
  gd (apok (r5 ++ ([last2])).length 8) <|
  Option.bind (Z23 (r5 ++ ([last2])) s0 v1) fun r26 =>
  gd (0 ≤ r26 ∧ r26 ≤ ((r5 ++ ([last2])).length : Int)) <|
  some ((r5 ++ ([last2])).drop r26.toNat)
def Z4y (v0 : Int) (c1 : CyclesSearch) : Option (Int × CyclesSearch) :=
  gd (inb v0 c1.done.length) <|
  gd (inb v0 c1.on.length) <|
  if (c1.way.length : Int) = 0 then
  (some ((-1), (CyclesSearch.mk c1.n c1.out c1.at_ (c1.done.set v0.toNat true) (c1.on.set v0.toNat false) c1.way)))
  else
  gd (i64ok ((c1.way.length : Int) - 1)) <|
  gd (inb ((c1.way.length : Int) - 1) c1.way.length) <|
  gd (i64ok ((c1.way.length : Int) - 1)) <|
  gd (0 ≤ ((c1.way.length : Int) - 1) ∧ ((c1.way.length : Int) - 1) ≤ (c1.way.length : Int)) <|
  gd (inb (c1.way.getD ((c1.way.length : Int) - 1).toNat 0) c1.n.Arcs.length) <|
  some ((c1.n.Arcs.getD (c1.way.getD ((c1.way.length : Int) - 1).toNat 0).toNat default).fr, (CyclesSearch.mk c1.n c1.out c1.at_ (c1.done.set v0.toNat true) (c1.on.set v0.toNat false) (c1.way.take ((c1.way.length : Int) - 1).toNat)))
def Z2w (s0 : CyclesSearch) (v9 : Int) (xs12 : List Bool) (xs14 : List Bool) (way16 : List Int) (xs27 : List Int) : Option ((List Int) ⊕ ((List Int × CyclesSearch) ⊕ (Int × List Int × List Bool × List Bool × List Int) ⊕ (List Int))) :=
  gd (inb v9 xs27.length) <|
  gd (inb v9 s0.out.length) <|
  if (xs27.getD v9.toNat 0) < ((s0.out.getD v9.toNat []).length : Int) then
  (gd (inb v9 s0.out.length) <|
  gd (inb v9 xs27.length) <|
  gd (inb (xs27.getD v9.toNat 0) (s0.out.getD v9.toNat []).length) <|
  gd (inb v9 xs27.length) <|
  gd (i64ok ((xs27.getD v9.toNat 0) + 1)) <|
  gd (inb v9 xs27.length) <|
  gd (inb ((s0.out.getD v9.toNat []).getD (xs27.getD v9.toNat 0).toNat 0) s0.n.Arcs.length) <|
  gd (inb ((s0.n.Arcs.getD ((s0.out.getD v9.toNat []).getD (xs27.getD v9.toNat 0).toNat 0).toNat default).to) xs14.length) <|
  if (xs14.getD ((s0.n.Arcs.getD ((s0.out.getD v9.toNat []).getD (xs27.getD v9.toNat 0).toNat 0).toNat default).to).toNat false) = true then
  (Option.bind (Z3z (CyclesSearch.mk s0.n s0.out (xs27.set v9.toNat ((xs27.getD v9.toNat 0) + 1)) xs12 xs14 way16) ((s0.n.Arcs.getD ((s0.out.getD v9.toNat []).getD (xs27.getD v9.toNat 0).toNat 0).toNat default).to) ((s0.out.getD v9.toNat []).getD (xs27.getD v9.toNat 0).toNat 0)) fun r41 =>
  some (.inr (.inl (r41, (CyclesSearch.mk s0.n s0.out (xs27.set v9.toNat ((xs27.getD v9.toNat 0) + 1)) xs12 xs14 way16)))))
  else
  gd (inb ((s0.n.Arcs.getD ((s0.out.getD v9.toNat []).getD (xs27.getD v9.toNat 0).toNat 0).toNat default).to) xs12.length) <|
  if (!(xs12.getD ((s0.n.Arcs.getD ((s0.out.getD v9.toNat []).getD (xs27.getD v9.toNat 0).toNat 0).toNat default).to).toNat false)) = true then
  (gd (apok (way16 ++ ([((s0.out.getD v9.toNat []).getD (xs27.getD v9.toNat 0).toNat 0)])).length 8) <|
  gd (inb ((s0.n.Arcs.getD ((s0.out.getD v9.toNat []).getD (xs27.getD v9.toNat 0).toNat 0).toNat default).to) xs14.length) <|
  some (.inr (.inr (.inl ((s0.n.Arcs.getD ((s0.out.getD v9.toNat []).getD (xs27.getD v9.toNat 0).toNat 0).toNat default).to, (xs27.set v9.toNat ((xs27.getD v9.toNat 0) + 1)), xs12, (xs14.set ((s0.n.Arcs.getD ((s0.out.getD v9.toNat []).getD (xs27.getD v9.toNat 0).toNat 0).toNat default).to).toNat true), (way16 ++ ([((s0.out.getD v9.toNat []).getD (xs27.getD v9.toNat 0).toNat 0)])))))))
  else
  some (.inl (xs27.set v9.toNat ((xs27.getD v9.toNat 0) + 1))))
  else
  some (.inr (.inr (.inr xs27)))
def Z4m (s0 : CyclesSearch) (v9 : Int) (xs12 : List Bool) (xs14 : List Bool) (way16 : List Int) (xs70 : List Int) : Option ((Int × List Int × List Bool × List Bool × List Int) ⊕ ((List Int × CyclesSearch) ⊕ (List Int × List Bool × List Bool × List Int))) :=
  Option.bind (Z4y v9 (CyclesSearch.mk s0.n s0.out xs70 xs12 xs14 way16)) fun (r72, r73) =>
  some (.inl (r72, xs70, r73.done, r73.on, r73.way))
def Z3p (s0 : CyclesSearch) (v9 : Int) (xs10 : List Int) (xs12 : List Bool) (xs14 : List Bool) (way16 : List Int) : Option ((Int × List Int × List Bool × List Bool × List Int) ⊕ ((List Int × CyclesSearch) ⊕ (List Int × List Bool × List Bool × List Int))) :=
  if 0 ≤ v9 then
  (Option.bind (Z1t (fun s => Z2w s0 v9 xs12 xs14 way16 s) Z3f xs10) fun o => match o with | .inl (p2_0_0, p2_0_1) => (some (.inr (.inl (p2_0_0, p2_0_1)))) | .inr (.inl (p2_1_0, p2_1_1, p2_1_2, p2_1_3, p2_1_4)) => (some (.inl (p2_1_0, p2_1_1, p2_1_2, p2_1_3, p2_1_4))) | .inr (.inr p2_2_0) => (Z4m s0 v9 xs12 xs14 way16 p2_2_0))
  else
  some (.inr (.inr (xs10, xs12, xs14, way16)))
def Z4l (s0 : CyclesSearch) (xs86 : List Int) (xs88 : List Bool) (xs90 : List Bool) (way92 : List Int) : Option (List Int × CyclesSearch) :=
  some ([], (CyclesSearch.mk s0.n s0.out xs86 xs88 xs90 way92))
def Z4h (s0 : CyclesSearch) (v1 : Int) : Option (List Int × CyclesSearch) :=
  gd (inb v1 s0.on.length) <|
  Option.bind (Z1t (fun s => Z3p s0 s.1 s.2.1 s.2.2.1 s.2.2.2.1 s.2.2.2.2) Z3f (v1, s0.at_, s0.done, (s0.on.set v1.toNat true), s0.way)) fun o => match o with | .inl (p1_0_0, p1_0_1) => (some (p1_0_0, p1_0_1)) | .inr (p1_1_0, p1_1_1, p1_1_2, p1_1_3) => (Z4l s0 p1_1_0 p1_1_1 p1_1_2 p1_1_3)
def Z5t (n0 : Net) (r3 : CyclesSearch) (xs51 : List Int) (xs53 : List Bool) (xs55 : List Bool) (way57 : List Int) (x67 : Int) : Option ((List Int × List Bool × List Bool × List Int × Int) ⊕ ((List Int) ⊕ Unit)) :=
  if x67 < n0.N then
  (gd (inb x67 xs53.length) <|
  if (xs53.getD x67.toNat false) = true then
  (gd (i64ok (x67 + 1)) <|
  some (.inl (xs51, xs53, xs55, way57, (x67 + 1))))
  else
  Option.bind (Z4h (CyclesSearch.mk (Net.mk r3.n.N r3.n.S r3.n.T n0.Arcs) r3.out xs51 xs53 xs55 way57) x67) fun (r72, r73) =>
  if 0 < (r72.length : Int) then
  (some (.inr (.inl r72)))
  else
  gd (i64ok (x67 + 1)) <|
  some (.inl (r73.at_, r73.done, r73.on, r73.way, (x67 + 1))))
  else
  some (.inr (.inr ()))
def Z7a  : Option (List Int) :=
  some ([])
def Z4q (n0 : Net) (f1 : List Int) : Option (List Int) :=
  Option.bind (Z6k n0 f1) fun r3 =>
  Option.bind (Z1t (fun s => Z5t n0 r3 s.1 s.2.1 s.2.2.1 s.2.2.2.1 s.2.2.2.2) Z3f (r3.at_, r3.done, r3.on, r3.way, 0)) fun o => match o with | .inl p1_0_0 => (some p1_0_0) | .inr () => Z7a
def Z8j (n0 : Net) (f1 : List Int) : Option (List Int × Int) :=
  Option.bind (Z5a n0 f1) fun r3 =>
  if (!r3) = true then
  (some ([], 20))
  else
  Option.bind (Z4q n0 f1) fun r6 =>
  some (r6, 0)
def Z71 (x0 : Int) : Option (Bool) :=
  some (decide (x0 ≠ x0))
def Z7o (x0 : Int) (y1 : Int) : Option (Bool) :=
  Option.bind (Z71 x0) fun r1 =>
  if r1 = true then
  (Option.bind (Z71 y1) fun r4 =>
  if (!r4) = true then
  (some true)
  else
  some (decide (x0 < y1)))
  else
  some (decide (x0 < y1))
def Z53 (x0 : Int) : Option (Bool) :=
  some (decide (x0 ≠ x0))
def Z2l (x0 : List Int) (target1 : Int) (i1 : Int) (j2 : Int) : Option ((Int × Int) ⊕ (Int)) :=
  if i1 < j2 then
  (gd (i64ok (i1 + j2)) <|
  gd (u64ok (i1 + j2)) <|
  gd (i64ok (Int.fdiv (i1 + j2) (2 ^ 1))) <|
  gd (inb (Int.fdiv (i1 + j2) (2 ^ 1)) x0.length) <|
  Option.bind (Z7o (x0.getD (Int.fdiv (i1 + j2) (2 ^ 1)).toNat 0) target1) fun r8 =>
  if r8 = true then
  (gd (i64ok ((Int.fdiv (i1 + j2) (2 ^ 1)) + 1)) <|
  some (.inl (((Int.fdiv (i1 + j2) (2 ^ 1)) + 1), j2)))
  else
  some (.inl (i1, (Int.fdiv (i1 + j2) (2 ^ 1)))))
  else
  some (.inr i1)
def Z3l (x0 : List Int) (target1 : Int) (i12 : Int) : Option (Int × Bool) :=
  if i12 < (x0.length : Int) then
  (gd (inb i12 x0.length) <|
  if (x0.getD i12.toNat 0) = target1 then
  (some (i12, true))
  else
  gd (inb i12 x0.length) <|
  Option.bind (Z53 (x0.getD i12.toNat 0)) fun r17 =>
  if r17 = true then
  (Option.bind (Z53 target1) fun r20 =>
  some (i12, r20))
  else
  some (i12, false))
  else
  some (i12, false)
def Z3a (x0 : List Int) (target1 : Int) : Option (Int × Bool) :=
  Option.bind (Z1t (fun s => Z2l x0 target1 s.1 s.2) Z3f (0, (x0.length : Int))) fun p1_0_0 => Z3l x0 target1 p1_0_0
def Z65 (xs : List Int) (i : Int) (vs : List Int) : Option (List Int) :=
  gd (0 ≤ i ∧ i ≤ (xs.length : Int) ∧ 0 < vs.length ∧ apok (xs ++ vs).length 8) <| some (xs.take i.toNat ++ vs ++ xs.drop i.toNat)
def Z5w (n0 : Net) (r6 : CyclesSearch) (x59 : Int) (xs62 : List Int) (x64 : Int) : Option ((List Int × Int) ⊕ (List Int)) :=
  if x64 < ((r6.out.getD x59.toNat []).length : Int) then
  (gd (inb x64 (r6.out.getD x59.toNat []).length) <|
  gd (inb ((r6.out.getD x59.toNat []).getD x64.toNat 0) n0.Arcs.length) <|
  gd (inb ((n0.Arcs.getD ((r6.out.getD x59.toNat []).getD x64.toNat 0).toNat default).to) xs62.length) <|
  gd (i64ok ((xs62.getD ((n0.Arcs.getD ((r6.out.getD x59.toNat []).getD x64.toNat 0).toNat default).to).toNat 0) + 1)) <|
  gd (inb ((n0.Arcs.getD ((r6.out.getD x59.toNat []).getD x64.toNat 0).toNat default).to) xs62.length) <|
  gd (i64ok (x64 + 1)) <|
  some (.inl ((xs62.set ((n0.Arcs.getD ((r6.out.getD x59.toNat []).getD x64.toNat 0).toNat default).to).toNat ((xs62.getD ((n0.Arcs.getD ((r6.out.getD x59.toNat []).getD x64.toNat 0).toNat default).to).toNat 0) + 1)), (x64 + 1))))
  else
  some (.inr xs62)
def Z7f (x59 : Int) (xs72 : List Int) : Option ((List Int × Int) ⊕ (List Int)) :=
  gd (i64ok (x59 + 1)) <|
  some (.inl (xs72, (x59 + 1)))
def Z4t (n0 : Net) (r6 : CyclesSearch) (xs57 : List Int) (x59 : Int) : Option ((List Int × Int) ⊕ (List Int)) :=
  if x59 < (r6.out.length : Int) then
  (gd (inb x59 r6.out.length) <|
  Option.bind (Z1t (fun s => Z5w n0 r6 x59 s.1 s.2) Z3f (xs57, 0)) fun p2_0_0 => Z7f x59 p2_0_0)
  else
  some (.inr xs57)
def Z4s (xs75 : List Int) (free77 : List Int) (x88 : Int) : Option ((List Int × Int) ⊕ (List Int)) :=
  if x88 < (xs75.length : Int) then
  (gd (inb x88 xs75.length) <|
  if (xs75.getD x88.toNat 0) = 0 then
  (gd (apok (free77 ++ ([x88])).length 8) <|
  gd (i64ok (x88 + 1)) <|
  some (.inl ((free77 ++ ([x88])), (x88 + 1))))
  else
  gd (i64ok (x88 + 1)) <|
  some (.inl (free77, (x88 + 1))))
  else
  some (.inr free77)
def Z4r (n0 : Net) (r6 : CyclesSearch) (out118 : List Int) (free129 : List Int) (xs160 : List Int) (free162 : List Int) (x178 : Int) : Option ((List Int × List Int × Int) ⊕ (List Int × List Int × List Int)) :=
  if x178 < ((r6.out.getD (free129.getD (0 : Int).toNat 0).toNat []).length : Int) then
  (gd (inb x178 (r6.out.getD (free129.getD (0 : Int).toNat 0).toNat []).length) <|
  gd (inb ((r6.out.getD (free129.getD (0 : Int).toNat 0).toNat []).getD x178.toNat 0) n0.Arcs.length) <|
  gd (inb ((n0.Arcs.getD ((r6.out.getD (free129.getD (0 : Int).toNat 0).toNat []).getD x178.toNat 0).toNat default).to) xs160.length) <|
  gd (i64ok ((xs160.getD ((n0.Arcs.getD ((r6.out.getD (free129.getD (0 : Int).toNat 0).toNat []).getD x178.toNat 0).toNat default).to).toNat 0) - 1)) <|
  gd (inb ((n0.Arcs.getD ((r6.out.getD (free129.getD (0 : Int).toNat 0).toNat []).getD x178.toNat 0).toNat default).to) xs160.length) <|
  gd (inb ((n0.Arcs.getD ((r6.out.getD (free129.getD (0 : Int).toNat 0).toNat []).getD x178.toNat 0).toNat default).to) (xs160.set ((n0.Arcs.getD ((r6.out.getD (free129.getD (0 : Int).toNat 0).toNat []).getD x178.toNat 0).toNat default).to).toNat ((xs160.getD ((n0.Arcs.getD ((r6.out.getD (free129.getD (0 : Int).toNat 0).toNat []).getD x178.toNat 0).toNat default).to).toNat 0) - 1)).length) <|
  if ((xs160.set ((n0.Arcs.getD ((r6.out.getD (free129.getD (0 : Int).toNat 0).toNat []).getD x178.toNat 0).toNat default).to).toNat ((xs160.getD ((n0.Arcs.getD ((r6.out.getD (free129.getD (0 : Int).toNat 0).toNat []).getD x178.toNat 0).toNat default).to).toNat 0) - 1)).getD ((n0.Arcs.getD ((r6.out.getD (free129.getD (0 : Int).toNat 0).toNat []).getD x178.toNat 0).toNat default).to).toNat 0) = 0 then
  (Option.bind (Z3a free162 ((n0.Arcs.getD ((r6.out.getD (free129.getD (0 : Int).toNat 0).toNat []).getD x178.toNat 0).toNat default).to)) fun (r187, r188) =>
  Option.bind (Z65 free162 r187 ([(n0.Arcs.getD ((r6.out.getD (free129.getD (0 : Int).toNat 0).toNat []).getD x178.toNat 0).toNat default).to])) fun r192 =>
  gd (i64ok (x178 + 1)) <|
  some (.inl ((xs160.set ((n0.Arcs.getD ((r6.out.getD (free129.getD (0 : Int).toNat 0).toNat []).getD x178.toNat 0).toNat default).to).toNat ((xs160.getD ((n0.Arcs.getD ((r6.out.getD (free129.getD (0 : Int).toNat 0).toNat []).getD x178.toNat 0).toNat default).to).toNat 0) - 1)), r192, (x178 + 1))))
  else
  gd (i64ok (x178 + 1)) <|
  some (.inl ((xs160.set ((n0.Arcs.getD ((r6.out.getD (free129.getD (0 : Int).toNat 0).toNat []).getD x178.toNat 0).toNat default).to).toNat ((xs160.getD ((n0.Arcs.getD ((r6.out.getD (free129.getD (0 : Int).toNat 0).toNat []).getD x178.toNat 0).toNat default).to).toNat 0) - 1)), free162, (x178 + 1))))
  else
  some (.inr (xs160, (out118 ++ ([(free129.getD (0 : Int).toNat 0)])), free162))
def Z5v (n0 : Net) (r6 : CyclesSearch) (xs116 : List Int) (out118 : List Int) (free129 : List Int) : Option ((List Int × List Int × List Int) ⊕ (List Int)) :=
  if 0 < (free129.length : Int) then
  (gd (inb 0 free129.length) <|
  gd (0 ≤ (1 : Int) ∧ (1 : Int) ≤ (free129.length : Int)) <|
  gd (apok (out118 ++ ([(free129.getD (0 : Int).toNat 0)])).length 8) <|
  gd (inb (free129.getD (0 : Int).toNat 0) r6.out.length) <|
  Option.bind (Z1t (fun s => Z4r n0 r6 out118 free129 s.1 s.2.1 s.2.2) Z3f (xs116, (free129.drop (1 : Int).toNat), 0)) fun (p8_0_0, p8_0_1, p8_0_2) => some (.inl (p8_0_0, p8_0_1, p8_0_2)))
  else
  some (.inr out118)
def Z7c (n0 : Net) (out211 : List Int) : Option (List Int × Bool) :=
  if (out211.length : Int) < n0.N then
  (some ([], false))
  else
  some (out211, true)
def Z7d (n0 : Net) (r6 : CyclesSearch) (xs75 : List Int) (free105 : List Int) : Option (List Int × Bool) :=
  Option.bind (Z1t (fun s => Z5v n0 r6 s.1 s.2.1 s.2.2) Z3f (xs75, [], free105)) fun p7_0_0 => Z7c n0 p7_0_0
def Z7e (n0 : Net) (r6 : CyclesSearch) (xs75 : List Int) : Option (List Int × Bool) :=
  Option.bind (Z1t (fun s => Z4s xs75 s.1 s.2) Z3f ([], 0)) fun p5_0_0 => Z7d n0 r6 xs75 p5_0_0
def Z7n (n0 : Net) (f1 : List Int) : Option (List Int × Bool) :=
  Option.bind (Z5a n0 f1) fun r3 =>
  if (!r3) = true then
  (some ([], false))
  else
  Option.bind (Z6k n0 f1) fun r6 =>
  gd (mkok n0.N) <|
  Option.bind (Z1t (fun s => Z4t n0 r6 s.1 s.2) Z3f ((List.replicate n0.N.toNat (0 : Int)), 0)) fun p1_0_0 => Z7e n0 r6 p1_0_0
def Z4f (xs17 : List Int) (r20 : List Int) (least39 : Int) (x40 : Int) : Option ((Int × Int) ⊕ (Int)) :=
  if x40 < (r20.length : Int) then
  (gd (inb x40 r20.length) <|
  gd (inb (r20.getD x40.toNat 0) xs17.length) <|
  gd (i64ok (x40 + 1)) <|
  some (.inl ((min least39 (xs17.getD (r20.getD x40.toNat 0).toNat 0)), (x40 + 1))))
  else
  some (.inr least39)
def Z4e (r20 : List Int) (least45 : Int) (xs46 : List Int) (x48 : Int) : Option ((List Int × Int) ⊕ (List Int)) :=
  if x48 < (r20.length : Int) then
  (gd (inb x48 r20.length) <|
  gd (inb (r20.getD x48.toNat 0) xs46.length) <|
  gd (i64ok ((xs46.getD (r20.getD x48.toNat 0).toNat 0) - least45)) <|
  gd (inb (r20.getD x48.toNat 0) xs46.length) <|
  gd (i64ok (x48 + 1)) <|
  some (.inl ((xs46.set (r20.getD x48.toNat 0).toNat ((xs46.getD (r20.getD x48.toNat 0).toNat 0) - least45)), (x48 + 1))))
  else
  some (.inr xs46)
def Z6t (many19 : Int) (xs55 : List Int) : Option ((List Int × Int) ⊕ (List Int × Int × Int)) :=
  gd (i64ok (many19 + 1)) <|
  some (.inl (xs55, (many19 + 1)))
def Z6u (xs17 : List Int) (many19 : Int) (r20 : List Int) (least45 : Int) : Option ((List Int × Int) ⊕ (List Int × Int × Int)) :=
  Option.bind (Z1t (fun s => Z4e r20 least45 s.1 s.2) Z3f (xs17, 0)) fun p4_0_0 => Z6t many19 p4_0_0
def Z5b (n0 : Net) (xs17 : List Int) (many19 : Int) : Option ((List Int × Int) ⊕ (List Int × Int × Int)) :=
  Option.bind (Z4q n0 xs17) fun r20 =>
  if (r20.length : Int) = 0 then
  (some (.inr (xs17, many19, 0)))
  else
  gd (inb 0 r20.length) <|
  gd (inb (r20.getD (0 : Int).toNat 0) xs17.length) <|
  Option.bind (Z1t (fun s => Z4f xs17 r20 s.1 s.2) Z3f ((xs17.getD (r20.getD (0 : Int).toNat 0).toNat 0), 0)) fun p2_0_0 => Z6u xs17 many19 r20 p2_0_0
def Z70 (n0 : Net) (f1 : List Int) : Option (List Int × Int × Int) :=
  Option.bind (Z5a n0 f1) fun r3 =>
  if (!r3) = true then
  (some ([], 0, 20))
  else
  Option.bind (Z1v f1) fun r6 =>
  Option.bind (Z1t (fun s => Z5b n0 s.1 s.2) Z3f (r6, 0)) fun (p1_0_0, p1_0_1, p1_0_2) => some (p1_0_0, p1_0_1, p1_0_2)
end Go.Acq
namespace Go.Acq
open Go
set_option linter.unusedVariables false
end Go.Acq
namespace Go.Acq
open Go
set_option linter.unusedVariables false
def Z7p (n0 : Net) (out6 : List (List Int)) (x9 : Int) : Option ((List (List Int) × Int) ⊕ (List (List Int))) :=
  if x9 < (n0.Arcs.length : Int) then
  (gd (inb x9 n0.Arcs.length) <|
  gd (inb ((n0.Arcs.getD x9.toNat default).to) out6.length) <|
  gd (apok ((out6.getD ((n0.Arcs.getD x9.toNat default).to).toNat []) ++ ([x9])).length 8) <|
  gd (i64ok (x9 + 1)) <|
  some (.inl ((out6.set ((n0.Arcs.getD x9.toNat default).to).toNat ((out6.getD ((n0.Arcs.getD x9.toNat default).to).toNat []) ++ ([x9]))), (x9 + 1))))
  else
  some (.inr out6)
def Z96 (out36 : List (List Int)) : Option (List (List Int)) :=
  some out36
def Zal (n0 : Net) : Option (List (List Int)) :=
  gd (mkok n0.N) <|
  Option.bind (Z1t (fun s => Z7p n0 s.1 s.2) Z3f ((List.replicate n0.N.toNat ([] : List Int)), 0)) fun p1_0_0 => Z96 p1_0_0
def Z55 (s0 : List Int) : Option (Unit) :=
  some ()
def Z2x {S_ X_ : Type} (yy_ : S_ → (Int × Int) → Option (S_ ⊕ X_)) (c1 : List Int) (i2 : Int) (tt4 : S_ ⊕ X_) : Option ((Int × (S_ ⊕ X_)) ⊕ ((S_ ⊕ X_))) :=
  if 0 ≤ i2 then
  (gd (inb i2 c1.length) <|
  Option.bind (Zkb yy_ tt4 (i2, (c1.getD i2.toNat 0))) fun tt8 =>
  if (!tt8.isLeft) = true then
  (some (.inr tt8))
  else
  gd (i64ok (i2 - 1)) <|
  some (.inl ((i2 - 1), tt8)))
  else
  some (.inr tt4)
def Z3o {S_ X_ : Type} (yy_ : S_ → (Int × Int) → Option (S_ ⊕ X_)) (c1 : List Int) (tt_ : S_ ⊕ X_) : Option ((S_ ⊕ X_)) :=
  gd (i64ok ((c1.length : Int) - 1)) <|
  Option.bind (Z1t (fun s => Z2x yy_ c1 s.1 s.2) Z3f (((c1.length : Int) - 1), tt_)) fun p1_0_0 => some p1_0_0
def Z6l (n0 : Net) (r49 : List (List Int)) (y69 : Int) (xs73 : List Int) (xs75 : List Int) (x77 : Int) : Option ((List Int × List Int × Int) ⊕ (List Int × List Int)) :=
  if x77 < ((r49.getD y69.toNat []).length : Int) then
  (gd (inb x77 (r49.getD y69.toNat []).length) <|
  gd (inb y69 xs75.length) <|
  gd (inb ((r49.getD y69.toNat []).getD x77.toNat 0) xs73.length) <|
  gd (inb ((r49.getD y69.toNat []).getD x77.toNat 0) xs73.length) <|
  gd (i64ok ((xs73.getD ((r49.getD y69.toNat []).getD x77.toNat 0).toNat 0) - (min (xs75.getD y69.toNat 0) (xs73.getD ((r49.getD y69.toNat []).getD x77.toNat 0).toNat 0)))) <|
  gd (inb ((r49.getD y69.toNat []).getD x77.toNat 0) xs73.length) <|
  gd (inb y69 xs75.length) <|
  gd (i64ok ((xs75.getD y69.toNat 0) - (min (xs75.getD y69.toNat 0) (xs73.getD ((r49.getD y69.toNat []).getD x77.toNat 0).toNat 0)))) <|
  gd (inb y69 xs75.length) <|
  gd (inb ((r49.getD y69.toNat []).getD x77.toNat 0) n0.Arcs.length) <|
  gd (inb ((n0.Arcs.getD ((r49.getD y69.toNat []).getD x77.toNat 0).toNat default).fr) (xs75.set y69.toNat ((xs75.getD y69.toNat 0) - (min (xs75.getD y69.toNat 0) (xs73.getD ((r49.getD y69.toNat []).getD x77.toNat 0).toNat 0)))).length) <|
  gd (i64ok (((xs75.set y69.toNat ((xs75.getD y69.toNat 0) - (min (xs75.getD y69.toNat 0) (xs73.getD ((r49.getD y69.toNat []).getD x77.toNat 0).toNat 0)))).getD ((n0.Arcs.getD ((r49.getD y69.toNat []).getD x77.toNat 0).toNat default).fr).toNat 0) + (min (xs75.getD y69.toNat 0) (xs73.getD ((r49.getD y69.toNat []).getD x77.toNat 0).toNat 0)))) <|
  gd (inb ((n0.Arcs.getD ((r49.getD y69.toNat []).getD x77.toNat 0).toNat default).fr) (xs75.set y69.toNat ((xs75.getD y69.toNat 0) - (min (xs75.getD y69.toNat 0) (xs73.getD ((r49.getD y69.toNat []).getD x77.toNat 0).toNat 0)))).length) <|
  gd (i64ok (x77 + 1)) <|
  some (.inl ((xs73.set ((r49.getD y69.toNat []).getD x77.toNat 0).toNat ((xs73.getD ((r49.getD y69.toNat []).getD x77.toNat 0).toNat 0) - (min (xs75.getD y69.toNat 0) (xs73.getD ((r49.getD y69.toNat []).getD x77.toNat 0).toNat 0)))), ((xs75.set y69.toNat ((xs75.getD y69.toNat 0) - (min (xs75.getD y69.toNat 0) (xs73.getD ((r49.getD y69.toNat []).getD x77.toNat 0).toNat 0)))).set ((n0.Arcs.getD ((r49.getD y69.toNat []).getD x77.toNat 0).toNat default).fr).toNat (((xs75.set y69.toNat ((xs75.getD y69.toNat 0) - (min (xs75.getD y69.toNat 0) (xs73.getD ((r49.getD y69.toNat []).getD x77.toNat 0).toNat 0)))).getD ((n0.Arcs.getD ((r49.getD y69.toNat []).getD x77.toNat 0).toNat default).fr).toNat 0) + (min (xs75.getD y69.toNat 0) (xs73.getD ((r49.getD y69.toNat []).getD x77.toNat 0).toNat 0)))), (x77 + 1))))
  else
  some (.inr (xs73, xs75))
def Z48 (n0 : Net) (r49 : List (List Int)) (xs64 : List Int) (xs66 : List Int) (y68 : Int) (y69 : Int) : Option ((List Int × List Int) ⊕ (Empty)) :=
  if y69 = n0.S then
  (some (.inl (xs64, xs66)))
  else
  if y69 = n0.T then
  (some (.inl (xs64, xs66)))
  else
  gd (inb y69 r49.length) <|
  Option.bind (Z1t (fun s => Z6l n0 r49 y69 s.1 s.2.1 s.2.2) Z3f (xs64, xs66, 0)) fun (p2_0_0, p2_0_1) => some (.inl (p2_0_0, p2_0_1))
def Z91 (n0 : Net) (f1 : List Int) : Option (List Int × Int) :=
  Option.bind (Z8z n0 f1) fun r3 =>
  if (!r3) = true then
  (some ([], 20))
  else
  Option.bind (Z70 n0 f1) fun (r6, r7, r8) =>
  if r8 ≠ 0 then
  (some ([], r8))
  else
  Option.bind (Z47 n0 r6) fun (r22, r23) =>
  if r23 ≠ 0 then
  (some ([], r23))
  else
  Option.bind (Z7n n0 r6) fun (r37, r38) =>
  Option.bind (Zal n0) fun r49 =>
  Option.bind (Z55 r37) fun _ =>
  Option.bind (Z3o (fun s v => Z48 n0 r49 s.1 s.2 v.1 v.2) r37 (.inl (r6, r22))) fun t => match t with | .inl (xs64, xs66) => (some (xs64, 0)) | .inr x => nomatch x
def Z5k (r6 : List Int) (sum18 : Int) (x19 : Int) (x23 : Bool) : Option ((Int × Int) ⊕ (Int)) :=
  if x23 = true then
  (gd (i64ok (sum18 + (r6.getD x19.toNat 0))) <|
  gd (i64ok (x19 + 1)) <|
  some (.inl ((sum18 + (r6.getD x19.toNat 0)), (x19 + 1))))
  else
  gd (i64ok (x19 + 1)) <|
  some (.inl (sum18, (x19 + 1)))
def Z7q (n0 : Net) (r6 : List Int) (sum18 : Int) (x19 : Int) : Option ((Int × Int) ⊕ (Int)) :=
  if x19 < (r6.length : Int) then
  (gd (inb x19 r6.length) <|
  if x19 ≠ n0.S then
  (Z5k r6 sum18 x19 (decide (x19 ≠ n0.T)))
  else
  Z5k r6 sum18 x19 false)
  else
  some (.inr sum18)
def Z97 (r7 : Int) (sum28 : Int) : Option (Int × Int) :=
  some (sum28, r7)
def Z90 (n0 : Net) (f1 : List Int) : Option (Int × Int) :=
  Option.bind (Z8z n0 f1) fun r3 =>
  if (!r3) = true then
  (some (0, 20))
  else
  Option.bind (Z47 n0 f1) fun (r6, r7) =>
  Option.bind (Z1t (fun s => Z7q n0 r6 s.1 s.2) Z3f (0, 0)) fun p1_0_0 => Z97 r7 p1_0_0
def Z5p  : Option (Bool) :=
  Option.bind (Z91 (Net.mk 4 0 3 ([(Arc.mk 0 1 9), (Arc.mk 1 2 9), (Arc.mk 1 3 9)])) ([9, 4, 2])) fun (r7, r8) =>
  Option.bind (Z90 (Net.mk 4 0 3 ([(Arc.mk 0 1 9), (Arc.mk 1 2 9), (Arc.mk 1 3 9)])) ([9, 4, 2])) fun (r21, r22) =>
  if r8 = 0 then
  (if r22 = 0 then
  (if r21 = 7 then
  (Option.bind (Z8o r7 ([2, 0, 2])) fun r29 =>
  some r29)
  else
  some false)
  else
  some false)
  else
  some false
end Go.Acq
namespace Go.Acq
open Go
set_option linter.unusedVariables false
structure Pre where
  Res : List Int
  Ex : List Int
  H : List Int
  deriving DecidableEq
instance : Inhabited Pre := ⟨⟨default, default, default⟩⟩
def Z5s (c0 : Csr) (u1 : Int) : Option (Unit) :=
  some ()
def Z6z {S_ X_ : Type} (yy_ : S_ → Int → Option (S_ ⊕ X_)) (c1 : Csr) (c2 : Int) (a2 : Int) (tt4 : S_ ⊕ X_) : Option ((Int × (S_ ⊕ X_)) ⊕ ((S_ ⊕ X_))) :=
  gd (i64ok (c2 + 1)) <|
  gd (inb (c2 + 1) c1.First.length) <|
  if a2 < (c1.First.getD (c2 + 1).toNat 0) then
  (Option.bind (Zkb yy_ tt4 a2) fun tt9 =>
  if (!tt9.isLeft) = true then
  (some (.inr tt9))
  else
  gd (i64ok (a2 + 1)) <|
  some (.inl ((a2 + 1), tt9)))
  else
  some (.inr tt4)
def Z61 {S_ X_ : Type} (yy_ : S_ → Int → Option (S_ ⊕ X_)) (c1 : Csr) (c2 : Int) (tt_ : S_ ⊕ X_) : Option ((S_ ⊕ X_)) :=
  gd (inb c2 c1.First.length) <|
  Option.bind (Z1t (fun s => Z6z yy_ c1 c2 s.1 s.2) Z3f ((c1.First.getD c2.toNat 0), tt_)) fun p1_0_0 => some p1_0_0
def Za9 (c0 : Csr) (p1 : Pre) (a2 : Int) (d3 : Int) : Option (Pre) :=
  gd (inb a2 c0.Rev.length) <|
  gd (inb (c0.Rev.getD a2.toNat 0) c0.Head.length) <|
  gd (inb a2 p1.Res.length) <|
  gd (i64ok ((p1.Res.getD a2.toNat 0) - d3)) <|
  gd (inb a2 p1.Res.length) <|
  gd (inb a2 c0.Rev.length) <|
  gd (inb (c0.Rev.getD a2.toNat 0) (p1.Res.set a2.toNat ((p1.Res.getD a2.toNat 0) - d3)).length) <|
  gd (i64ok (((p1.Res.set a2.toNat ((p1.Res.getD a2.toNat 0) - d3)).getD (c0.Rev.getD a2.toNat 0).toNat 0) + d3)) <|
  gd (inb (c0.Rev.getD a2.toNat 0) (p1.Res.set a2.toNat ((p1.Res.getD a2.toNat 0) - d3)).length) <|
  gd (inb (c0.Head.getD (c0.Rev.getD a2.toNat 0).toNat 0) p1.Ex.length) <|
  gd (i64ok ((p1.Ex.getD (c0.Head.getD (c0.Rev.getD a2.toNat 0).toNat 0).toNat 0) - d3)) <|
  gd (inb (c0.Head.getD (c0.Rev.getD a2.toNat 0).toNat 0) p1.Ex.length) <|
  gd (inb a2 c0.Head.length) <|
  gd (inb (c0.Head.getD a2.toNat 0) (p1.Ex.set (c0.Head.getD (c0.Rev.getD a2.toNat 0).toNat 0).toNat ((p1.Ex.getD (c0.Head.getD (c0.Rev.getD a2.toNat 0).toNat 0).toNat 0) - d3)).length) <|
  gd (i64ok (((p1.Ex.set (c0.Head.getD (c0.Rev.getD a2.toNat 0).toNat 0).toNat ((p1.Ex.getD (c0.Head.getD (c0.Rev.getD a2.toNat 0).toNat 0).toNat 0) - d3)).getD (c0.Head.getD a2.toNat 0).toNat 0) + d3)) <|
  gd (inb (c0.Head.getD a2.toNat 0) (p1.Ex.set (c0.Head.getD (c0.Rev.getD a2.toNat 0).toNat 0).toNat ((p1.Ex.getD (c0.Head.getD (c0.Rev.getD a2.toNat 0).toNat 0).toNat 0) - d3)).length) <|
  some (Pre.mk ((p1.Res.set a2.toNat ((p1.Res.getD a2.toNat 0) - d3)).set (c0.Rev.getD a2.toNat 0).toNat (((p1.Res.set a2.toNat ((p1.Res.getD a2.toNat 0) - d3)).getD (c0.Rev.getD a2.toNat 0).toNat 0) + d3)) ((p1.Ex.set (c0.Head.getD (c0.Rev.getD a2.toNat 0).toNat 0).toNat ((p1.Ex.getD (c0.Head.getD (c0.Rev.getD a2.toNat 0).toNat 0).toNat 0) - d3)).set (c0.Head.getD a2.toNat 0).toNat (((p1.Ex.set (c0.Head.getD (c0.Rev.getD a2.toNat 0).toNat 0).toNat ((p1.Ex.getD (c0.Head.getD (c0.Rev.getD a2.toNat 0).toNat 0).toNat 0) - d3)).getD (c0.Head.getD a2.toNat 0).toNat 0) + d3)) p1.H)
def Z5j (c0 : Csr) (xs30 : List Int) (xs32 : List Int) (y34 : Int) : Option ((List Int × List Int) ⊕ (Empty)) :=
  gd (inb y34 xs30.length) <|
  Option.bind (Za9 c0 (Pre.mk xs30 xs32 ((List.replicate c0.N.toNat (0 : Int)).set c0.S.toNat c0.N)) y34 (xs30.getD y34.toNat 0)) fun r36 =>
  some (.inl (r36.Res, r36.Ex))
def Z7z (c0 : Csr) : Option (Pre) :=
  Option.bind (Z1v c0.Cap) fun r5 =>
  gd (mkok c0.N) <|
  gd (mkok c0.N) <|
  gd (inb c0.S (List.replicate c0.N.toNat (0 : Int)).length) <|
  Option.bind (Z5s c0 c0.S) fun _ =>
  Option.bind (Z61 (fun s v => Z5j c0 s.1 s.2 v) c0 c0.S (.inl (r5, (List.replicate c0.N.toNat (0 : Int))))) fun t => match t with | .inl (xs30, xs32) => (some (Pre.mk xs30 xs32 ((List.replicate c0.N.toNat (0 : Int)).set c0.S.toNat c0.N))) | .inr x => nomatch x
def Z62 (c0 : Csr) (p1 : Pre) (u2 : Int) : Option (Bool) :=
  if u2 ≠ c0.S then
  (if u2 ≠ c0.T then
  (gd (inb u2 p1.Ex.length) <|
  some (decide (0 < (p1.Ex.getD u2.toNat 0))))
  else
  some false)
  else
  some false
def Z4g (c0 : Csr) (p1 : Pre) (u2 : Int) (a3 : Int) : Option (Bool) :=
  gd (inb a3 p1.Res.length) <|
  if 0 < (p1.Res.getD a3.toNat 0) then
  (gd (inb u2 p1.H.length) <|
  gd (inb a3 c0.Head.length) <|
  gd (inb (c0.Head.getD a3.toNat 0) p1.H.length) <|
  gd (i64ok ((p1.H.getD (c0.Head.getD a3.toNat 0).toNat 0) + 1)) <|
  some (decide ((p1.H.getD u2.toNat 0) = ((p1.H.getD (c0.Head.getD a3.toNat 0).toNat 0) + 1))))
  else
  some false
def Z8x (p0 : Pre) : Option (Pre) :=
  Option.bind (Z1v p0.Res) fun r5 =>
  Option.bind (Z1v p0.Ex) fun r16 =>
  Option.bind (Z2a p0.H) fun r27 =>
  some (Pre.mk r5 r16 r27)
def Z56 (c0 : Csr) (p1 : Pre) (a2 : Int) (r7 : Int) (x16 : Bool) : Option (Pre × Int × Int) :=
  if x16 = true then
  (some ((Pre.mk ([]) ([]) ([])), 0, 30))
  else
  Option.bind (Z8x p1) fun r18 =>
  gd (inb r7 p1.Ex.length) <|
  gd (inb a2 p1.Res.length) <|
  Option.bind (Za9 c0 r18 a2 (min (p1.Ex.getD r7.toNat 0) (p1.Res.getD a2.toNat 0))) fun r51 =>
  some ((Pre.mk r51.Res r51.Ex r18.H), (min (p1.Ex.getD r7.toNat 0) (p1.Res.getD a2.toNat 0)), 0)
def Zaa (c0 : Csr) (p1 : Pre) (a2 : Int) : Option (Pre × Int × Int) :=
  Option.bind (Zac c0 a2) fun (r7, r8) =>
  if (!r8) = true then
  (some ((Pre.mk ([]) ([]) ([])), 0, 2))
  else
  Option.bind (Z62 c0 p1 r7) fun r11 =>
  if (!r11) = true then
  (Z56 c0 p1 a2 r7 true)
  else
  Option.bind (Z4g c0 p1 r7 a2) fun r14 =>
  Z56 c0 p1 a2 r7 (!r14)
def Z6j (c0 : Csr) (p1 : Pre) (u2 : Int) (y15 : Int) : Option ((Unit) ⊕ (Unit)) :=
  Option.bind (Z4g c0 p1 u2 y15) fun r16 =>
  if r16 = true then
  (some (.inr ()))
  else
  some (.inl ())
def Z8w (c0 : Csr) (p1 : Pre) (u2 : Int) : Option (Bool) :=
  Option.bind (Z5s c0 u2) fun _ =>
  Option.bind (Z61 (fun s v => Z6j c0 p1 u2 v) c0 u2 (.inl ())) fun t => match t with | .inl _ => (Option.bind (Z62 c0 p1 u2) fun r19 => some r19) | .inr _ => (some false)
def Z79 (c0 : Csr) (p1 : Pre) (least21 : Int) (y22 : Int) : Option ((Int) ⊕ (Empty)) :=
  gd (inb y22 p1.Res.length) <|
  if 0 < (p1.Res.getD y22.toNat 0) then
  (gd (inb y22 c0.Head.length) <|
  gd (inb (c0.Head.getD y22.toNat 0) p1.H.length) <|
  some (.inl (min least21 (p1.H.getD (c0.Head.getD y22.toNat 0).toNat 0))))
  else
  some (.inl least21)
def Z8h (c0 : Csr) (p1 : Pre) (u2 : Int) (x8 : Bool) : Option (Pre × Int) :=
  if x8 = true then
  (some ((Pre.mk ([]) ([]) ([])), 2))
  else
  Option.bind (Z8w c0 p1 u2) fun r10 =>
  if (!r10) = true then
  (some ((Pre.mk ([]) ([]) ([])), 30))
  else
  gd (i64ok (2 * c0.N)) <|
  Option.bind (Z5s c0 u2) fun _ =>
  Option.bind (Z61 (fun s v => Z79 c0 p1 s v) c0 u2 (.inl (2 * c0.N))) fun t => match t with | .inl least21 => (Option.bind (Z8x p1) fun r27 => gd (i64ok (least21 + 1)) <| gd (inb u2 r27.H.length) <| some ((Pre.mk r27.Res r27.Ex (r27.H.set u2.toNat (least21 + 1))), 0)) | .inr x => nomatch x
def Zab (c0 : Csr) (p1 : Pre) (u2 : Int) : Option (Pre × Int) :=
  if u2 < 0 then
  (Z8h c0 p1 u2 true)
  else
  Z8h c0 p1 u2 (decide (c0.N ≤ u2))
def Zby (u0 : Int) (c1 : Csr) (c2 : Pre) : Option (Bool) :=
  Option.bind (Z8w c1 c2 u0) fun r1 =>
  some r1
def Z4c (c0 : Csr) (so1_0 : Csr) (so1_1 : Pre) (out3 : List Int) (x13 : Int) : Option ((List Int × Int) ⊕ (List Int)) :=
  if x13 < c0.N then
  (Option.bind (Zby x13 so1_0 so1_1) fun r15 =>
  if r15 = true then
  (gd (apok (out3 ++ ([x13])).length 8) <|
  gd (i64ok (x13 + 1)) <|
  some (.inl ((out3 ++ ([x13])), (x13 + 1))))
  else
  gd (i64ok (x13 + 1)) <|
  some (.inl (out3, (x13 + 1))))
  else
  some (.inr out3)
def Z6r (out30 : List Int) : Option (List Int) :=
  some out30
def Z8g (c0 : Csr) (so1_0 : Csr) (so1_1 : Pre) : Option (List Int) :=
  Option.bind (Z1t (fun s => Z4c c0 so1_0 so1_1 s.1 s.2) Z3f ([], 0)) fun p1_0_0 => Z6r p1_0_0
def Z85 (out27 : List Int) (y37 : Int) (x43 : Bool) : Option ((List Int) ⊕ (Empty)) :=
  if x43 = true then
  (gd (apok (out27 ++ ([y37])).length 8) <|
  some (.inl (out27 ++ ([y37]))))
  else
  some (.inl out27)
def Z84 (c0 : Csr) (p1 : Pre) (x17 : Int) (out27 : List Int) (y37 : Int) : Option ((List Int) ⊕ (Empty)) :=
  Option.bind (Z62 c0 p1 x17) fun r38 =>
  if r38 = true then
  (Option.bind (Z4g c0 p1 x17 y37) fun r41 =>
  Z85 out27 y37 r41)
  else
  Z85 out27 y37 false
def Z9c (c0 : Csr) (p1 : Pre) (out7 : List Int) (x17 : Int) : Option ((List Int × Int) ⊕ (List Int)) :=
  if x17 < c0.N then
  (Option.bind (Z5s c0 x17) fun _ =>
  Option.bind (Z61 (fun s v => Z84 c0 p1 x17 s v) c0 x17 (.inl out7)) fun t => match t with | .inl out27 => (gd (i64ok (x17 + 1)) <| some (.inl (out27, (x17 + 1)))) | .inr x => nomatch x)
  else
  some (.inr out7)
def Zay (c0 : Csr) (p1 : Pre) (out56 : List Int) : Option (List Int × List Int) :=
  Option.bind (Z8g c0 c0 p1) fun r67 =>
  some (out56, r67)
def Zbg (c0 : Csr) (p1 : Pre) : Option (List Int × List Int) :=
  Option.bind (Z1t (fun s => Z9c c0 p1 s.1 s.2) Z3f ([], 0)) fun p1_0_0 => Zay c0 p1 p1_0_0
end Go.Acq
namespace Go.Acq
open Go
set_option linter.unusedVariables false
def Z2f (n0 : Net) (x128 : Int) (e225 : Int) (Res226 : List Int) (Ex236 : List Int) (H246 : List Int) : Option ((Int × List Int × List Int × List Int × Int) ⊕ ((Net × List Int × Bool) ⊕ (List Int × List Int × List Int))) :=
  if e225 ≠ 0 then
  (some (.inr (.inl (n0, [], false))))
  else
  gd (i64ok (x128 + 1)) <|
  some (.inl (e225, Res226, Ex236, H246, (x128 + 1)))
def Z2g (n0 : Net) (moves1 : List Int) (r5 : Csr) (e97 : Int) (Res98 : List Int) (Ex108 : List Int) (H118 : List Int) (x128 : Int) (r131 : List Int) (r132 : List Int) (x155 : Bool) : Option ((Int × List Int × List Int × List Int × Int) ⊕ ((Net × List Int × Bool) ⊕ (List Int × List Int × List Int))) :=
  if x155 = true then
  (gd ((2 : Int) ≠ 0 ∧ i64ok (((moves1.take (min (moves1.length : Int) 80).toNat).getD x128.toNat 0).tdiv 2)) <|
  gd ((r131.length : Int) ≠ 0) <|
  gd (inb ((((moves1.take (min (moves1.length : Int) 80).toNat).getD x128.toNat 0).tdiv 2).tmod (r131.length : Int)) r131.length) <|
  Option.bind (Zaa r5 (Pre.mk Res98 Ex108 H118) (r131.getD ((((moves1.take (min (moves1.length : Int) 80).toNat).getD x128.toNat 0).tdiv 2).tmod (r131.length : Int)).toNat 0)) fun (r160, r161, r162) =>
  Z2f n0 x128 r162 r160.Res r160.Ex r160.H)
  else
  if 0 < (r132.length : Int) then
  (gd ((2 : Int) ≠ 0 ∧ i64ok (((moves1.take (min (moves1.length : Int) 80).toNat).getD x128.toNat 0).tdiv 2)) <|
  gd ((r132.length : Int) ≠ 0) <|
  gd (inb ((((moves1.take (min (moves1.length : Int) 80).toNat).getD x128.toNat 0).tdiv 2).tmod (r132.length : Int)) r132.length) <|
  Option.bind (Zab r5 (Pre.mk Res98 Ex108 H118) (r132.getD ((((moves1.take (min (moves1.length : Int) 80).toNat).getD x128.toNat 0).tdiv 2).tmod (r132.length : Int)).toNat 0)) fun (r195, r196) =>
  Z2f n0 x128 r196 r195.Res r195.Ex r195.H)
  else
  Z2f n0 x128 e97 Res98 Ex108 H118
def Z3q (n0 : Net) (moves1 : List Int) (r5 : Csr) (e97 : Int) (Res98 : List Int) (Ex108 : List Int) (H118 : List Int) (x128 : Int) : Option ((Int × List Int × List Int × List Int × Int) ⊕ ((Net × List Int × Bool) ⊕ (List Int × List Int × List Int))) :=
  if x128 < ((moves1.take (min (moves1.length : Int) 80).toNat).length : Int) then
  (gd (inb x128 (moves1.take (min (moves1.length : Int) 80).toNat).length) <|
  Option.bind (Zbg r5 (Pre.mk Res98 Ex108 H118)) fun (r131, r132) =>
  gd (i64ok ((moves1.take (min (moves1.length : Int) 80).toNat).getD x128.toNat 0)) <|
  if 0 < (r131.length : Int) then
  (if (((moves1.take (min (moves1.length : Int) 80).toNat).getD x128.toNat 0).tmod 2) = 0 then
  (Z2g n0 moves1 r5 e97 Res98 Ex108 H118 x128 r131 r132 true)
  else
  Z2g n0 moves1 r5 e97 Res98 Ex108 H118 x128 r131 r132 (decide ((r132.length : Int) = 0)))
  else
  Z2g n0 moves1 r5 e97 Res98 Ex108 H118 x128 r131 r132 false)
  else
  some (.inr (.inr (Res98, Ex108, H118)))
def Z4n (n0 : Net) (r5 : Csr) (Res258 : List Int) (Ex268 : List Int) (H278 : List Int) : Option (Net × List Int × Bool) :=
  Option.bind (Zad r5 Res258 (n0.Arcs.length : Int)) fun (r288, r289) =>
  some (n0, r288, (decide (r289 = 0)))
def Z4j (n0 : Net) (moves1 : List Int) : Option (Net × List Int × Bool) :=
  Option.bind (Zbh n0) fun (r5, r6) =>
  if r6 ≠ 0 then
  (some (n0, [], false))
  else
  Option.bind (Z7z r5) fun r65 =>
  gd (0 ≤ (min (moves1.length : Int) 80) ∧ (min (moves1.length : Int) 80) ≤ (moves1.length : Int)) <|
  Option.bind (Z1t (fun s => Z3q n0 moves1 r5 s.1 s.2.1 s.2.2.1 s.2.2.2.1 s.2.2.2.2) Z3f (r6, r65.Res, r65.Ex, r65.H, 0)) fun o => match o with | .inl (p1_0_0, p1_0_1, p1_0_2) => (some (p1_0_0, p1_0_1, p1_0_2)) | .inr (p1_1_0, p1_1_1, p1_1_2) => (Z4n n0 r5 p1_1_0 p1_1_1 p1_1_2)
def Z4w (n0 : Net) (moves1 : List Int) : Option (Net × List Int × Bool) :=
  Option.bind (Z5x n0 12 30) fun r5 =>
  Option.bind (Z4j r5 moves1) fun (r16, r17, r18) =>
  some ((Net.mk r16.N r16.S r16.T r5.Arcs), r17, r18)
end Go.Acq
namespace Go.Acq
open Go
set_option linter.unusedVariables false
def Z2y (r4 : List Int) (r29 : List Int) (x81 : Int) : Option ((Int) ⊕ (Bool ⊕ Unit)) :=
  if x81 < (r29.length : Int) then
  (gd (inb x81 r29.length) <|
  gd (inb x81 r4.length) <|
  if (r4.getD x81.toNat 0) < (r29.getD x81.toNat 0) then
  (some (.inr (.inl false)))
  else
  gd (inb x81 r29.length) <|
  if (r29.getD x81.toNat 0) < 0 then
  (some (.inr (.inl false)))
  else
  gd (i64ok (x81 + 1)) <|
  some (.inl (x81 + 1)))
  else
  some (.inr (.inr ()))
def Z2t (b120 : Bool) : Option (Bool) :=
  some b120
def Z2z (r3 : Net) (r41 : Int) (r44 : List Int) (r56 : List Int) (b112 : Bool) : Option (Bool) :=
  if b112 = true then
  (gd (inb r3.S r56.length) <|
  gd (inb r3.S r44.length) <|
  gd (i64ok ((r44.getD r3.S.toNat 0) + r41)) <|
  if (r56.getD r3.S.toNat 0) = ((r44.getD r3.S.toNat 0) + r41) then
  (Option.bind Z5p fun r118 =>
  Z2t r118)
  else
  Z2t false)
  else
  some false
def Z30 (r3 : Net) (r41 : Int) (r44 : List Int) (r56 : List Int) (b108 : Bool) : Option (Bool) :=
  if b108 = true then
  (gd (inb r3.T r56.length) <|
  gd (inb r3.T r44.length) <|
  Z2z r3 r41 r44 r56 (decide ((r56.getD r3.T.toNat 0) = (r44.getD r3.T.toNat 0))))
  else
  Z2z r3 r41 r44 r56 false
def Z3y (r3 : Net) (r29 : List Int) (r41 : Int) (r44 : List Int) (r56 : List Int) : Option (Bool) :=
  Option.bind (Z8j r3 r29) fun (r90, r91) =>
  if r91 = 0 then
  (Z30 r3 r41 r44 r56 (decide ((r90.length : Int) = 0)))
  else
  Z30 r3 r41 r44 r56 false
def Z31 (r3 : Net) (r4 : List Int) (r29 : List Int) (r41 : Int) (r44 : List Int) (r56 : List Int) (b79 : Bool) : Option (Bool) :=
  if b79 = true then
  (some false)
  else
  Option.bind (Z1t (fun s => Z2y r4 r29 s) Z3f 0) fun o => match o with | .inl p6_0_0 => (some p6_0_0) | .inr () => (Z3y r3 r29 r41 r44 r56)
def Z32 (r3 : Net) (r4 : List Int) (r29 : List Int) (r41 : Int) (r44 : List Int) (r56 : List Int) (b77 : Bool) : Option (Bool) :=
  if b77 = true then
  (Z31 r3 r4 r29 r41 r44 r56 true)
  else
  Z31 r3 r4 r29 r41 r44 r56 (decide (r41 < 0))
def Z33 (r3 : Net) (r4 : List Int) (r29 : List Int) (r41 : Int) (r44 : List Int) (r56 : List Int) (b73 : Bool) : Option (Bool) :=
  if b73 = true then
  (Z32 r3 r4 r29 r41 r44 r56 true)
  else
  Option.bind (Z9f r3 r29) fun r75 =>
  Z32 r3 r4 r29 r41 r44 r56 (!r75)
def Z34 (r3 : Net) (r4 : List Int) (r29 : List Int) (r41 : Int) (r44 : List Int) (r56 : List Int) (r57 : Int) (b71 : Bool) : Option (Bool) :=
  if b71 = true then
  (Z33 r3 r4 r29 r41 r44 r56 true)
  else
  Z33 r3 r4 r29 r41 r44 r56 (decide (r57 ≠ 0))
def Z35 (r3 : Net) (r4 : List Int) (r29 : List Int) (r41 : Int) (r44 : List Int) (r45 : Int) (r56 : List Int) (r57 : Int) (b69 : Bool) : Option (Bool) :=
  if b69 = true then
  (Z34 r3 r4 r29 r41 r44 r56 r57 true)
  else
  Z34 r3 r4 r29 r41 r44 r56 r57 (decide (r45 ≠ 0))
def Z4o (n0 : Net) (moves1 : List Int) : Option (Bool) :=
  Option.bind (Z4w n0 moves1) fun (r3, r4, r5) =>
  if (!r5) = true then
  (some false)
  else
  Option.bind (Z8z r3 r4) fun r26 =>
  if (!r26) = true then
  (some false)
  else
  Option.bind (Z91 r3 r4) fun (r29, r30) =>
  Option.bind (Z90 r3 r4) fun (r41, r42) =>
  Option.bind (Z47 r3 r4) fun (r44, r45) =>
  Option.bind (Z47 r3 r29) fun (r56, r57) =>
  if r30 ≠ 0 then
  (Z35 r3 r4 r29 r41 r44 r45 r56 r57 true)
  else
  Z35 r3 r4 r29 r41 r44 r45 r56 r57 (decide (r42 ≠ 0))
end Go.Acq
namespace Go.Acq
open Go Go.RowKit
section rules
variable {C : Cx} {ops : Array Oper} {Q : Exit → Act → World → Prop} {l : List Nat} {E : Env} {H R : Heap} {i d : Nat} {ty : TypeId} {pos : String} {af : Array Edge} {g : Option (Nat × Bool)}
theorem Z0p {c : Code} {E' : Env} (hE : AllF E' E) (h : T C c Q E' H) : T C c Q E H := T.weak h hE.sub (Z07 _)
end rules
end Go.Acq
namespace Go.Acq
open Go Go.RowKit
section rules
variable {C : Cx} {ops : Array Oper} {Q : Exit → Act → World → Prop} {l : List Nat} {E : Env} {H R : Heap} {i d : Nat} {ty : TypeId} {pos : String} {af : Array Edge} {g : Option (Nat × Bool)}
end rules
end Go.Acq
namespace Go.Acq
open Go Go.RowKit Go.ChangeShapes Go.WideShapes Go.Deep Go.Joins
section
variable {H : Type} {enc : TypeId × Value → H} {P : Program} {w : World} {base : Nat} {spare : Nat → Bool} {held : Bool}
theorem Zee {t e : TypeId} {fs : Array Field} {fuel : Nat} {cs : List Value} {x : DataW H × List MemPlace} (ht : P.underlying t = some (.slice e)) (he : P.underlying e = some (.struct fs))
    (hone : oneCellFields P fs = true) (hC : P.cellsOf e = fs.size) (h : DataW.trod enc P w base spare held fuel t cs = some x) :
    (cs = [.slice none 0 0] ∧ x = (.nil, [])) ∨
    ∃ (a : Addr) (len cap m : Nat) (D : Nat → DataW H) (Pl : Nat → List MemPlace), cs = [.slice (some a) len cap] ∧ base ≤ a.block ∧ len ≤ cap ∧ cap ≤ maxLen ∧ m = (if spare a.block then cap else len) ∧
      x = (.slice ((List.range len).map D) ((List.range (m - len)).map fun j => D (len + j)), MemPlace.row a (m * fs.size) ++ (List.range m).flatMap Pl) ∧
      ∀ i, i < m → ∃ (ys : List (DataW H × List MemPlace)) (n : Nat), D i = .agg (ys.map (·.1)) ∧ Pl i = ys.flatMap (·.2) ∧ ys.length = fs.size ∧
        ∀ (j : Nat) (f : Field), fs[j]? = some f → ∃ (v : Value) (y : DataW H × List MemPlace), w.cell? (a.add (i * fs.size + j)) = some v ∧ ys[j]? = some y ∧ DataW.trod enc P w base spare held n f.type [v] = some y := by
  rcases open_slice ht h with h0 | ⟨a, len, cap, m, n, D, Pl, hcs, hb, hl, hm, hmm, hx, hi⟩
  · exact .inl h0
  · refine .inr ⟨a, len, cap, m, D, Pl, hcs, hb, hl, hm, hmm, by rw [hC] at hx; exact hx, fun i him => ?_⟩
    obtain ⟨cs', hc, ht'⟩ := hi i him
    rw [hC] at hc
    obtain ⟨ys, n', hn', hy, hlen, hyl, hf⟩ := DataW.trod_struct he ht'
    obtain ⟨_, hcl, hat⟩ := World.cells?_some hc
    simp only [Prod.mk.injEq] at hy
    refine ⟨ys, n', hy.1, hy.2, hyl, fun j f hj => ?_⟩
    obtain ⟨ho, hk⟩ := hone_of hone j f hj
    have hjl : j < fs.size := (Array.getElem?_eq_some_iff.1 hj).1
    have hcell := hat j hjl
    have hv : cs'[j]? = some (cs'[j]'(by omega)) := List.getElem?_eq_getElem (by omega)
    have h1 := hf j f hj
    rw [ho, hk] at h1
    have hone' : (cs'.drop j).take 1 = [cs'[j]'(by omega)] := by
      rw [List.drop_eq_getElem_cons (by omega)]
      rfl
    rw [hone'] at h1
    have hys : ys[j]? = some (ys[j]'(by omega)) := List.getElem?_eq_getElem (by omega)
    refine ⟨_, _, ?_, hys, h1.trans hys⟩
    rw [← Go.Deep.add_add, hcell, hv]
end
section
variable {H : Type} {enc : TypeId × Value → H} {P : Program} {w : World} {base : Nat} {spare : Nat → Bool} {held : Bool}
def fitI (x : Int) : Prop := -9223372036854775808 ≤ x ∧ x ≤ 9223372036854775807
theorem Zjy {x : Int} (h : (Lit.int .i64 x).wf = true) : fitI x := by
 unfold fitI; simp [Lit.wf, IntKind.min, IntKind.max, IntKind.signed, IntKind.bits] at h; omega
theorem open_arcs {t e : TypeId} {fs : Array Field} {f0 f1 f2 : Field} {fuel : Nat} {v : Value} {x : DataW H × List MemPlace} (ht : P.underlying t = some (.slice e)) (he : P.underlying e = some (.struct fs)) (hfs : fs = #[f0, f1, f2])
    (hone : oneCellFields P fs = true) (hC : P.cellsOf e = fs.size) (k0 : P.underlying f0.type = some (.int .i64)) (k1 : P.underlying f1.type = some (.int .i64)) (k2 : P.underlying f2.type = some (.int .i64))
    (h : DataW.trod enc P w base spare held fuel t [v] = some x) :
    ∃ (b : Option Addr) (n c : Nat) (al : List Arc), v = .slice b n c ∧ RO w Z73 3 b n al ∧ n ≤ c ∧ n ≤ 9223372036854775807 ∧ ∀ a, a ∈ al → fitI a.fr ∧ fitI a.to ∧ fitI a.cap := by
  rcases Zee ht he hone hC h with ⟨hcs, _⟩ | ⟨a, l, c, m, D, Pl, hcs, _, hl, hm, hmm, _, hi⟩
  · injection hcs with h1 _
    exact ⟨none, 0, 0, [], h1, Zk9 w (fun _ => rfl), Nat.le_refl _, by omega, fun y hy => by cases hy⟩
  · injection hcs with h1 _
    have hlm : l ≤ m := by rw [hmm]; split <;> omega
    have key : ∀ i, i < l → ∃ q : Arc, w.cell? (a.add (i * 3 + 0)) = some (.int .i64 q.fr) ∧ w.cell? (a.add (i * 3 + 1)) = some (.int .i64 q.to) ∧ w.cell? (a.add (i * 3 + 2)) = some (.int .i64 q.cap) ∧ fitI q.fr ∧ fitI q.to ∧ fitI q.cap := by
      intro i hil
      obtain ⟨ys, n, _, _, _, hf⟩ := hi i (by omega)
      subst hfs
      obtain ⟨v0, y0, c0, _, t0⟩ := hf 0 f0 rfl
      obtain ⟨v1, y1, c1, _, t1⟩ := hf 1 f1 rfl
      obtain ⟨v2, y2, c2, _, t2⟩ := hf 2 f2 rfl
      obtain ⟨n0, e0, _, w0⟩ := DataW.trod_int k0 t0
      obtain ⟨n1, e1, _, w1⟩ := DataW.trod_int k1 t1
      obtain ⟨n2, e2, _, w2⟩ := DataW.trod_int k2 t2
      injection e0 with e0 _; injection e1 with e1 _; injection e2 with e2 _
      subst e0; subst e1; subst e2
      exact ⟨⟨n0, n1, n2⟩, c0, c1, c2, Zjy w0, Zjy w1, Zjy w2⟩
    let g : Nat → Arc := fun i => if hil : i < l then Classical.choose (key i hil) else default
    have hg : ∀ i (hil : i < l), g i = Classical.choose (key i hil) := fun i hil => by simp only [g, dif_pos hil]
    refine ⟨some a, l, c, (List.range l).map g, h1, ⟨by simp, (fun e => by cases e), arcC_len, fun o q ho hq x hx => ?_⟩, hl, by unfold maxLen at hm; omega, fun y hy => ?_⟩
    · simp only [List.length_map, List.length_range] at ho
      have hs := Classical.choose_spec (key o ho)
      rw [← hg o ho] at hs
      have hxo : x = g o := by
        rw [List.getElem?_map, List.getElem?_range ho] at hx
        simpa using hx.symm
      subst hxo
      rcases (show q = 0 ∨ q = 1 ∨ q = 2 by omega) with rfl | rfl | rfl
      · exact hs.1
      · exact hs.2.1
      · exact hs.2.2.1
    · obtain ⟨i, hil, rfl⟩ := List.mem_map.1 hy
      have hil := List.mem_range.1 hil
      have hs := Classical.choose_spec (key i hil)
      rw [← hg i hil] at hs
      exact hs.2.2.2
end
end Go.Acq
namespace Go.Acq
open Go Go.RowKit Go.ChangeShapes Go.WideShapes Go.Deep Go.Joins
theorem i64ok_wf {x : Int} (h : (Lit.int .i64 x).wf = true) : i64ok x := by simp [Lit.wf, IntKind.min, IntKind.max, IntKind.signed, IntKind.bits] at h; omega
theorem u8ok_wf {x : Int} (h : (Lit.int .u8 x).wf = true) : u8ok x := by simp [Lit.wf, IntKind.min, IntKind.max, IntKind.signed, IntKind.bits] at h; omega
section
variable {H : Type} {enc : TypeId × Value → H} {P : Program} {w : World} {base : Nat} {spare : Nat → Bool} {held : Bool}
theorem open_row {t e : TypeId} {k : IntKind} {fuel : Nat} {v : Value} {x : DataW H × List MemPlace} (ht : P.underlying t = some (.slice e)) (he : P.underlying e = some (.int k)) (hc : P.cellsOf e = 1)
    (h : DataW.trod enc P w base spare held fuel t [v] = some x) :
    ∃ (b : Option Addr) (n c : Nat) (xs : List Int), v = .slice b n c ∧ RO w (intC k) 1 b n xs ∧ n ≤ c ∧ n ≤ 9223372036854775807 ∧ ∀ y, y ∈ xs → (Lit.int k y).wf = true := by
  rcases open_ints ht he hc h with ⟨hcs, _⟩ | ⟨a, l, c, zs, hcs, _, hl, hm, hz, _, hcell, hwz⟩
  · injection hcs with h1 _
    exact ⟨none, 0, 0, [], h1, Zk9 w (fun _ => rfl), Nat.le_refl _, by omega, fun y hy => by cases hy⟩
  · injection hcs with h1 _
    have hlz : l ≤ zs.length := by rw [hz]; split <;> omega
    refine ⟨some a, l, c, zs.take l, h1, ⟨by rw [List.length_take]; omega, (fun e => by cases e), fun _ => rfl, fun o q ho hq x hx => ?_⟩, hl, by unfold maxLen at hm; omega, fun y hy => hwz y (List.mem_of_mem_take hy)⟩
    rw [List.length_take] at ho
    have hq0 : q = 0 := by omega
    subst hq0
    rw [List.getElem?_take, if_pos (by omega)] at hx
    have := hcell o (by omega)
    rw [List.getD_eq_getElem?_getD, hx] at this
    simpa [ea, intC] using this
end
end Go.Acq
namespace Go.Acq
open Go Go.RowKit
abbrev SM := Option Addr × Nat × Nat
def smC (m : SM) : List Value := [.slice m.1 m.2.1 m.2.2]
structure RW {α : Type} (w : World) (M : List Nat) (f : α → List Value) (s : Nat) (base : Option Addr) (n c : Nat) (ms : List SM) (xss : List (List α)) : Prop where
  rs : RS w M smC 1 base n c ms
  eqlen : ms.length = xss.length
  row : ∀ i, i < ms.length → RS w M f s (ms.getD i default).1 (ms.getD i default).2.1 (ms.getD i default).2.2 (xss.getD i [])
section
variable {α : Type} {w w0 : World} {M M' : List Nat} {f : α → List Value} {s n c : Nat} {base : Option Addr} {ms : List SM} {xss : List (List α)} {H Hm R : Heap}
theorem RW.len (h : RW w M f s base n c ms xss) : xss.length = n := by rw [← h.eqlen]; exact h.rs.len
theorem RW.cap (h : RW w M f s base n c ms xss) : n ≤ c := h.rs.cap
theorem RW.nil (w : World) (M : List Nat) : RW w M f s none 0 0 [] ([] : List (List α)) := ⟨RS.nil _ _ (fun _ => rfl), rfl, fun i hi => by simp at hi⟩
theorem RW.mono (h : RW w0 M f s base n c ms xss) (hi : Inv w0 M w H) : RW w [] f s base n c ms xss := ⟨h.rs.mono hi, h.eqlen, fun i hl => (h.row i hl).mono hi⟩
theorem RW.monoM (h : RW w0 M f s base n c ms xss) (hs : 0 < s) (hi : Inv w0 M w H) (hp : List.Perm H (Hm ++ R)) (hM : Hm.filterMap (·.1) = M') : RW w M' f s base n c ms xss :=
 ⟨h.rs.monoM (by decide) hi hp hM, h.eqlen, fun i hl => (h.row i hl).monoM hs hi hp hM⟩
theorem Ziy {α : Type} {xs : List α} {d : α} {i k : Nat} (h : i < k) : (xs.take k).getD i d = xs.getD i d := by
 simp [List.getD_eq_getElem?_getD, List.getElem?_take, h]
theorem Ziz {α : Type} {xs : List α} {d : α} {i k : Nat} : (xs.drop k).getD i d = xs.getD (k + i) d := by
 simp [List.getD_eq_getElem?_getD]
theorem RW.take (h : RW w M f s base n c ms xss) {p : Int} (hp : 0 ≤ p ∧ p ≤ (xss.length : Int)) : RW w M f s base p.toNat c (ms.take p.toNat) (xss.take p.toNat) :=
 ⟨h.rs.take (by rw [h.eqlen]; exact hp), by rw [List.length_take, List.length_take, h.eqlen], fun i hi => by
  rw [List.length_take] at hi
  rw [Ziy (by omega), Ziy (by omega)]; exact h.row i (by omega)⟩
theorem RW.drop (h : RW w M f s base n c ms xss) {p : Int} (hp : 0 ≤ p ∧ p ≤ (xss.length : Int)) : RW w M f s (Zkk base p.toNat c 1) (n - p.toNat) (c - p.toNat) (ms.drop p.toNat) (xss.drop p.toNat) :=
 ⟨h.rs.drop (by rw [h.eqlen]; exact hp), by rw [List.length_drop, List.length_drop, h.eqlen], fun i hi => by
  rw [List.length_drop] at hi
  rw [Ziz, Ziz]; exact h.row _ (by omega)⟩
theorem RW.at (h : RW w M f s base n c ms xss) {p : Int} (hp : inb p xss.length) : RS w M f s (ms.getD p.toNat default).1 (ms.getD p.toNat default).2.1 (ms.getD p.toNat default).2.2 (xss.getD p.toNat []) :=
 h.row _ (by rw [h.eqlen]; exact Z7h hp)
theorem RW.inb (h : RW w M f s base n c ms xss) {p : Int} (hp : inb p xss.length) : inb p ms.length := by rw [h.eqlen]; exact hp
end
section rules
variable {C : Cx} {ops : Array Oper} {Q : Exit → Act → World → Prop} {l : List Nat} {E : Env} {H R : Heap} {i d : Nat} {ty : TypeId} {pos : String} {af : Array Edge} {g : Option (Nat × Bool)}
theorem Zk7 {α : Type} {f : α → List Value} {s : Nat} {t : TypeId} {x : Operand} {base : Option Addr} {n c : Nat} {p : Int} {ms : List SM} {xss : List (List α)} (hr : RW C.w0 C.M f s base n c ms xss) (hp : inb p xss.length) (q0_ : ops[i]? = some ⟨some d, .load t x, ty, pos, af, g⟩ ∧ gdB ops E g = true ∧ Nat.ble (d + 1) C.n = true ∧ ev E x = some (.pointer (some (ea base (p.toNat * 1))))) (hT : Z5q C.P t = true)
    (kk : TO C ops Q l ((d, .slice (ms.getD p.toNat default).1 (ms.getD p.toNat default).2.1 (ms.getD p.toNat default).2.2) :: E) H) : TO C ops Q (i :: l) E H := have ⟨ho, hg, hd, hx⟩ := q0_;
  TO.load ho hg hd hx hT (fun w hi => by
    have := (hr.rs.ro.monoM hr.rs.far hi).at default (o := p.toNat) (c := 0) (Z7h (hr.inb hp)) (by omega)
    simpa [smC] using this) kk
end rules
open Go.ChangeShapes Go.WideShapes Go.Deep Go.Joins
section
variable {H : Type} {enc : TypeId × Value → H} {P : Program} {w : World} {base : Nat} {spare : Nat → Bool} {held : Bool}
end
end Go.Acq
namespace Go.Acq
open Go Go.RowKit
theorem X.obEd {C : Cx} {ops : Array Oper} {Q : Exit → Act → World → Prop} {S : List Sp} {HR : Nat → List Value → Heap → Prop} {W Es B B' : Env} {Hc Hx : Heap} {i k d : Nat} {v : Value} {vl : List Value} {F : Value → List Value} {De hb' H' : Heap} (hs : Z2s ops i = some d) (hr : Zf2 S i vl v []) (hh : HR k (F v) hb')
    (hH : Pick (hb' ++ (Hc ++ (De ++ Hx))) H') (hB : B = B') :
    X C (fun e a w => match e with
      | .normal => ∃ v hb', Zf2 S i vl v [] ∧ HR k (F v) hb' ∧ Fits C.n C.D (Zfg (Z2s ops i) v (B ++ (W ++ Es))) a ∧ Inv C.w0 C.M w (hb' ++ (Hc ++ (De ++ Hx)))
      | e => Q e a w) .normal ((d, v) :: (B' ++ (W ++ Es))) H' := by
  subst hB
  exact fun _ _ hf hi => ⟨v, hb', hr, hh, by rw [hs]; exact hf, hi.pick hH⟩
end Go.Acq
namespace Go.Acq
open Go Go.RowKit
theorem arr_cut {α : Type} (f : α → List Value) (xs : List α) (j : List Value) (k : Nat) : arr f xs j = arr f (xs.take k) ((xs.drop k).flatMap f ++ j) := by
 simp only [arr]
 rw [← List.append_assoc, ← List.flatMap_append, List.take_append_drop]
theorem X.recut {C : Cx} {Q : Exit → Act → World → Prop} {e : Exit} {E : Env} {H R : Heap} {α : Type} {f : α → List Value} {ob : Option Nat} {xs : List α} {j : List Value} {T : TypeId} {fr : Nat × Nat} (k : Nat) (hT : Take (ob, .cells (arr f xs j).toArray T fr) H R)
    (h : X C Q e E ((ob, .cells (arr f (xs.take k) ((xs.drop k).flatMap f ++ j)).toArray T fr) :: R)) : X C Q e E H := fun a w hf hi => h a w hf (by rw [← arr_cut]; exact hi.perm hT)
theorem recutJ {α : Type} {f : α → List Value} {s n c : Nat} {xs : List α} {j : List Value} {p : Int} (hf : ∀ x, (f x).length = s) (h : 0 ≤ p ∧ p ≤ (xs.length : Int)) (hn : xs.length = n) (hc : n ≤ c) (hj : j.length = (c - n) * s) :
    ((xs.drop p.toNat).flatMap f ++ j).length = (c - p.toNat) * s := by
  rw [List.length_append, Z37 hf, List.length_drop, hj, hn, ← Nat.add_mul]
  congr 1; omega
end Go.Acq
namespace Go.Acq
open Go Go.RowKit Go.ChangeShapes Go.WideShapes Go.Deep Go.Joins
section
variable {H : Type} {enc : TypeId × Value → H} {P : Program} {w : World} {base : Nat} {spare : Nat → Bool} {held : Bool}
end
end Go.Acq
namespace Go.Acq
open Go Go.RowKit
abbrev ids (H : Heap) : List Nat := H.filterMap (·.1)
abbrev mkD (r : Nat) : Deferred := { target := .collected r, args := #[] }
abbrev mkO : Obj := .deferred (some [])
def Zeg : List Nat → Heap
  | [] => []
  | r :: ms => (some r, mkO) :: Zeg ms
section
variable {w0 w w' w'' : World} {M M' : List Nat} {H H' Hm R : Heap} {b : Nat} {o o' : Obj}
theorem Pick.skip {p : Option Nat × Obj} (h : Pick H' H) : Pick H' (p :: H) := by
 obtain ⟨S, ns, hn, hS⟩ := h
 refine ⟨p :: S, ns, hn, ?_⟩
 rw [List.cons_append]
 exact (List.Perm.cons p hS).trans List.perm_middle.symm
theorem Inv.put (h : Inv w0 M w ((some b, o) :: R)) (o' : Obj) : Inv w0 M (w.putObj b o') ((some b, o') :: R) :=
 h.upd (Take.head _ _) rfl rfl rfl World.putObj_size (World.putObj_heap_same (h.lt (.head _))) (fun _ hk => World.putObj_heap_other hk)
theorem HB.monoM {cs : List Value} (h : HB w0 M b cs) (hne : cs ≠ []) (hi : Inv w0 M w H) (hp : List.Perm H (Hm ++ R)) (hM : Hm.filterMap (·.1) = M') : HB w M' b cs :=
 ⟨fun j v hj => hi.cell_old (h.has j v hj) h.far, fun hm => by
  subst hM
  obtain ⟨o, ho⟩ := Za8 hm
  obtain ⟨v, cs', rfl⟩ := List.exists_cons_of_ne_nil hne
  have h0 := h.has 0 v rfl
  have hb : b < w0.heap.size := by
   unfold World.cell? at h0
   split at h0
   · rename_i he; exact (Array.getElem?_eq_some_iff.1 he).1
   · cases h0
  rcases hi.low b o ((List.Perm.mem_iff hp).2 (List.mem_append_left _ ho)) with hl | hl
  · omega
  · exact h.far hl⟩
end
def YC {S X V : Type} (P : Program) (l : Nat) (enc : V → List Value) (y : S → V → Option (S ⊕ X)) (J : S ⊕ X → Heap → Prop) (w : World) (M : List Nat) : Prop :=
  ∀ (s : S) (v : V) (r : S ⊕ X), y s v = some r → ∀ (w' : World) (Hs : Heap), J (.inl s) Hs → Inv w M w' Hs →
    YieldAt (FW none) 0 P l (enc v).toArray w' fun e w'' => ∃ Hs', J r Hs' ∧ e = .returned (.bool r.isLeft) ∧ Inv w' (ids Hs) w'' Hs'
section rules
variable {C : Cx} {ops : Array Oper} {Q : Exit → Act → World → Prop} {l : List Nat} {E : Env} {H R : Heap} {i d : Nat} {ty : TypeId} {pos : String} {af : Array Edge} {g : Option (Nat × Bool)}
theorem TO.yield {S X V : Type} {lp : Nat} {enc : V → List Value} {y : S → V → Option (S ⊕ X)} {J : S ⊕ X → Heap → Prop} {x : Operand} {xs : Array Operand} {at' : Array TypeId} {t r : S ⊕ X} {v : V} {Ho Hs : Heap}
    (hρ : C.ρ = none) (hY : YC C.P lp enc y J C.w0 C.M) (hr : Zkb y t v = some r) (hJ : J t Hs)
    (q0_ : ops[i]? = some ⟨some d, .call ⟨.value x, xs, at'⟩, ty, pos, af, g⟩ ∧ gdB ops E g = true ∧ Nat.ble (d + 1) C.n = true ∧ ev E x = some (.func (.yield lp) #[] #[]) ∧ evs E xs.toList = some (enc v) ∧ H = Ho ++ Hs)
    (kk : ∀ Hs', J r Hs' → TO C ops Q l ((d, .bool r.isLeft) :: E) (Ho ++ Hs')) : TO C ops Q (i :: l) E H := by
  obtain ⟨ho, hg, hd, hx, hxs, hH⟩ := q0_
  obtain ⟨s, rfl, hys⟩ := Zjq hr
  refine Zga ho hg (by simp) fun a w hf hi => ?_
  subst hH
  have hp : List.Perm (Ho ++ Hs) (Hs ++ Ho) := List.perm_append_comm
  have hi' := hi.perm hp
  obtain ⟨fn, tmps, assign, body, hrun, hround⟩ := hY s v r hys w Hs hJ hi'.left
  have e1 : xs.map a.eval = (enc v).toArray := by apply Array.ext'; simpa using Zb3 hf hxs
  have : (execOp a.eval ⟨some d, .call ⟨.value x, xs, at'⟩, ty, pos, af, g⟩).run C.P w = .ok (.round lp fn tmps assign body) w := by
    simp [execOp, resolve, Deferred.ofValue, invoke, hf.ev hx, e1, hrun]
  rw [this]
  rw [Oper.uponIn_round]
  rw [hρ]
  refine ⟨by simp [FW], hround.mono ?_⟩
  rintro e w' ⟨Hs', hJ', rfl, hi2⟩
  have hk := kk Hs' hJ'
  unfold TO at hk
  rw [hρ] at hk
  exact hk _ _ (hf.put hd _) (((hi'.join (List.Perm.refl _) (fun m hm => hm) hi2)).perm List.perm_append_comm)
end rules
abbrev recO (fn : FuncId) (tmps : Array Value) (ps : Array Tmp) (assign body : Code) (df : Nat) (st : LoopState) (pd : Option Code) : Obj :=
  .loop { state := st, pending := pd, fn, tmps, params := ps, assign, body, defers := df }
def RQ {S X : Type} (J : S ⊕ X → Heap → Prop) (jmp : X → Code) (r : S ⊕ X) (w0 : World) (M : List Nat) : Exit → Act → World → Prop
  | .normal, _, w => ∃ s Hs, r = .inl s ∧ J (.inl s) Hs ∧ Inv w0 M w Hs
  | .ret, _, w => ∃ x Hs, r = .inr x ∧ jmp x = .ret ∧ J (.inr x) Hs ∧ Inv w0 M w Hs
  | .exit id, _, w => ∃ x Hs, r = .inr x ∧ jmp x = .exit id ∧ J (.inr x) Hs ∧ Inv w0 M w Hs
  | _, _, _ => False
def putPs : List Tmp → List Value → Env → Env
  | [], _, E => E
  | _ :: _, [], E => E
  | p :: ps, v :: vs, E => putPs ps vs ((p, v) :: E)
theorem Zgx {n : Nat} : ∀ {ps : List Tmp} {vs : List Value} {E : Env} {tmps : Array Value} (_ : ps.all (fun p => Nat.ble (p + 1) n) = true), Fits n [] E { tmps, defers := [] } →
    Fits n [] (putPs ps vs E) { tmps := (ps.zip vs).foldl (fun tmps (t, a) => tmps.setIfInBounds t a) tmps, defers := [] }
  | [], _, _, _, _, h => h
  | _ :: _, [], _, _, _, h => h
  | p :: ps, v :: vs, E, tmps, hb, h => by
    have hb' : Nat.ble (p + 1) n = true ∧ (ps.all fun p => Nat.ble (p + 1) n) = true := by simpa only [List.all_cons, Bool.and_eq_true] using hb
    have := h.put hb'.1 v
    exact Zgx (ps := ps) (vs := vs) hb'.2 this
section control
variable {C : Cx} {Q : Exit → Act → World → Prop} {E : Env} {H : Heap}
def AQ (n : Nat) (w0 : World) (M : List Nat) (E1 : Env) (H1 : Heap) : Exit → Act → World → Prop := fun e a w => e = .normal ∧ Fits n [] E1 a ∧ Inv w0 M w H1
theorem Znk {ρ : Option Nat} {P : Program} {n : Nat} {w0 : World} {M : List Nat} {E1 : Env} {H1 : Heap} (hE : AllF E1 E) (hH : Pick H1 H) : X ⟨P, ρ, n, [], w0, M⟩ (AQ n w0 M E1 H1) .normal E H :=
 fun _ _ hf hi => ⟨rfl, hf.weak hE.sub, hi.pick hH⟩
theorem Za6 {ρ : Option Nat} {P : Program} {n : Nat} {D : List Deferred} {S X : Type} {J : S ⊕ X → Heap → Prop} {jmp : X → Code} {r : S ⊕ X} {w0 : World} {M : List Nat} {s : S} {Hs : Heap} (h : some (Sum.inl s) = some r) (hJ : J (.inl s) Hs) (hp : Pick Hs H) :
    Acq.X ⟨P, ρ, n, D, w0, M⟩ (RQ J jmp r w0 M) .normal E H := fun _ _ _ hi => ⟨s, Hs, by injection h with h; exact h.symm, hJ, hi.pick hp⟩
theorem X.rfRet {ρ : Option Nat} {P : Program} {n : Nat} {D : List Deferred} {S X : Type} {J : S ⊕ X → Heap → Prop} {jmp : X → Code} {r : S ⊕ X} {w0 : World} {M : List Nat} {x : X} {Hs : Heap} (h : some (Sum.inr x) = some r) (hj : jmp x = .ret) (hJ : J (.inr x) Hs) (hp : Pick Hs H) :
    Acq.X ⟨P, ρ, n, D, w0, M⟩ (RQ J jmp r w0 M) .ret E H := fun _ _ _ hi => ⟨x, Hs, by injection h with h; exact h.symm, hj, hJ, hi.pick hp⟩
theorem T.rangeFunc {S X V : Type} (hρ : C.ρ = none) {gop : Operand} {ps : Array Tmp} {assign body : Code} {f : FuncId} {fs cs : Array Value} (hF : Z0v C.P f = true) (q0_ : ev E gop = some (.func (.func f) fs cs) ∧ ps.toList.all (fun p => Nat.ble (p + 1) C.n) = true) (enc : V → List Value) (henc : ∀ v, (enc v).length = ps.size)
    (y : S → V → Option (S ⊕ X)) (J : S ⊕ X → Heap → Prop) (jmp : X → Code) (s0 : S) (t : S ⊕ X) (Hs0 R : Heap) (hJ : J (.inl s0) Hs0) (hH : Pick (Hs0 ++ R) H)
    (it : ∀ (lp : Nat) (w : World) (J' : S ⊕ X → Heap → Prop) (H0 : Heap), J' (.inl s0) H0 → Inv w (ids H0) w H0 → YC C.P lp enc y J' w (ids H0) → ∀ lo, Inv C.w0 C.M w (((some lp, lo) :: Hs0) ++ R) → H0 = (some lp, lo) :: Hs0 →
      Fnc C.P f (fs ++ #[.func (.yield lp) #[] #[]] ++ cs) w (ids H0) (fun v N => v = .tuple #[] ∧ J' t N))
    (round : ∀ (lp : Nat) (w' : World) (s : S) (v : V) (r : S ⊕ X) (Hs : Heap), y s v = some r → J (.inl s) Hs → Inv w' (ids Hs) w' Hs → Inv C.w0 C.M w' (Hs ++ R) →
      ∃ (E1 : Env) (H1 : Heap), T ⟨C.P, some lp, C.n, [], w', ids Hs⟩ assign (AQ C.n w' (ids Hs) E1 H1) (putPs ps.toList (enc v) E) Hs ∧
        ∀ w2, Inv w2 (ids H1) w2 H1 → Inv C.w0 C.M w2 (H1 ++ R) → T ⟨C.P, some lp, C.n, [], w2, ids H1⟩ body (RQ J jmp r w2 (ids H1)) E1 H1)
    (next : ∀ s, t = .inl s → ∀ rr Hs, J (.inl s) Hs → Acq.X { C with D := mkD rr :: C.D } Q .normal E (Hs ++ ((some rr, mkO) :: R)))
    (exit : ∀ x, t = .inr x → ∀ rr Hs, J (.inr x) Hs → T { C with D := mkD rr :: C.D } (jmp x) Q E (Hs ++ ((some rr, mkO) :: R))) :
    T C (.rangeFunc gop ps assign body) Q E H := by
  obtain ⟨hg, hps⟩ := q0_
  intro a w hf hi0
  have hi := hi0.pick hH
  refine wpIn_rangeFunc fun fn _ => ?_
  have hFW : (FW C.ρ).round = none := by rw [hρ]; rfl
  rw [hFW]
  obtain ⟨rr, hrr⟩ : ∃ rr, w.heap.size = rr := ⟨_, rfl⟩
  obtain ⟨wa, hwa⟩ : ∃ wa, w.alloc mkO = wa := ⟨_, rfl⟩
  obtain ⟨lp, hlp⟩ : ∃ lp, wa.heap.size = lp := ⟨_, rfl⟩
  obtain ⟨lo, hlo⟩ : ∃ lo, recO fn a.tmps ps assign body rr .ready none = lo := ⟨_, rfl⟩
  obtain ⟨wb, hwb⟩ : ∃ wb, wa.alloc lo = wb := ⟨_, rfl⟩
  have hia : Inv C.w0 C.M wa ((some rr, mkO) :: (Hs0 ++ R)) := by rw [← hwa, ← hrr]; exact hi.alloc mkO
  have hib : Inv C.w0 C.M wb ((some lp, lo) :: (some rr, mkO) :: (Hs0 ++ R)) := by rw [← hwb, ← hlp]; exact hia.alloc lo
  have hlp2 : w.heap.size + 1 = lp := by rw [← hlp, ← hwa]; exact (World.size_alloc ..).symm
  have hib' : Inv C.w0 C.M wb (((some lp, lo) :: Hs0) ++ ((some rr, mkO) :: R)) := hib.perm (by
    rw [List.cons_append]
    exact List.Perm.cons _ List.perm_middle.symm)
  refine ⟨lp, [mkD rr], wb, { target := .fn (.func f) cs, args := fs.push (.func (.yield lp) #[] #[]) }, wb, f, fs ++ #[.func (.yield lp) #[] #[]] ++ cs, wb, ?_, ?_, fun _ _ => trivial, ?_, by simp [FW], ?_⟩
  · rw [run_enterLoop_outer, ← hwb, ← hlo, ← hwa, ← hlp2, ← hrr]
  · have h2 : a.eval gop = .func (.func f) fs cs := hf.ev hg
    have h3 : ∀ v, a.eval (.const v) = v := fun _ => rfl
    simp [resolve, Deferred.ofValue, h2, h3]
  · show (callFunc f (fs.push (.func (.yield lp) #[] #[]) ++ cs)).run C.P wb = _
    rw [Array.push_eq_append]
    exact Z9a hF _ _
  · refine callsIn_FW.2 ?_
    have hlrec : ∀ {w' : World} {M'' : List Nat} {o : Obj} {Hs : Heap}, Inv wb M'' w' ((some lp, o) :: Hs) → w'.heap[lp]? = some o := fun h => h.own lp _ (.head _)
    have hcall := it lp wb (fun r Hx => ∃ Hs, Hx = (some lp, recO fn a.tmps ps assign body rr (match r with | .inl _ => LoopState.ready | .inr _ => LoopState.done) (match r with | .inl _ => none | .inr x => some (jmp x))) :: Hs ∧ J r Hs) ((some lp, lo) :: Hs0)
      ⟨Hs0, by rw [← hlo], hJ⟩ (hib'.left.self (Z07 _) rfl) ?_ lo (hib'.pick (by
        refine Z9k (S := [(some rr, mkO)]) ?_
        rw [List.append_assoc]
        exact List.Perm.append_left _ (List.perm_append_singleton _ _).symm)) rfl
    · refine Calls.mono hcall ?_
      rintro e w3 ⟨v, N, ⟨rfl, Hs3, rfl, hJ3⟩, rfl, hi3⟩
      have hj3 := hib'.join (M' := ids ((some lp, lo) :: Hs0)) (List.Perm.refl _) (fun m hm => hm) hi3
      have hl3 := hj3.own lp _ (.head _)
      have hput := hj3.put (recO fn a.tmps ps assign body rr .exhausted (match t with | .inl _ => none | .inr x => some (jmp x)))
      have hfa : Fits C.n (mkD rr :: C.D) E { a with defers := [mkD rr] ++ a.defers } := ⟨hf.size, by simp [hf.defers], hf.get⟩
      have hpk : Pick (Hs3 ++ ((some rr, mkO) :: R)) ((some lp, recO fn a.tmps ps assign body rr .exhausted (match t with | .inl _ => none | .inr x => some (jmp x))) :: (Hs3 ++ ((some rr, mkO) :: R))) := Pick.skip (Z07 _)
      cases t with
      | inl s =>
        refine ⟨none, _, run_endLoop hl3 (by simp), ?_⟩
        exact next s rfl rr Hs3 hJ3 _ _ hfa (hput.pick hpk)
      | inr x =>
        refine ⟨some (jmp x), _, run_endLoop hl3 (by simp), ?_⟩
        exact exit x rfl rr Hs3 hJ3 _ _ hfa (hput.pick hpk)
    · rintro s v r hys w' Hx ⟨Hs, rfl, hJs⟩ hi'
      have hlw := hlrec hi'
      have hout := hib'.join (M' := ids ((some lp, lo) :: Hs0)) (List.Perm.refl _) (fun m hm => hm) hi'
      have hself := hi'.self (Hm := Hs) (Pick.skip (Z07 _)) rfl
      have houtH : Inv C.w0 C.M w' (Hs ++ R) := hout.pick (by
        refine Pick.skip ?_
        refine Z9k (S := [(some rr, mkO)]) ?_
        rw [List.append_assoc]
        exact List.Perm.append_left _ (List.perm_append_singleton _ _).symm)
      obtain ⟨E1, H1, hasg, hbody⟩ := round lp w' s v r Hs hys hJs hself houtH
      refine ⟨_, _, _, _, run_yield hlw (by simp [henc]), ?_⟩
      refine roundIn_of_wpIn trivial ?_
      have hf0 : Fits C.n [] E { tmps := a.tmps, defers := [] } := ⟨hf.size, rfl, hf.get⟩
      have hf1 := Zgx (vs := enc v) hps hf0
      have hw0 := hasg _ w' hf1 hself
      have hrw : (ps.zip (enc v).toArray).foldl (fun tmps (t, a) => tmps.setIfInBounds t a) a.tmps = (ps.toList.zip (enc v)).foldl (fun tmps (t, a) => tmps.setIfInBounds t a) a.tmps := by
        rw [← Array.foldl_toList]; simp
      rw [hrw]
      refine wpIn_mono (F := FW (some lp)) hw0 ?_
      rintro e a1 w1 ⟨rfl, hfa, hia1⟩
      have hall := (hi'.self (Z07 _) rfl)
      have hall1 := hall.join (Hm := Hs) (R := [(some lp, recO fn a.tmps ps assign body rr .ready none)]) (M' := ids Hs) ((List.perm_append_singleton _ _).symm) (fun m hm => hm) hia1
      have hall1 := hall1.perm (List.perm_append_singleton _ _)
      have hl1 := hall1.own lp _ (.head _)
      refine ⟨_, run_beginRound hl1 rfl, ?_⟩
      have hb1 := hall1.put (recO fn a.tmps ps assign body rr .busy none)
      have hout1 := hout.join (M' := ids ((some lp, recO fn a.tmps ps assign body rr .ready none) :: Hs)) (List.Perm.refl _) (fun m hm => hm) hall1
      have hout2 := hout1.put (recO fn a.tmps ps assign body rr .busy none)
      have hs2 := hb1.self (Hm := H1) (Pick.skip (Z07 _)) rfl
      have hwp := hbody _ hs2 (hout2.pick (by
        refine Pick.skip ?_
        refine Z9k (S := [(some rr, mkO)]) ?_
        rw [List.append_assoc]
        exact List.Perm.append_left _ (List.perm_append_singleton _ _).symm)) a1 _ hfa hs2
      refine wpIn_mono (F := FW (some lp)) hwp ?_
      intro e a3 w3 hq
      have fin : ∀ (Hs' : Heap), Inv (w1.putObj lp (recO fn a.tmps ps assign body rr .busy none)) (ids H1) w3 Hs' → w3.heap[lp]? = some (recO fn a.tmps ps assign body rr .busy none) ∧
          ∀ o, Inv w' (ids ((some lp, recO fn a.tmps ps assign body rr .ready none) :: Hs)) (w3.putObj lp o) ((some lp, o) :: Hs') := by
        intro Hs' h
        have h2 := hb1.join (Hm := H1) (R := [(some lp, recO fn a.tmps ps assign body rr .busy none)]) (M' := ids H1) ((List.perm_append_singleton _ _).symm) (fun m hm => hm) h
        have h2 := h2.perm (List.perm_append_singleton _ _)
        exact ⟨h2.own lp _ (.head _), fun o => h2.put o⟩
      cases e with
      | normal =>
        obtain ⟨s', Hs', rfl, hJ', hi3⟩ := hq
        obtain ⟨h3, h4⟩ := fin Hs' hi3
        exact ⟨_, _, run_endRound none h3, _, ⟨Hs', rfl, hJ'⟩, rfl, h4 _⟩
      | ret =>
        obtain ⟨x, Hs', rfl, hj, hJ', hi3⟩ := hq
        obtain ⟨h3, h4⟩ := fin Hs' hi3
        refine ⟨_, _, run_endRound (some .ret) h3, _, ⟨Hs', rfl, hJ'⟩, rfl, ?_⟩
        simp only [hj]; exact h4 _
      | exit id =>
        obtain ⟨x, Hs', rfl, hj, hJ', hi3⟩ := hq
        obtain ⟨h3, h4⟩ := fin Hs' hi3
        refine ⟨_, _, run_endRound (some (.exit id)) h3, _, ⟨Hs', rfl, hJ'⟩, rfl, ?_⟩
        simp only [hj]; exact h4 _
      | goto _ => exact hq.elim
      | panic _ => exact hq.elim
      | outgrown => exact hq.elim
end control
section ends
variable {C : Cx} {E : Env} {H H' N : Heap}
theorem Zcg {P : Program} {fn : Func} {tmps : Array Value} {R : Ending → World → Prop} {w0 : World} {M : List Nat} : ∀ (ms : List Nat) (w : World), Inv w0 M w (Zeg ms ++ H') →
    (∀ w', Inv w0 M w' H' → LeavesIn (FW none) 0 P fn tmps R [] .returning w') → LeavesInM (FW none) 0 P fn tmps R (ms.map mkD) .returning w
  | [], w, hi, h => h w hi
  | r :: ms, w, hi, h => by
    refine ⟨by simp, .inl ⟨r, _, rfl, run_takeDeferred (hi.own r _ (.head _)), Zcg ms _ ?_ h⟩⟩
    exact (Inv.put hi (.deferred none)).pick (Pick.skip (Z07 _))
theorem X.retM {fn : Func} {rs : List ResultVar} {vs : List Value} {v : Value} {w0 : World} {M : List Nat} {Post : Value → Heap → Prop} (ms : List Nat) (hρ : C.ρ = none) (hw : C.w0 = w0) (hMM : C.M = M) (hD : C.D = ms.map mkD) (hfn : fn.results.toList = rs)
    (hH : Pick (Zeg ms ++ H') H) (hr : ∀ (j : Nat) r u, rs[j]? = some r → vs[j]? = some u → Res { C with D := [] } E H' r u) (q0_ : rs.length = vs.length ∧ v = Zlc vs)
    (hN : Pick N H') (hP : Post v N) : Acq.X C (bodyPostM (FW none) 0 C.P fn (Zjp w0 M Post)) .ret E H := by
  obtain ⟨hl, hv⟩ := q0_
  intro a w hf hi
  show LeavesInM (FW none) 0 C.P fn a.tmps (Zjp w0 M Post) a.defers .returning w
  rw [hf.defers, hD]
  refine Zcg ms w (hi.pick hH) fun w' hi' => ?_
  have hx := X.ret (C := { C with D := [] }) (fn := fn) (Post := Post) hw hMM rfl hfn hr ⟨hl, hv⟩ hN hP { a with defers := [] } w' ⟨hf.size, rfl, hf.get⟩ hi'
  exact hx.2
theorem Zk2 {fn : Func} {r : ResultVar} {v : Value} {w0 : World} {M : List Nat} {Post : Value → Heap → Prop} (ms : List Nat) (q0_ : C.ρ = none ∧ C.w0 = w0 ∧ C.M = M ∧ C.D = ms.map mkD ∧ fn.results.toList = [r]) (hH : Pick (Zeg ms ++ H') H) (hr : Res { C with D := [] } E H' r v) (hN : Pick N H') (hP : Post v N) :
    Acq.X C (bodyPostM (FW none) 0 C.P fn (Zjp w0 M Post)) .ret E H := have ⟨hρ, hw, hMM, hD, hfn⟩ := q0_;
  X.retM (vs := [v]) ms hρ hw hMM hD hfn hH (fun j r' u h1 h2 => by
    cases j with
    | zero => simp at h1 h2; subst h1; subst h2; exact hr
    | succ j => simp at h1) rr2 hN hP
theorem Zdl {fn : Func} {r r' : ResultVar} {v v' : Value} {w0 : World} {M : List Nat} {Post : Value → Heap → Prop} (ms : List Nat) (q0_ : C.ρ = none ∧ C.w0 = w0 ∧ C.M = M ∧ C.D = ms.map mkD ∧ fn.results.toList = [r, r']) (hH : Pick (Zeg ms ++ H') H) (hr : Res { C with D := [] } E H' r v) (hr' : Res { C with D := [] } E H' r' v') (hN : Pick N H') (hP : Post (.tuple #[v, v']) N) :
    Acq.X C (bodyPostM (FW none) 0 C.P fn (Zjp w0 M Post)) .ret E H := have ⟨hρ, hw, hMM, hD, hfn⟩ := q0_;
  X.retM (vs := [v, v']) ms hρ hw hMM hD hfn hH (fun j r'' u h1 h2 => by
    match j with
    | 0 => simp at h1 h2; subst h1; subst h2; exact hr
    | 1 => simp at h1 h2; subst h1; subst h2; exact hr'
    | j + 2 => simp at h1) rr2 hN hP
theorem Zbr {P : Program} {f : FuncId} {fn : Func} {c : Code} {vs : List Value} {w : World} {M : List Nat} {H : Heap} {Post : Value → Heap → Prop}
    (hf : P.funcs[f]? = some fn) (hb : fn.body = some c) (hn : Nat.ble vs.length fn.ntmps = true) (hi : Inv w M w H)
    (h : T ⟨P, none, fn.ntmps, [], w, M⟩ c (bodyPostM (FW none) 0 P fn (Zjp w M Post)) (Zh0 0 vs) H) : Fnc P f vs.toArray w M Post := by
  have hn' := Nat.le_of_ble_eq_true hn
  refine callsIn_FW (ρ := none) (n := 0) |>.1 (callsIn_of_wp_marks hf hb trivial ?_ rfl)
  refine h _ w ⟨by simp; omega, rfl, fun t v hv => ?_⟩ hi
  obtain ⟨_, h2⟩ := Zdi vs 0 t v hv
  rw [Nat.sub_zero] at h2
  have hlt := (List.getElem?_eq_some_iff.1 h2).1
  simp only [Array.getD_eq_getD_getElem?]
  rw [Array.getElem?_append_left (by simpa using hlt)]
  simp [h2]
end ends
end Go.Acq
namespace Go.Acq
open Go Go.RowKit
theorem Za7 {C : Cx} {Q : Exit → Act → World → Prop} {e : Exit} {E : Env} {H H' : Heap} (h : H' = H) (k : X C Q e E H) : X C Q e E H' := by rw [h]; exact k
theorem Zid {C : Cx} {Q : Exit → Act → World → Prop} {c : Code} {E : Env} {H H' : Heap} (h : H' = H) (k : T C c Q E H) : T C c Q E H' := by rw [h]; exact k
end Go.Acq
namespace Go.Acq
open Go Go.RowKit
theorem Znj {C : Cx} {P : Program} {fn : Func} {R : Ending → World → Prop} {E : Env} {H : Heap} (h : X C (bodyPost P fn R) .ret E H) : X C (bodyPost P fn R) .normal E H := h
end Go.Acq
namespace Go.Acq
open Go Go.RowKit
section
variable {C : Cx} {ops : Array Oper} {Q : Exit → Act → World → Prop} {l l2 : List Nat} {E E' : Env} {H H' : Heap}
def JQ (C : Cx) (Q : Exit → Act → World → Prop) (d : Nat) (φ : Bool → Prop) (E : Env) (H : Heap) : Exit → Act → World → Prop
  | .normal, a, w => ∃ b, φ b ∧ Fits C.n C.D ((d, .bool b) :: E) a ∧ Inv C.w0 C.M w H
  | e, a, w => Q e a w
theorem Zml {ρ : Option Nat} {P : Program} {Q' : Exit → Act → World → Prop} {i : Nat} {K K' : Act → World → Prop} {a : Act} {w : World} (hq : ∀ e a w, e ≠ .normal → Q' e a w → Q e a w) (hk : ∀ a w, K' a w → K a w)
    (h : wpOpIn (FW ρ) 0 P ops Q' i K' a w) : wpOpIn (FW ρ) 0 P ops Q i K a w := by
  refine wpOpIn_mono hk ?_
  unfold wpOpIn at h ⊢
  cases ho : ops[i]? with
  | none => rw [ho] at h; exact h
  | some o =>
    rw [ho] at h
    simp only at h ⊢
    split
    · rename_i hwt
      simp only [hwt, if_true] at h
      refine ⟨h.1, ?_⟩
      have h2 := h.2
      generalize (o.semAt (FW ρ).round a.eval).run P w = r at h2 ⊢
      cases r with
      | ok x w' =>
        cases x with
        | enter f args => exact ⟨h2.1, CallsIn.mono h2.2 (fun e w' hh => by cases e with
          | returned v => exact hh
          | panicked c => exact hq _ _ _ (by simp) hh
          | outgrown => obtain ⟨a0, w0, h0⟩ := hh; exact ⟨a0, w0, hq _ _ _ (by simp) h0⟩)⟩
        | row _ => exact h2
        | round l f tmps assign body => exact ⟨h2.1, RoundIn.mono h2.2 (fun e w' hh => by cases e with
          | returned v => exact hh
          | panicked c => exact hq _ _ _ (by simp) hh
          | outgrown => obtain ⟨a0, w0, h0⟩ := hh; exact ⟨a0, w0, hq _ _ _ (by simp) h0⟩)⟩
        | _ => exact h2
      | halt x w' => cases x <;> first | exact h2 | exact hq _ _ _ (by simp) h2
    · rename_i hwt
      simp only [hwt, if_false, Bool.false_eq_true] at h
      exact h
theorem Zbb {ρ : Option Nat} {P : Program} {Q' : Exit → Act → World → Prop} {l2 : List Nat} (hq : ∀ e a w, e ≠ .normal → Q' e a w → Q e a w) (hn : ∀ a w, Q' .normal a w → wpOpsIn (FW ρ) 0 P ops Q l2 a w) : ∀ (l1 : List Nat) (a : Act) (w : World), wpOpsIn (FW ρ) 0 P ops Q' l1 a w → wpOpsIn (FW ρ) 0 P ops Q (l1 ++ l2) a w
 | [], a, w, h => hn a w h
 | i :: l1, a, w, h => by
  rw [List.cons_append, wpOpsIn_cons]
  rw [wpOpsIn_cons] at h
  exact Zml hq (fun a w => Zbb hq hn l1 a w) h
theorem TO.join (l1 l2 : List Nat) (hl : l1 ++ l2 = l) (d : Nat) (φ : Bool → Prop) (E' : Env) (h1 : TO C ops (JQ C Q d φ E' H) l1 E H) (h2 : ∀ b, φ b → TO C ops Q l2 ((d, .bool b) :: E') H) : TO C ops Q l E H := by
 subst hl
 intro a w hf hi
 refine Zbb (Q' := JQ C Q d φ E' H) (fun e a w hne h => ?_) (fun a w h => ?_) l1 a w (h1 a w hf hi)
 · cases e <;> first | exact absurd rfl hne | exact h
 ·
  obtain ⟨b, hb, hfit, hinv⟩ := h
  exact h2 b hb a w hfit hinv
theorem Zmj {d : Nat} {φ : Bool → Prop} {b : Bool} (h : φ b) (hE : AllF ((d, .bool b) :: E') E) : X C (JQ C Q d φ E' H) .normal E H := fun _ _ hf hi => ⟨b, h, hf.weak hE.sub, hi⟩
end
end Go.Acq
namespace Go.Acq
open Go Go.RowKit
def Zec (P : Program) (K : World → Prop) (w : World) (v : Value) : Result Next → Prop
  | .ok (.value u) w' => w' = w ∧ u = v
  | .ok (.enter f args) w' => w' = w ∧ Calls P f args w (fun e w'' => e = .returned v ∧ K w'')
  | _ => False
def wpQ (P : Program) (ops : Array Oper) (K : World → Prop) (Qn : Act → Prop) : List Nat → Act → Prop
  | [], a => Qn a
  | i :: rest, a => match ops[i]? with
    | none => wpQ P ops K Qn rest a
    | some o => (∀ c, o.op ≠ .defer c) ∧ (∀ cs b, o.op ≠ .select cs b) ∧
        if Region.wanted o (yielded ops a.tmps) = true then ∃ v, (∀ w, K w → Zec P K w v ((execOp a.eval o).run P w)) ∧ wpQ P ops K Qn rest (a.put o.dst v)
        else wpQ P ops K Qn rest (a.put o.dst undef)
def TQ (C : Cx) (ops : Array Oper) (Qn : Act → Prop) (l : List Nat) (E : Env) (H : Heap) : Prop := ∀ a, Fits C.n C.D E a → wpQ C.P ops (fun w => Inv C.w0 C.M w H) Qn l a
def seqB (ops : Array Oper) (m : Nat) : Bool := (List.range m).all fun i => match ops[i]? with
  | none => false
  | some o => (match o.dst with | some d => (List.range m).all fun j => Nat.beq j i || !(Z2s ops j == some d) | none => false) &&
      (o.looksAt ops).all fun t => (List.range m).all fun j => !(Z2s ops j == some t) || (Nat.blt j i && Zak ops ops.size i j)
section
variable {C : Cx} {ops : Array Oper} {Q : Exit → Act → World → Prop} {E : Env} {H : Heap}
def Zfr (ops : Array Oper) (vs : Nat → Value) (a : Act) : Nat → Act
  | 0 => a
  | i + 1 => (Zfr ops vs a i).put (Z2s ops i) (vs i)
structure DoneQ (ops : Array Oper) (m : Nat) (vs : Nat → Value) (a0 : Act) (done : Nat → Bool) (a : Act) : Prop where
  size : a.tmps.size = a0.tmps.size
  defers : a.defers = a0.defers
  has : ∀ j d, j < m → done j = true → Z2s ops j = some d → d < a0.tmps.size → a.tmps[d]? = some (vs j)
  old : ∀ t, (∀ j, j < m → done j = true → Z2s ops j ≠ some t) → a.tmps[t]? = a0.tmps[t]?
theorem DoneQ.put {m : Nat} {vs : Nat → Value} {a0 a : Act} {done : Nat → Bool} {i d : Nat} (h : DoneQ ops m vs a0 done a) (hi : i < m) (hd : Z2s ops i = some d) (hu : ∀ j, j < m → j ≠ i → Z2s ops j ≠ some d) :
    DoneQ ops m vs a0 (fun q => if q = i then true else done q) (a.put (some d) (vs i)) := by
  refine ⟨by simpa [Act.put] using h.size, h.defers, fun j e hj hdj hs hlt => ?_, fun t ht => ?_⟩
  · simp only [Act.put, Array.getElem?_setIfInBounds]
    by_cases c : j = i
    · subst c
      rw [hd] at hs; injection hs with hs; subst hs
      rw [if_pos rfl, if_pos (by rw [h.size]; exact hlt)]
    · have hne : d ≠ e := by rintro rfl; exact hu j hj c hs
      rw [if_neg hne]
      exact h.has j e hj (by simpa [c] using hdj) hs hlt
  · simp only [Act.put, Array.getElem?_setIfInBounds]
    have hne : d ≠ t := by rintro rfl; exact ht i hi (by simp) hd
    rw [if_neg hne]
    exact h.old t fun j hj hdj => ht j hj (by by_cases c : j = i <;> simp [c, hdj])
theorem eval_tmp {a a' : Act} {t : Nat} (h : a.tmps[t]? = a'.tmps[t]?) : a.eval (.tmp t) = a'.eval (.tmp t) := by
 simp [Act.eval, Array.getD_eq_getD_getElem?, h]
theorem seq_step {m : Nat} {vs : Nat → Value} {a0 a a' : Act} {done done' : Nat → Bool} {o : Oper} (h : DoneQ ops m vs a0 done a) (h' : DoneQ ops m vs a0 done' a')
    (hl : ∀ t, t ∈ o.looksAt ops → ∀ j, j < m → Z2s ops j = some t → done j = true ∧ done' j = true) :
    (∀ x, x ∈ o.op.operands → a.eval x = a'.eval x) ∧ Region.wanted o (yielded ops a.tmps) = Region.wanted o (yielded ops a'.tmps) := by
  have key : ∀ t : Nat, t ∈ o.looksAt ops → a.tmps[t]? = a'.tmps[t]? := by
    intro t ht
    by_cases c : ∃ j, j < m ∧ Z2s ops j = some t
    · obtain ⟨j, hj, hs⟩ := c
      obtain ⟨d1, d2⟩ := hl t ht j hj hs
      by_cases hlt : t < a0.tmps.size
      · rw [h.has j t hj d1 hs hlt, h'.has j t hj d2 hs hlt]
      · rw [Array.getElem?_eq_none (by rw [h.size]; omega), Array.getElem?_eq_none (by rw [h'.size]; omega)]
    · have hn : ∀ j, j < m → Z2s ops j ≠ some t := fun j hj hs => c ⟨j, hj, hs⟩
      rw [h.old t fun j hj _ => hn j hj, h'.old t fun j hj _ => hn j hj]
  refine ⟨fun x hx => ?_, ?_⟩
  · cases x with
    | tmp t => exact eval_tmp (key t (List.mem_append_left _ (List.mem_filterMap.2 ⟨.tmp t, by simpa using hx, rfl⟩)))
    | const v => rfl
    | global g => rfl
    | func f => rfl
  · unfold Region.wanted
    cases hg : o.guard with
    | none => rfl
    | some gw =>
      obtain ⟨g, want⟩ := gw
      have : yielded ops a.tmps g = yielded ops a'.tmps g := by
        unfold yielded
        cases ht : (ops[g]?).bind (·.dst) with
        | none => rfl
        | some t =>
          have := key t (List.mem_append_right _ (by rw [hg]; simp [ht]))
          simp only [Option.bind_some, this]
      simp only [this]
theorem Zmk {K : World → Prop} {Qn : Act → Prop} {vs0 : Nat → Value} {a0 : Act} : ∀ (k i : Nat), (∀ j, j < i + k → ∃ o, ops[j]? = some o) → wpQ C.P ops K Qn (List.range' i k) (Zfr ops vs0 a0 i) →
    ∃ vs : Nat → Value, (∀ j, j < i → vs j = vs0 j) ∧ (∀ j o, i ≤ j → j < i + k → ops[j]? = some o → (∀ c, o.op ≠ .defer c) ∧ (∀ cs b, o.op ≠ .select cs b) ∧
      ((Region.wanted o (yielded ops (Zfr ops vs a0 j).tmps) = true ∧ ∀ w, K w → Zec C.P K w (vs j) ((execOp (Zfr ops vs a0 j).eval o).run C.P w)) ∨ (Region.wanted o (yielded ops (Zfr ops vs a0 j).tmps) = false ∧ vs j = undef))) ∧ Qn (Zfr ops vs a0 (i + k))
  | 0, i, _, h => ⟨vs0, fun _ _ => rfl, fun j o h1 h2 => by omega, h⟩
  | k + 1, i, hops, h => by
    obtain ⟨o, ho⟩ := hops i (by omega)
    rw [List.range'_succ] at h
    simp only [wpQ, ho] at h
    obtain ⟨hd, hs, h⟩ := h
    have hslot : Z2s ops i = o.dst := by simp [Z2s, ho]
    obtain ⟨v, hv, hrest⟩ : ∃ v, ((Region.wanted o (yielded ops (Zfr ops vs0 a0 i).tmps) = true ∧ ∀ w, K w → Zec C.P K w v ((execOp (Zfr ops vs0 a0 i).eval o).run C.P w)) ∨ (Region.wanted o (yielded ops (Zfr ops vs0 a0 i).tmps) = false ∧ v = undef)) ∧
        wpQ C.P ops K Qn (List.range' (i + 1) k) ((Zfr ops vs0 a0 i).put o.dst v) := by
      by_cases hw : Region.wanted o (yielded ops (Zfr ops vs0 a0 i).tmps) = true
      · rw [if_pos hw] at h
        obtain ⟨v, h1, h2⟩ := h
        exact ⟨v, .inl ⟨hw, h1⟩, h2⟩
      · rw [if_neg hw] at h
        exact ⟨undef, .inr ⟨by simpa using hw, rfl⟩, h⟩
    have hcongr : ∀ (vs' : Nat → Value), (∀ j, j < i → vs' j = vs0 j) → ∀ j, j ≤ i → Zfr ops vs' a0 j = Zfr ops vs0 a0 j := by
      intro vs' hvs j
      induction j with
      | zero => intro _; rfl
      | succ j ih => intro hj; simp only [Zfr]; rw [ih (by omega), hvs j (by omega)]
    let vs1 : Nat → Value := fun j => if j = i then v else vs0 j
    have e1 : Zfr ops vs1 a0 (i + 1) = (Zfr ops vs0 a0 i).put o.dst v := by
      simp only [Zfr]
      rw [hcongr vs1 (fun j hj => by simp only [vs1]; rw [if_neg (by omega)]) i (Nat.le_refl _), hslot]
      simp only [vs1, if_true]
    rw [← e1] at hrest
    obtain ⟨vs, g1, g2, g3⟩ := Zmk k (i + 1) (fun j hj => hops j (by omega)) hrest
    have gi : vs i = v := by rw [g1 i (by omega)]; simp only [vs1, if_true]
    have gl : ∀ j, j < i → vs j = vs0 j := fun j hj => by rw [g1 j (by omega)]; simp only [vs1]; rw [if_neg (by omega)]
    refine ⟨vs, gl, fun j o' h1 h2 ho' => ?_, by rw [show i + (k + 1) = i + 1 + k by omega]; exact g3⟩
    by_cases c : j = i
    · subst c
      rw [ho] at ho'; injection ho' with ho'; subst ho'
      rw [hcongr vs gl j (Nat.le_refl _), gi]
      exact ⟨hd, hs, hv⟩
    · exact g2 j o' (by omega) (by omega) ho'
theorem Zfo {m : Nat} {vs : Nat → Value} {a0 : Act} (hu : ∀ i, i < m → ∃ d, Z2s ops i = some d ∧ ∀ j, j < m → j ≠ i → Z2s ops j ≠ some d) : ∀ i, i ≤ m → DoneQ ops m vs a0 (fun q => decide (q < i)) (Zfr ops vs a0 i)
 | 0, _ => ⟨rfl, rfl, fun j d _ h => by simp at h, fun t _ => rfl⟩
 | i + 1, hi => by
  obtain ⟨d, hd, hud⟩ := hu i (by omega)
  have := (Zfo (vs := vs) (a0 := a0) hu i (by omega)).put (by omega) hd hud
  simp only [Zfr]
  rw [hd]
  have e : (fun q : Nat => decide (q < i + 1)) = fun q => if q = i then true else decide (q < i) := by
   funext q
   by_cases c : q = i
   · simp [c]
   ·
    have : (q < i + 1) ↔ q < i := by omega
    simp [c, this]
  rw [e]; exact this
theorem Z6o {id : Nat} (m : Nat) (ll : List Nat) (hll : List.range m = ll) (hm : C.P.follows .mixedOrders = true) (hb : Zej ops = true) (ht : Zfc ops m = true) (hms : Nat.ble m ops.size = true) (hs : seqB ops m = true)
    (k : TQ C ops (fun a => ∀ w, Inv C.w0 C.M w H → wpOpsIn (FW C.ρ) 0 C.P ops Q (List.range' m (ops.size - m)) a w) ll E H) : T C (.region id ops true) Q E H := by
  subst hll
  intro a0 w hf hi
  have hms' := Nat.le_of_ble_eq_true hms
  have hseq : ∀ i, i < m → ∃ o d, ops[i]? = some o ∧ Z2s ops i = some d ∧ (∀ j, j < m → j ≠ i → Z2s ops j ≠ some d) ∧ ∀ t, t ∈ o.looksAt ops → ∀ j, j < m → Z2s ops j = some t → j < i ∧ Zak ops ops.size i j = true := by
    intro i him
    have h1 := List.all_eq_true.1 hs i (List.mem_range.2 him)
    have ho : ops[i]? = some ops[i] := Array.getElem?_eq_getElem (by omega)
    rw [ho] at h1
    simp only [Bool.and_eq_true] at h1
    cases hd : (ops[i]).dst with
    | none => rw [hd] at h1; simp at h1
    | some d =>
      rw [hd] at h1
      refine ⟨ops[i], d, ho, by simp [Z2s, ho, hd], fun j hj hji he => ?_, fun t htl j hj hsj => ?_⟩
      · have h2 := List.all_eq_true.1 h1.1 j (List.mem_range.2 hj)
        simp only [Bool.or_eq_true] at h2
        rcases h2 with h2 | h2
        · exact hji (Nat.eq_of_beq_eq_true h2)
        · rw [he] at h2; simp at h2
      · have h2 := List.all_eq_true.1 (List.all_eq_true.1 h1.2 t htl) j (List.mem_range.2 hj)
        rw [hsj] at h2
        simpa using h2
  have hu : ∀ i, i < m → ∃ d, Z2s ops i = some d ∧ ∀ j, j < m → j ≠ i → Z2s ops j ≠ some d := fun i h => by
    obtain ⟨_, d, _, h1, h2, _⟩ := hseq i h; exact ⟨d, h1, h2⟩
  have hk := k a0 hf
  rw [List.range_eq_range'] at hk
  obtain ⟨vs, -, hstep, hend⟩ := Zmk (C := C) (vs0 := fun _ => undef) (a0 := a0) m 0 (fun j hj => by obtain ⟨o, _, ho, _⟩ := hseq j (by omega); exact ⟨o, ho⟩) hk
  rw [Nat.zero_add] at hend
  refine Z9b (m := m) (Jp := fun done a w => DoneQ ops m vs a0 done a ∧ Inv C.w0 C.M w H) hm hb ht hms' ?_ ?_ ⟨⟨rfl, rfl, fun j d _ h => by simp at h, fun t _ => rfl⟩, hi.ofHeap rfl rfl rfl rfl⟩
  · rintro done i o a w1 him ho hdi hcl hafter _ ⟨hD, hinv⟩
    obtain ⟨o', d, ho', hsl, hud, hlook⟩ := hseq i him
    rw [ho] at ho'; injection ho' with ho'; subst ho'
    have hdst : o.dst = some d := by simpa [Z2s, ho] using hsl
    have hdone : ∀ j, Zak ops ops.size i j = true → done j = true := fun j hj => Z44 hcl _ i j hj (fun o' ho' => by rw [ho] at ho'; injection ho' with ho'; subst ho'; exact hafter)
    obtain ⟨hev, hwt⟩ := seq_step hD (Zfo hu i (by omega)) (o := o) (fun t htl j hj hsj => by
      obtain ⟨h1, h2⟩ := hlook t htl j hj hsj
      exact ⟨hdone j h2, by simpa using h1⟩)
    obtain ⟨hnd, hns, hval⟩ := hstep i o (by omega) (by omega) ho
    have hex := execOp_congr o hns hev
    have hput := hD.put him hsl hud
    unfold wpOpIn
    rw [ho]
    simp only
    rcases hval with ⟨hw, hq⟩ | ⟨hw, hq⟩
    · rw [hwt, hw]
      simp only [if_true]
      refine ⟨fun _ _ => trivial, ?_⟩
      rw [Oper.semAt_eq _ _ _ hnd, hex]
      have hq := hq w1 hinv
      generalize (execOp (Zfr ops vs a0 i).eval o).run C.P w1 = r at hq
      cases r with
      | ok x w' =>
        cases x <;> simp only [Zec] at hq
        case value u =>
          obtain ⟨rfl, rfl⟩ := hq
          show _ ∧ _
          rw [hdst]
          exact ⟨hput, hinv⟩
        case enter f args =>
          obtain ⟨rfl, hc⟩ := hq
          refine ⟨by simp [FW], callsIn_FW.2 (Calls.mono hc ?_)⟩
          rintro e w'' ⟨rfl, hK⟩
          show _ ∧ _
          rw [hdst]
          exact ⟨hput, hK⟩
      | halt x w' => simp only [Zec] at hq
    · rw [hwt, hw]
      simp only [Bool.false_eq_true, if_false]
      refine ⟨fun _ _ => trivial, ?_⟩
      rw [hdst, ← hq]
      exact ⟨hput, hinv⟩
  · rintro done a w1 hall ⟨hD, hinv⟩
    have hA := Zfo (vs := vs) (a0 := a0) hu m (Nat.le_refl _)
    have ea : a = Zfr ops vs a0 m := by
      have e1 : a.tmps = (Zfr ops vs a0 m).tmps := by
        apply Array.ext_getElem?
        intro t
        by_cases c : ∃ j, j < m ∧ Z2s ops j = some t
        · obtain ⟨j, hj, hsj⟩ := c
          by_cases hlt : t < a0.tmps.size
          · rw [hD.has j t hj (hall j hj) hsj hlt, hA.has j t hj (by simpa using hj) hsj hlt]
          · rw [Array.getElem?_eq_none (by rw [hD.size]; omega), Array.getElem?_eq_none (by rw [hA.size]; omega)]
        · have hn : ∀ j, j < m → Z2s ops j ≠ some t := fun j hj hsj => c ⟨j, hj, hsj⟩
          rw [hD.old t fun j hj _ => hn j hj, hA.old t fun j hj _ => hn j hj]
      have e2 : a.defers = (Zfr ops vs a0 m).defers := by rw [hD.defers, hA.defers]
      cases a; simp_all
    rw [ea]
    exact hend w1 hinv
theorem TQ.tail {m k : Nat} (l : List Nat) {H0 : Heap} (q0_ : List.range' m k = l ∧ H0 = H) (h : TO C ops Q l E H) : TQ C ops (fun a => ∀ w, Inv C.w0 C.M w H → wpOpsIn (FW C.ρ) 0 C.P ops Q (List.range' m k) a w) [] E H0 := have ⟨hl, hH⟩ := q0_; fun a hf w hi => by rw [hl]; exact h a w hf hi
end
end Go.Acq
namespace Go.Acq
open Go Go.RowKit
section rules
variable {C : Cx} {ops : Array Oper} {Q : Act → Prop} {l : List Nat} {E : Env} {H R : Heap} {i d : Nat} {ty : TypeId} {pos : String} {af : Array Edge} {g : Option (Nat × Bool)}
theorem TQ.val {op : Op} {v : Value} (ho : ops[i]? = some ⟨some d, op, ty, pos, af, g⟩) (hg : gdB ops E g = true) (hd : Nat.ble (d + 1) C.n = true) (hnd : ∀ c, op ≠ .defer c)
    (hr : ∀ a w, Fits C.n C.D E a → Inv C.w0 C.M w H → (execOp a.eval ⟨some d, op, ty, pos, af, g⟩).run C.P w = .ok (.value v) w)
    (k : TQ C ops Q l ((d, v) :: E) H) (hns : ∀ cs b, op ≠ .select cs b := by simp) : TQ C ops Q (i :: l) E H := by
  intro a hf
  simp only [wpQ, ho]
  refine ⟨hnd, hns, ?_⟩
  rw [if_pos (Zgw hf hg)]
  exact ⟨v, fun w hi => by rw [hr a w hf hi]; exact ⟨rfl, rfl⟩, k _ (hf.put hd v)⟩
theorem Z22 {o : Oper} (q0_ : ops[i]? = some o ∧ gdN ops E o.guard = true ∧ o.dst = some d ∧ Nat.ble (d + 1) C.n = true) (k : TQ C ops Q l ((d, undef) :: E) H) (hnd : ∀ c, o.op ≠ .defer c := by simp) (hns : ∀ cs b, o.op ≠ .select cs b := by simp) : TQ C ops Q (i :: l) E H := by
 obtain ⟨ho, hg, hdst, hd⟩ := q0_
 intro a hf
 simp only [wpQ, ho]
 refine ⟨hnd, hns, ?_⟩
 rw [if_neg (by rw [Zgv hf hg]; simp), hdst]
 exact k _ (hf.put hd _)
theorem Zb9 {t : Nat} {b b' : Bool} (ht : Z43 E t = some (.bool b)) (hb : b = b') (k : TQ C ops Q l ((t, .bool b') :: E) H) : TQ C ops Q l E H := by
 subst hb
 intro a hf
 refine k a ⟨hf.size, hf.defers, fun u v hu => ?_⟩
 rw [Z2c] at hu
 by_cases e : t = u
 · subst e; rw [if_pos rfl] at hu; injection hu with hu; subst hu; exact hf.get t _ ht
 · rw [if_neg e] at hu; exact hf.get u v hu
theorem Zf0 {P : Program} {K : World → Prop} {Q Q' : Act → Prop} {l2 : List Nat} (hn : ∀ a, Q' a → wpQ P ops K Q l2 a) : ∀ (l1 : List Nat) (a : Act), wpQ P ops K Q' l1 a → wpQ P ops K Q (l1 ++ l2) a
 | [], a, h => hn a h
 | i :: l1, a, h => by
  simp only [List.cons_append, wpQ] at h ⊢
  cases ho : ops[i]? with
  | none => rw [ho] at h; exact Zf0 hn l1 a h
  | some o =>
   rw [ho] at h
   simp only at h ⊢
   refine ⟨h.1, h.2.1, ?_⟩
   have h3 := h.2.2
   by_cases hw : Region.wanted o (yielded ops a.tmps) = true
   ·
    rw [if_pos hw] at h3 ⊢
    obtain ⟨v, h4, h5⟩ := h3
    exact ⟨v, h4, Zf0 hn l1 _ h5⟩
   ·
    rw [if_neg hw] at h3 ⊢
    exact Zf0 hn l1 _ h3
theorem TQ.join (l1 l2 : List Nat) (hl : l1 ++ l2 = l) (d : Nat) (φ : Bool → Prop) (E' : Env) (h1 : TQ C ops (fun a => ∃ b, φ b ∧ Fits C.n C.D ((d, .bool b) :: E') a) l1 E H) (h2 : ∀ b, φ b → TQ C ops Q l2 ((d, .bool b) :: E') H) : TQ C ops Q l E H := by
 subst hl
 intro a hf
 refine Zf0 (Q' := fun a => ∃ b, φ b ∧ Fits C.n C.D ((d, .bool b) :: E') a) (fun a h => ?_) l1 a (h1 a hf)
 obtain ⟨b, hb, hfit⟩ := h
 exact h2 b hb a hfit
theorem TQ.jn {E' : Env} {d : Nat} {φ : Bool → Prop} {b : Bool} (h : φ b) (hE : AllF ((d, .bool b) :: E') E) : TQ C ops (fun a => ∃ b, φ b ∧ Fits C.n C.D ((d, .bool b) :: E') a) [] E H := fun _ hf => ⟨b, h, hf.weak hE.sub⟩
theorem TQ.move {x : Operand} {v : Value} (q0_ : ops[i]? = some ⟨some d, .move x, ty, pos, af, g⟩ ∧ gdB ops E g = true ∧ Nat.ble (d + 1) C.n = true ∧ ev E x = some v)
    (k : TQ C ops Q l ((d, v) :: E) H) : TQ C ops Q (i :: l) E H := have ⟨ho, hg, hd, hx⟩ := q0_;
  TQ.val ho hg hd (by simp) (fun a w hf _ => by simp [execOp, hf.ev hx]) k
theorem Zkw {c x y : Operand} {v : Value} (q0_ : ops[i]? = some ⟨some d, .pick c x y, ty, pos, af, g⟩ ∧ gdB ops E g = true ∧ Nat.ble (d + 1) C.n = true ∧ ev E c = some (.bool true) ∧ ev E x = some v) (k : TQ C ops Q l ((d, v) :: E) H) : TQ C ops Q (i :: l) E H := have ⟨ho, hg, hd, hc, hx⟩ := q0_;
  TQ.val ho hg hd (by simp) (fun a w hf _ => by simp [execOp, hf.ev hc, hf.ev hx, asBool]) k
theorem Zkx {c x y : Operand} {v : Value} (q0_ : ops[i]? = some ⟨some d, .pick c x y, ty, pos, af, g⟩ ∧ gdB ops E g = true ∧ Nat.ble (d + 1) C.n = true ∧ ev E c = some (.bool false) ∧ ev E y = some v) (k : TQ C ops Q l ((d, v) :: E) H) : TQ C ops Q (i :: l) E H := have ⟨ho, hg, hd, hc, hx⟩ := q0_;
  TQ.val ho hg hd (by simp) (fun a w hf _ => by simp [execOp, hf.ev hc, hf.ev hx, asBool]) k
theorem Ze5 {op : BinOp} {t t2 : TypeId} {x y : Operand} {k : IntKind} {p q : Int} {v : Value}
    (q0_ : ops[i]? = some ⟨some d, .binOp op t x y t2, ty, pos, af, g⟩ ∧ gdB ops E g = true ∧ Nat.ble (d + 1) C.n = true ∧ ev E x = some (.int k p) ∧ ev E y = some (.int k q) ∧ binV op k p q = some v) (kk : TQ C ops Q l ((d, v) :: E) H) : TQ C ops Q (i :: l) E H := have ⟨ho, hg, hd, hx, hy, hv⟩ := q0_;
  TQ.val ho hg hd (by simp) (fun a w hf _ => by simp [execOp, hf.ev hx, hf.ev hy, eqGuard_at_int, Zke hv]) kk
theorem TQ.add {t t2 : TypeId} {x y : Operand} {p q : Int}
    (ho : ops[i]? = some ⟨some d, .binOp .add t x y t2, ty, pos, af, g⟩) (hg : gdB ops E g = true) (hd : Nat.ble (d + 1) C.n = true) (hx : ev E x = some (.int .i64 p)) (hy : ev E y = some (.int .i64 q))
    (h1 : -9223372036854775808 ≤ p + q) (h2 : p + q ≤ 9223372036854775807) (kk : TQ C ops Q l ((d, .int .i64 (p + q)) :: E) H) : TQ C ops Q (i :: l) E H :=
  Ze5 ⟨ho, hg, hd, hx, hy, (by simp only [binV]; rw [Z5h h1 h2])⟩ kk
theorem TQ.sub {t t2 : TypeId} {x y : Operand} {p q : Int}
    (ho : ops[i]? = some ⟨some d, .binOp .sub t x y t2, ty, pos, af, g⟩) (hg : gdB ops E g = true) (hd : Nat.ble (d + 1) C.n = true) (hx : ev E x = some (.int .i64 p)) (hy : ev E y = some (.int .i64 q))
    (h1 : -9223372036854775808 ≤ p - q) (h2 : p - q ≤ 9223372036854775807) (kk : TQ C ops Q l ((d, .int .i64 (p - q)) :: E) H) : TQ C ops Q (i :: l) E H :=
  Ze5 ⟨ho, hg, hd, hx, hy, (by simp only [binV]; rw [Z5h h1 h2])⟩ kk
theorem TQ.fieldAddr {s : TypeId} {x : Operand} {f o b p : Nat} (ho : ops[i]? = some ⟨some d, .fieldAddr s x f, ty, pos, af, g⟩) (hg : gdB ops E g = true) (hd : Nat.ble (d + 1) C.n = true)
    (hx : ev E x = some (.pointer (some ⟨b, p, none⟩))) (hT : Z40 C.P s f = some o) (kk : TQ C ops Q l ((d, .pointer (some ⟨b, p + o, none⟩)) :: E) H) : TQ C ops Q (i :: l) E H :=
  TQ.val ho hg hd (by simp) (fun a w hf _ => by simp [execOp, hf.ev hx, Zfe hT]) kk
theorem Z17 {s : TypeId} {x : Operand} {f o b : Nat} (q0_ : ops[i]? = some ⟨some d, .fieldAddr s x f, ty, pos, af, g⟩ ∧ gdB ops E g = true ∧ Nat.ble (d + 1) C.n = true ∧ ev E x = some (.pointer (some ⟨b, 0, none⟩))) (hT : Z40 C.P s f = some o) (kk : TQ C ops Q l ((d, .pointer (some ⟨b, o, none⟩)) :: E) H) : TQ C ops Q (i :: l) E H := have ⟨ho, hg, hd, hx⟩ := q0_;
  TQ.fieldAddr ho hg hd hx hT (by rw [Nat.zero_add]; exact kk)
theorem TQ.load {t : TypeId} {x : Operand} {ad : Addr} {v : Value} (ho : ops[i]? = some ⟨some d, .load t x, ty, pos, af, g⟩) (hg : gdB ops E g = true) (hd : Nat.ble (d + 1) C.n = true)
    (hx : ev E x = some (.pointer (some ad))) (hT : Z5q C.P t = true) (hc : ∀ w, Inv C.w0 C.M w H → w.cell? ad = some v)
    (kk : TQ C ops Q l ((d, v) :: E) H) : TQ C ops Q (i :: l) E H :=
  TQ.val ho hg hd (by simp) (fun a w hf hi => by simp [execOp, hf.ev hx, Instr.loadAt, Instr.sureAddr, Z9n hT (hc w hi)]) kk
theorem Z1u {t T' : TypeId} {x : Operand} {b o : Nat} {cs : Array Value} {fr : Nat × Nat} {v : Value} (q0_ : ops[i]? = some ⟨some d, .load t x, ty, pos, af, g⟩ ∧ gdB ops E g = true ∧ Nat.ble (d + 1) C.n = true ∧ ev E x = some (.pointer (some ⟨b, o, none⟩))) (hT : Z5q C.P t = true) (hm : (some b, Obj.cells cs T' fr) ∈ H) (hv : cs[o]? = some v)
    (kk : TQ C ops Q l ((d, v) :: E) H) : TQ C ops Q (i :: l) E H := have ⟨ho, hg, hd, hx⟩ := q0_;
  TQ.load ho hg hd hx hT (fun w hi => by rw [hi.cell_own hm]; exact hv) kk
theorem TQ.loadS {t : TypeId} {x : Operand} {ad : Addr} {k : Nat} {cs : List Value} (ho : ops[i]? = some ⟨some d, .load t x, ty, pos, af, g⟩) (hg : gdB ops E g = true) (hd : Nat.ble (d + 1) C.n = true)
    (hx : ev E x = some (.pointer (some ad))) (hT : Zh4 C.P t k = true) (hk : cs.length = k) (hc : ∀ w, Inv C.w0 C.M w H → ∀ j v, cs[j]? = some v → w.cell? (ad.add j) = some v)
    (kk : TQ C ops Q l ((d, .agg cs.toArray) :: E) H) : TQ C ops Q (i :: l) E H :=
  TQ.val ho hg hd (by simp) (fun a w hf hi => by simp [execOp, hf.ev hx, Instr.loadAt, Instr.sureAddr, Zaj hT hk (hc w hi)]) kk
theorem TQ.ldI {t T' : TypeId} {x : Operand} {b o : Nat} {k : IntKind} {xs : List Int} {j : List Value} {fr : Nat × Nat} (ho : ops[i]? = some ⟨some d, .load t x, ty, pos, af, g⟩) (hg : gdB ops E g = true) (hd : Nat.ble (d + 1) C.n = true)
    (hx : ev E x = some (.pointer (some ⟨b, o, none⟩))) (hT : Z5q C.P t = true) (hm : (some b, Obj.cells (arr (intC k) xs j).toArray T' fr) ∈ H) (hv : o < xs.length)
    (kk : TQ C ops Q l ((d, .int k (xs.getD o 0)) :: E) H) : TQ C ops Q (i :: l) E H :=
  Z1u ⟨ho, hg, hd, hx⟩ hT hm (by
    have := Zfn (f := intC k) (s := 1) (fun _ => rfl) 0 xs j o 0 hv (by omega)
    simpa using this) kk
theorem Zjh {t e : TypeId} {x y : Operand} {base : Option Addr} {n c s : Nat} {k : IntKind} {p : Int} (ho : ops[i]? = some ⟨some d, .indexAddr t x y, ty, pos, af, g⟩) (hg : gdB ops E g = true) (hd : Nat.ble (d + 1) C.n = true)
    (hx : ev E x = some (.slice base n c)) (hy : ev E y = some (.int k p)) (ht : Z39 C.P t = some e) (hs : Z3g C.P e = some s) (hb : base = none → n = 0) (h0 : 0 ≤ p) (h1 : p < n)
    (kk : TQ C ops Q l ((d, .pointer (some (ea base (p.toNat * s)))) :: E) H) : TQ C ops Q (i :: l) E H :=
  TQ.val ho hg hd (by simp) (fun a w hf hi => by
    cases base with
    | none => exact absurd h1 (by simp [hb rfl]; omega)
    | some b =>
      have hu := Z52 ht
      simp [execOp, hf.ev hx, hf.ev hy, Instr.indexAt, asIntOf, run_underlying hu, h0, h1, Z8e hs, ea]) kk
theorem TQ.index {t e : TypeId} {x y : Operand} {b o n c s : Nat} {k : IntKind} {p : Int} (ho : ops[i]? = some ⟨some d, .indexAddr t x y, ty, pos, af, g⟩) (hg : gdB ops E g = true) (hd : Nat.ble (d + 1) C.n = true)
    (hx : ev E x = some (.slice (some ⟨b, o, none⟩) n c)) (hy : ev E y = some (.int k p)) (ht : Z39 C.P t = some e) (hs : Z3g C.P e = some s) (h0 : 0 ≤ p) (h1 : p < n)
    (kk : TQ C ops Q l ((d, .pointer (some ⟨b, o + p.toNat * s, none⟩)) :: E) H) : TQ C ops Q (i :: l) E H :=
  Zjh ho hg hd hx hy ht hs (by simp) h0 h1 (by simpa [ea, Addr.add_mid] using kk)
theorem Zoa {t e : TypeId} {x y : Operand} {b n c s : Nat} {k : IntKind} {p : Int} (ho : ops[i]? = some ⟨some d, .indexAddr t x y, ty, pos, af, g⟩) (hg : gdB ops E g = true) (hd : Nat.ble (d + 1) C.n = true)
    (hx : ev E x = some (.slice (some ⟨b, 0, none⟩) n c)) (hy : ev E y = some (.int k p)) (ht : Z39 C.P t = some e) (hs : Z3g C.P e = some s) (h0 : 0 ≤ p) (h1 : p < n)
    (kk : TQ C ops Q l ((d, .pointer (some ⟨b, p.toNat * s, none⟩)) :: E) H) : TQ C ops Q (i :: l) E H :=
  TQ.index ho hg hd hx hy ht hs h0 h1 (by rw [Nat.zero_add]; exact kk)
theorem Zma {t e : TypeId} {x y : Operand} {base : Option Addr} {n c s : Nat} {k : IntKind} {p : Int} (ho : ops[i]? = some ⟨some d, .slice t x none (some y) none, ty, pos, af, g⟩) (hg : gdB ops E g = true) (hd : Nat.ble (d + 1) C.n = true)
    (hx : ev E x = some (.slice base n c)) (hy : ev E y = some (.int k p)) (ht : Z39 C.P t = some e) (hs : Z3g C.P e = some s) (h0 : 0 ≤ p) (h1 : p ≤ c)
    (kk : TQ C ops Q l ((d, .slice base p.toNat c) :: E) H) : TQ C ops Q (i :: l) E H :=
  TQ.val ho hg hd (by simp) (fun a w hf hi => by
    have hu := Z52 ht
    have hb : ∀ b : Option Addr, Option.map (fun x => x.add 0) b = b := fun b => by cases b <;> simp [Addr.add]
    simp [execOp, hf.ev hx, hf.ev hy, Instr.sliceAt, Instr.slice, Instr.sliceBounds, Instr.sliceBound, asIntOf, run_underlying hu, h0, h1, Z8e hs, hb]) kk
theorem TQ.len {t : TypeId} {at' : Array TypeId} {x : Operand} {e : TypeId} {base : Option Addr} {n c : Nat}
    (ho : ops[i]? = some ⟨some d, .call ⟨.builtin .len, #[x], at'⟩, ty, pos, af, g⟩) (hg : gdB ops E g = true) (hd : Nat.ble (d + 1) C.n = true) (hat : at'[0]? = some t)
    (hx : ev E x = some (.slice base n c)) (ht : Z39 C.P t = some e) (kk : TQ C ops Q l ((d, .int .i64 n) :: E) H) : TQ C ops Q (i :: l) E H :=
  TQ.val ho hg hd (by simp) (fun a w hf _ => by
    simp [execOp, resolve, invoke, builtin, hf.ev hx, Builtin.len_, hat, run_underlying (Z52 ht), goInt]) kk
theorem Zi9 {α : Type} {t : TypeId} {at' : Array TypeId} {x : Operand} {e : TypeId} {base : Option Addr} {n c : Nat} {xs : List α} (hn : xs.length = n)
    (q0_ : ops[i]? = some ⟨some d, .call ⟨.builtin .len, #[x], at'⟩, ty, pos, af, g⟩ ∧ gdB ops E g = true ∧ Nat.ble (d + 1) C.n = true ∧ at'[0]? = some t ∧ ev E x = some (.slice base n c)) (ht : Z39 C.P t = some e) (kk : TQ C ops Q l ((d, .int .i64 (xs.length : Int)) :: E) H) : TQ C ops Q (i :: l) E H := have ⟨ho, hg, hd, hat, hx⟩ := q0_;
  TQ.len ho hg hd hat hx ht (by rw [← hn]; exact kk)
theorem Z9u {α : Type} {f : α → List Value} {M : List Nat} {w : World} {xs : List α} {t e : TypeId} {x y : Operand} {base : Option Addr} {n c s : Nat} {k : IntKind} {p : Int} (hr : RS w M f s base n c xs) (hp : inb p xs.length)
    (q0_ : ops[i]? = some ⟨some d, .indexAddr t x y, ty, pos, af, g⟩ ∧ gdB ops E g = true ∧ Nat.ble (d + 1) C.n = true ∧ ev E x = some (.slice base n c) ∧ ev E y = some (.int k p)) (ht : Z39 C.P t = some e) (hs : Z3g C.P e = some s)
    (kk : TQ C ops Q l ((d, .pointer (some (ea base (p.toNat * s)))) :: E) H) : TQ C ops Q (i :: l) E H := have ⟨ho, hg, hd, hx, hy⟩ := q0_;
  Zjh ho hg hd hx hy ht hs hr.ro.nil hp.1 (by have := hp.2; rw [hr.len] at this; exact this) kk
theorem TQ.ix0 {α : Type} {xs : List α} {t e : TypeId} {x y : Operand} {b n c s : Nat} {k : IntKind} {p : Int} (hn : xs.length = n) (hp : inb p xs.length)
    (ho : ops[i]? = some ⟨some d, .indexAddr t x y, ty, pos, af, g⟩) (hg : gdB ops E g = true) (hd : Nat.ble (d + 1) C.n = true)
    (hx : ev E x = some (.slice (some ⟨b, 0, none⟩) n c)) (hy : ev E y = some (.int k p)) (ht : Z39 C.P t = some e) (hs : Z3g C.P e = some s)
    (kk : TQ C ops Q l ((d, .pointer (some ⟨b, p.toNat * s, none⟩)) :: E) H) : TQ C ops Q (i :: l) E H :=
  Zoa ho hg hd hx hy ht hs hp.1 (by have := hp.2; rw [hn] at this; exact this) kk
theorem TQ.faR {s : TypeId} {x : Operand} {f o n : Nat} {base : Option Addr} (q0_ : ops[i]? = some ⟨some d, .fieldAddr s x f, ty, pos, af, g⟩ ∧ gdB ops E g = true ∧ Nat.ble (d + 1) C.n = true ∧ ev E x = some (.pointer (some (ea base n)))) (hT : Z40 C.P s f = some o) (kk : TQ C ops Q l ((d, .pointer (some (ea base (n + o)))) :: E) H) : TQ C ops Q (i :: l) E H := have ⟨ho, hg, hd, hx⟩ := q0_;
  TQ.val ho hg hd (by simp) (fun a w hf _ => by simp [execOp, hf.ev hx, Zeq hT, Zkm]) kk
theorem Z9o {t : TypeId} {x : Operand} {base : Option Addr} {n c : Nat} {k : IntKind} {p : Int} {xs : List Int} (hr : RS C.w0 C.M (intC k) 1 base n c xs) (hp : inb p xs.length) (q0_ : ops[i]? = some ⟨some d, .load t x, ty, pos, af, g⟩ ∧ gdB ops E g = true ∧ Nat.ble (d + 1) C.n = true ∧ ev E x = some (.pointer (some (ea base (p.toNat * 1))))) (hT : Z5q C.P t = true)
    (kk : TQ C ops Q l ((d, .int k (xs.getD p.toNat 0)) :: E) H) : TQ C ops Q (i :: l) E H := have ⟨ho, hg, hd, hx⟩ := q0_;
  TQ.load ho hg hd hx hT (fun w hi => by
    have := (hr.ro.monoM hr.far hi).at 0 (o := p.toNat) (c := 0) (Z7h hp) (by omega)
    simpa using this) kk
theorem Zo9 {α : Type} {f : α → List Value} {s : Nat} {t : TypeId} {x : Operand} {base : Option Addr} {n c q : Nat} {p : Int} {xs : List α} {v : Value} (dflt : α) (hr : RS C.w0 C.M f s base n c xs) (hp : inb p xs.length) (q0_ : ops[i]? = some ⟨some d, .load t x, ty, pos, af, g⟩ ∧ gdB ops E g = true ∧ Nat.ble (d + 1) C.n = true ∧ ev E x = some (.pointer (some (ea base (p.toNat * s + q)))) ∧ (f (xs.getD p.toNat dflt))[q]? = some v) (hT : Z5q C.P t = true)
    (kk : TQ C ops Q l ((d, v) :: E) H) : TQ C ops Q (i :: l) E H := have ⟨ho, hg, hd, hx, hv⟩ := q0_;
  TQ.load ho hg hd hx hT (fun w hi => by
    have hqs : q < s := by rw [← hr.ro.wide (xs.getD p.toNat dflt)]; exact (List.getElem?_eq_some_iff.1 hv).1
    have := (hr.ro.monoM hr.far hi).at dflt (o := p.toNat) (c := q) (Z7h hp) hqs
    exact this.trans hv) kk
theorem TQ.ldIO {t T' : TypeId} {x : Operand} {b : Nat} {k : IntKind} {p : Int} {xs : List Int} {j : List Value} {fr : Nat × Nat} (hp : inb p xs.length) (ho : ops[i]? = some ⟨some d, .load t x, ty, pos, af, g⟩) (hg : gdB ops E g = true) (hd : Nat.ble (d + 1) C.n = true)
    (hx : ev E x = some (.pointer (some ⟨b, p.toNat, none⟩))) (hT : Z5q C.P t = true) (hm : (some b, Obj.cells (arr (intC k) xs j).toArray T' fr) ∈ H)
    (kk : TQ C ops Q l ((d, .int k (xs.getD p.toNat 0)) :: E) H) : TQ C ops Q (i :: l) E H := TQ.ldI ho hg hd hx hT hm (Z7h hp) kk
theorem Zob {t t2 : TypeId} {x y : Operand} {p q : Int} (h : i64ok (p + q)) (q0_ : ops[i]? = some ⟨some d, .binOp .add t x y t2, ty, pos, af, g⟩ ∧ gdB ops E g = true ∧ Nat.ble (d + 1) C.n = true ∧ ev E x = some (.int .i64 p) ∧ ev E y = some (.int .i64 q))
    (kk : TQ C ops Q l ((d, .int .i64 (p + q)) :: E) H) : TQ C ops Q (i :: l) E H := have ⟨ho, hg, hd, hx, hy⟩ := q0_; TQ.add ho hg hd hx hy h.1 h.2 kk
theorem Zo7 {t t2 : TypeId} {x y : Operand} {p q : Int} (h : i64ok (p - q)) (q0_ : ops[i]? = some ⟨some d, .binOp .sub t x y t2, ty, pos, af, g⟩ ∧ gdB ops E g = true ∧ Nat.ble (d + 1) C.n = true ∧ ev E x = some (.int .i64 p) ∧ ev E y = some (.int .i64 q))
    (kk : TQ C ops Q l ((d, .int .i64 (p - q)) :: E) H) : TQ C ops Q (i :: l) E H := have ⟨ho, hg, hd, hx, hy⟩ := q0_; TQ.sub ho hg hd hx hy h.1 h.2 kk
theorem Zc2 {t : TypeId} {x : Operand} {b o : Nat} {cs : List Value} {v : Value} (hc : HB C.w0 C.M b cs) (q0_ : ops[i]? = some ⟨some d, .load t x, ty, pos, af, g⟩ ∧ gdB ops E g = true ∧ Nat.ble (d + 1) C.n = true ∧ ev E x = some (.pointer (some ⟨b, o, none⟩)) ∧ cs[o]? = some v) (hT : Z5q C.P t = true)
    (kk : TQ C ops Q l ((d, v) :: E) H) : TQ C ops Q (i :: l) E H := have ⟨ho, hg, hd, hx, hv⟩ := q0_; TQ.load ho hg hd hx hT (fun w hi => hi.cell_old (hc.has o v hv) hc.far) kk
theorem TQ.ldHBA {t : TypeId} {x : Operand} {b k : Nat} {cs : List Value} (hc : HB C.w0 C.M b cs) (q0_ : ops[i]? = some ⟨some d, .load t x, ty, pos, af, g⟩ ∧ gdB ops E g = true ∧ Nat.ble (d + 1) C.n = true ∧ ev E x = some (.pointer (some ⟨b, 0, none⟩)) ∧ cs.length = k) (hT : Zh4 C.P t k = true)
    (kk : TQ C ops Q l ((d, .agg cs.toArray) :: E) H) : TQ C ops Q (i :: l) E H := have ⟨ho, hg, hd, hx, hk⟩ := q0_;
  TQ.loadS ho hg hd hx hT hk (fun w hi j v hv => by rw [Addr.add_mid, Nat.zero_add]; exact hi.cell_old (hc.has j v hv) hc.far) kk
theorem TQ.slH {α : Type} {xs : List α} {t e : TypeId} {x y : Operand} {base : Option Addr} {n c s : Nat} {k : IntKind} {p : Int} (hn : xs.length = n) (hc : n ≤ c) (hp : 0 ≤ p ∧ p ≤ (xs.length : Int))
    (q0_ : ops[i]? = some ⟨some d, .slice t x none (some y) none, ty, pos, af, g⟩ ∧ gdB ops E g = true ∧ Nat.ble (d + 1) C.n = true ∧ ev E x = some (.slice base n c) ∧ ev E y = some (.int k p)) (ht : Z39 C.P t = some e) (hs : Z3g C.P e = some s)
    (kk : TQ C ops Q l ((d, .slice base p.toNat c) :: E) H) : TQ C ops Q (i :: l) E H := have ⟨ho, hg, hd, hx, hy⟩ := q0_;
  Zma ho hg hd hx hy ht hs hp.1 (by have := hp.2; omega) kk
theorem Z9t {α : Type} {xs : List α} {t e : TypeId} {x y : Operand} {ob : Option Nat} {n c s : Nat} {k : IntKind} {p : Int} (hz : ob = none → c = 0) (hc : n ≤ c) (hn : xs.length = n) (hp : inb p xs.length)
    (q0_ : ops[i]? = some ⟨some d, .indexAddr t x y, ty, pos, af, g⟩ ∧ gdB ops E g = true ∧ Nat.ble (d + 1) C.n = true ∧ ev E x = some (.slice (sb ob) n c) ∧ ev E y = some (.int k p)) (ht : Z39 C.P t = some e) (hs : Z3g C.P e = some s)
    (kk : TQ C ops Q l ((d, .pointer (some (ea (sb ob) (p.toNat * s)))) :: E) H) : TQ C ops Q (i :: l) E H := by
  obtain ⟨ho, hg, hd, hx, hy⟩ := q0_
  obtain ⟨b, rfl⟩ := Zbw hz hc hn hp
  exact TQ.ix0 hn hp ho hg hd hx hy ht hs (by rw [← Zdj]; exact kk)
theorem Z7m {t T' : TypeId} {x : Operand} {ob : Option Nat} {n c : Nat} {k : IntKind} {p : Int} {xs : List Int} {j : List Value} {fr : Nat × Nat} (hz : ob = none → c = 0) (hc : n ≤ c) (hn : xs.length = n) (hp : inb p xs.length) (q0_ : ops[i]? = some ⟨some d, .load t x, ty, pos, af, g⟩ ∧ gdB ops E g = true ∧ Nat.ble (d + 1) C.n = true ∧ ev E x = some (.pointer (some (ea (sb ob) (p.toNat * 1))))) (hT : Z5q C.P t = true) (hm : (ob, Obj.cells (arr (intC k) xs j).toArray T' fr) ∈ H)
    (kk : TQ C ops Q l ((d, .int k (xs.getD p.toNat 0)) :: E) H) : TQ C ops Q (i :: l) E H := by
  obtain ⟨ho, hg, hd, hx⟩ := q0_
  obtain ⟨b, rfl⟩ := Zbw hz hc hn hp
  exact TQ.ldIO hp ho hg hd (by rw [← Zdj, ← Nat.mul_one p.toNat]; exact hx) hT hm kk
theorem Zo8 {α : Type} {f : α → List Value} {s : Nat} {t : TypeId} {x : Operand} {base : Option Addr} {n c : Nat} {p : Int} {ms : List SM} {xss : List (List α)} (hr : RW C.w0 C.M f s base n c ms xss) (hp : inb p xss.length) (q0_ : ops[i]? = some ⟨some d, .load t x, ty, pos, af, g⟩ ∧ gdB ops E g = true ∧ Nat.ble (d + 1) C.n = true ∧ ev E x = some (.pointer (some (ea base (p.toNat * 1))))) (hT : Z5q C.P t = true)
    (kk : TQ C ops Q l ((d, .slice (ms.getD p.toNat default).1 (ms.getD p.toNat default).2.1 (ms.getD p.toNat default).2.2) :: E) H) : TQ C ops Q (i :: l) E H := have ⟨ho, hg, hd, hx⟩ := q0_;
  TQ.load ho hg hd hx hT (fun w hi => by
    have := (hr.rs.ro.monoM hr.rs.far hi).at default (o := p.toNat) (c := 0) (Z7h (hr.inb hp)) (by omega)
    simpa [smC] using this) kk
end rules
end Go.Acq
namespace Go.Acq
open Go Go.RowKit
section rules
variable {C : Cx} {ops : Array Oper} {Q : Exit → Act → World → Prop} {l : List Nat} {E : Env} {H R : Heap} {i d : Nat} {ty : TypeId} {pos : String} {af : Array Edge} {g : Option (Nat × Bool)}
end rules
end Go.Acq
namespace Go.Acq
open Go Go.RowKit
section
variable {C : Cx} {Q : Exit → Act → World → Prop} {E : Env} {H : Heap} {c x y : Code}
theorem T.loopEM {α : Type} (φ : α → Prop) (L : α → Env) (Hs : α → Heap) (μ : α → Nat) (D : α → List Deferred) (s0 : α) (hD : C.D = D s0) (h0 : φ s0) (hE : AllF (L s0) E) (hH : Pick (Hs s0) H)
    (round : ∀ s, φ s → T { C with D := D s } c (Exit.then (fun a w => ∃ s', φ s' ∧ μ s' < μ s ∧ Fits C.n (D s') (L s') a ∧ Inv C.w0 C.M w (Hs s')) Q) (L s) (Hs s)) : T C (.loop c) Q E H := by
  intro a w hf hi b k cs hro hb hr
  have key : ∀ j s a w, μ s = j → φ s → Fits C.n (D s) (L s) a → Inv C.w0 C.M w (Hs s) →
      ∃ e a' w', Q e a' w' ∧ ArrivesIn (Machine.fenced C.P (FW C.ρ)) C.P (lone (b.atR a (.code c :: .inLoop c :: k)) cs w) b k cs e a' w' := by
    intro j
    induction j using Nat.strongRecOn with
    | _ j ih =>
      intro s a w hj hφ hfit hinv
      obtain ⟨e, a₁, w₁, hq, harr⟩ := round s hφ a w hfit hinv b (.inLoop c :: k) cs hro hb hr
      cases e with
      | normal =>
        obtain ⟨s', hφ', hlt, hfit', hinv'⟩ := hq
        obtain ⟨e₂, a₂, w₂, hq₂, harr₂⟩ := ih (μ s') (hj ▸ hlt) s' a₁ w₁ rfl hφ' hfit' hinv'
        exact ⟨e₂, a₂, w₂, hq₂, .of_steps (StepsIn.trans harr (.one (fenced_calm hb hr rfl) stepR_inLoop)) harr₂⟩
      | exit id => exact ⟨_, a₁, w₁, hq, .pass (x := .inLoop c) rfl (fun _ _ => .inl (by simp)) harr⟩
      | goto l => exact ⟨_, a₁, w₁, hq, .pass (x := .inLoop c) rfl (fun _ _ => .inl (by simp)) harr⟩
      | ret => exact ⟨_, a₁, w₁, hq, .pass (x := .inLoop c) rfl (fun _ _ => .inl (by simp)) harr⟩
      | panic ch => exact ⟨_, a₁, w₁, hq, .pass (x := .inLoop c) rfl (fun _ _ => .inl (by simp)) harr⟩
      | outgrown => exact ⟨_, a₁, w₁, hq, .pass (x := .inLoop c) rfl (fun _ _ => .inl (by simp)) harr⟩
  have hf0 : Fits C.n (D s0) (L s0) a := by rw [← hD]; exact hf.all hE
  obtain ⟨e, a', w', hq, harr⟩ := key _ s0 a w rfl h0 hf0 (hi.pick hH)
  exact ⟨e, a', w', hq, .of_steps (.one (fenced_calm hb hr rfl) stepR_loop) harr⟩
theorem Zmd {α0 α1 α2 α3 α4 α5 : Type} (φ : α0 → α1 → α2 → α3 → α4 → α5 → Prop) (L : α0 → α1 → α2 → α3 → α4 → α5 → Env) (Hs : α0 → α1 → α2 → α3 → α4 → α5 → Heap) (D : α0 → α1 → α2 → α3 → α4 → α5 → List Deferred) (hx : T C x (Exit.then (fun ac w => ∃ (b0 : α0) (b1 : α1) (b2 : α2) (b3 : α3) (b4 : α4) (b5 : α5), φ b0 b1 b2 b3 b4 b5 ∧ Fits C.n (D b0 b1 b2 b3 b4 b5) (L b0 b1 b2 b3 b4 b5) ac ∧ Inv C.w0 C.M w (Hs b0 b1 b2 b3 b4 b5)) Q) E H)
    (hy : ∀ (b0 : α0) (b1 : α1) (b2 : α2) (b3 : α3) (b4 : α4) (b5 : α5), φ b0 b1 b2 b3 b4 b5 → T { C with D := D b0 b1 b2 b3 b4 b5 } y Q (L b0 b1 b2 b3 b4 b5) (Hs b0 b1 b2 b3 b4 b5)) : T C x (Exit.then (y.wpIn (FW C.ρ) 0 C.P Q) Q) E H := T.mono hx (fun e ac w h => by
  cases e with
  | normal => obtain ⟨b0, b1, b2, b3, b4, b5, h1, h2, h3⟩ := h; exact hy b0 b1 b2 b3 b4 b5 h1 ac w h2 h3
  | _ => exact h)
theorem X.metEM6 {α0 α1 α2 α3 α4 α5 : Type} {φ : α0 → α1 → α2 → α3 → α4 → α5 → Prop} {L : α0 → α1 → α2 → α3 → α4 → α5 → Env} {Hs : α0 → α1 → α2 → α3 → α4 → α5 → Heap} {D : α0 → α1 → α2 → α3 → α4 → α5 → List Deferred} {Cn : Nat} {Cw : World} {CM : List Nat} (b0 : α0) (b1 : α1) (b2 : α2) (b3 : α3) (b4 : α4) (b5 : α5) (hφ : φ b0 b1 b2 b3 b4 b5) (q0_ : Cn = C.n ∧ Cw = C.w0 ∧ CM = C.M ∧ C.D = D b0 b1 b2 b3 b4 b5) (hL : AllF (L b0 b1 b2 b3 b4 b5) E) (hH : Pick (Hs b0 b1 b2 b3 b4 b5) H) :
    X C (Exit.then (fun ac w => ∃ (b0 : α0) (b1 : α1) (b2 : α2) (b3 : α3) (b4 : α4) (b5 : α5), φ b0 b1 b2 b3 b4 b5 ∧ Fits Cn (D b0 b1 b2 b3 b4 b5) (L b0 b1 b2 b3 b4 b5) ac ∧ Inv Cw CM w (Hs b0 b1 b2 b3 b4 b5)) Q) .normal E H := have ⟨hn, hw, hM, hD⟩ := q0_; fun _ _ hf hi => ⟨b0, b1, b2, b3, b4, b5, hφ, by rw [hn, ← hD]; exact hf.all hL, by rw [hw, hM]; exact hi.pick hH⟩
theorem Zom {α0 α1 α2 α3 α4 α5 α6 α7 : Type} (φ : α0 → α1 → α2 → α3 → α4 → α5 → α6 → α7 → Prop) (L : α0 → α1 → α2 → α3 → α4 → α5 → α6 → α7 → Env) (Hs : α0 → α1 → α2 → α3 → α4 → α5 → α6 → α7 → Heap) (μ : α0 → α1 → α2 → α3 → α4 → α5 → α6 → α7 → Nat) (D : α0 → α1 → α2 → α3 → α4 → α5 → α6 → α7 → List Deferred) (a0 : α0) (a1 : α1) (a2 : α2) (a3 : α3) (a4 : α4) (a5 : α5) (a6 : α6) (a7 : α7) (hD : C.D = D a0 a1 a2 a3 a4 a5 a6 a7) (h0 : φ a0 a1 a2 a3 a4 a5 a6 a7) (hE : AllF (L a0 a1 a2 a3 a4 a5 a6 a7) E) (hH : Pick (Hs a0 a1 a2 a3 a4 a5 a6 a7) H)
    (round : ∀ (a0 : α0) (a1 : α1) (a2 : α2) (a3 : α3) (a4 : α4) (a5 : α5) (a6 : α6) (a7 : α7), φ a0 a1 a2 a3 a4 a5 a6 a7 → T { C with D := D a0 a1 a2 a3 a4 a5 a6 a7 } c (Exit.then (fun ac w => ∃ (b0 : α0) (b1 : α1) (b2 : α2) (b3 : α3) (b4 : α4) (b5 : α5) (b6 : α6) (b7 : α7), φ b0 b1 b2 b3 b4 b5 b6 b7 ∧ μ b0 b1 b2 b3 b4 b5 b6 b7 < μ a0 a1 a2 a3 a4 a5 a6 a7 ∧ Fits C.n (D b0 b1 b2 b3 b4 b5 b6 b7) (L b0 b1 b2 b3 b4 b5 b6 b7) ac ∧ Inv C.w0 C.M w (Hs b0 b1 b2 b3 b4 b5 b6 b7)) Q) (L a0 a1 a2 a3 a4 a5 a6 a7) (Hs a0 a1 a2 a3 a4 a5 a6 a7)) : T C (.loop c) Q E H :=
  T.loopEM (α := α0 × α1 × α2 × α3 × α4 × α5 × α6 × α7) (fun s => φ s.1 s.2.1 s.2.2.1 s.2.2.2.1 s.2.2.2.2.1 s.2.2.2.2.2.1 s.2.2.2.2.2.2.1 s.2.2.2.2.2.2.2) (fun s => L s.1 s.2.1 s.2.2.1 s.2.2.2.1 s.2.2.2.2.1 s.2.2.2.2.2.1 s.2.2.2.2.2.2.1 s.2.2.2.2.2.2.2) (fun s => Hs s.1 s.2.1 s.2.2.1 s.2.2.2.1 s.2.2.2.2.1 s.2.2.2.2.2.1 s.2.2.2.2.2.2.1 s.2.2.2.2.2.2.2) (fun s => μ s.1 s.2.1 s.2.2.1 s.2.2.2.1 s.2.2.2.2.1 s.2.2.2.2.2.1 s.2.2.2.2.2.2.1 s.2.2.2.2.2.2.2) (fun s => D s.1 s.2.1 s.2.2.1 s.2.2.2.1 s.2.2.2.2.1 s.2.2.2.2.2.1 s.2.2.2.2.2.2.1 s.2.2.2.2.2.2.2) (a0, a1, a2, a3, a4, a5, a6, a7) hD h0 hE hH (fun s hs => T.mono (round s.1 s.2.1 s.2.2.1 s.2.2.2.1 s.2.2.2.2.1 s.2.2.2.2.2.1 s.2.2.2.2.2.2.1 s.2.2.2.2.2.2.2 hs) (fun e ac w h => by
    cases e with
    | normal => obtain ⟨b0, b1, b2, b3, b4, b5, b6, b7, h1, h2, h3, h4⟩ := h; exact ⟨⟨b0, b1, b2, b3, b4, b5, b6, b7⟩, h1, h2, h3, h4⟩
    | _ => exact h))
theorem Zli {α0 α1 α2 α3 α4 α5 α6 α7 : Type} {φ : α0 → α1 → α2 → α3 → α4 → α5 → α6 → α7 → Prop} {L : α0 → α1 → α2 → α3 → α4 → α5 → α6 → α7 → Env} {Hs : α0 → α1 → α2 → α3 → α4 → α5 → α6 → α7 → Heap} {μ : α0 → α1 → α2 → α3 → α4 → α5 → α6 → α7 → Nat} {D : α0 → α1 → α2 → α3 → α4 → α5 → α6 → α7 → List Deferred} {Cn : Nat} {Cw : World} {CM : List Nat} {m : Nat} (b0 : α0) (b1 : α1) (b2 : α2) (b3 : α3) (b4 : α4) (b5 : α5) (b6 : α6) (b7 : α7) (hφ : φ b0 b1 b2 b3 b4 b5 b6 b7) (hμ : μ b0 b1 b2 b3 b4 b5 b6 b7 < m) (q0_ : Cn = C.n ∧ Cw = C.w0 ∧ CM = C.M ∧ C.D = D b0 b1 b2 b3 b4 b5 b6 b7) (hL : AllF (L b0 b1 b2 b3 b4 b5 b6 b7) E) (hH : Pick (Hs b0 b1 b2 b3 b4 b5 b6 b7) H) :
    X C (Exit.then (fun ac w => ∃ (b0 : α0) (b1 : α1) (b2 : α2) (b3 : α3) (b4 : α4) (b5 : α5) (b6 : α6) (b7 : α7), φ b0 b1 b2 b3 b4 b5 b6 b7 ∧ μ b0 b1 b2 b3 b4 b5 b6 b7 < m ∧ Fits Cn (D b0 b1 b2 b3 b4 b5 b6 b7) (L b0 b1 b2 b3 b4 b5 b6 b7) ac ∧ Inv Cw CM w (Hs b0 b1 b2 b3 b4 b5 b6 b7)) Q) .normal E H := have ⟨hn, hw, hM, hD⟩ := q0_; fun _ _ hf hi => ⟨b0, b1, b2, b3, b4, b5, b6, b7, hφ, hμ, by rw [hn, ← hD]; exact hf.all hL, by rw [hw, hM]; exact hi.pick hH⟩
end
end Go.Acq
namespace Go.Acq
open Go
end Go.Acq
namespace Go.Acq
open Go Go.RowKit
theorem mm0 {α : Type} {x : α} {l : List α} : x ∈ x :: l := .head _
theorem mm1 {α : Type} {a0 x : α} {l : List α} : x ∈ a0 :: x :: l := .tail _ mm0
theorem mm2 {α : Type} {a0 a1 x : α} {l : List α} : x ∈ a0 :: a1 :: x :: l := .tail _ mm1
theorem mm3 {α : Type} {a0 a1 a2 x : α} {l : List α} : x ∈ a0 :: a1 :: a2 :: x :: l := .tail _ mm2
theorem mm4 {α : Type} {a0 a1 a2 a3 x : α} {l : List α} : x ∈ a0 :: a1 :: a2 :: a3 :: x :: l := .tail _ mm3
theorem mm5 {α : Type} {a0 a1 a2 a3 a4 x : α} {l : List α} : x ∈ a0 :: a1 :: a2 :: a3 :: a4 :: x :: l := .tail _ mm4
theorem mm6 {α : Type} {a0 a1 a2 a3 a4 a5 x : α} {l : List α} : x ∈ a0 :: a1 :: a2 :: a3 :: a4 :: a5 :: x :: l := .tail _ mm5
theorem mm7 {α : Type} {a0 a1 a2 a3 a4 a5 a6 x : α} {l : List α} : x ∈ a0 :: a1 :: a2 :: a3 :: a4 :: a5 :: a6 :: x :: l := .tail _ mm6
theorem mm8 {α : Type} {a0 a1 a2 a3 a4 a5 a6 a7 x : α} {l : List α} : x ∈ a0 :: a1 :: a2 :: a3 :: a4 :: a5 :: a6 :: a7 :: x :: l := .tail _ mm7
theorem mm9 {α : Type} {a0 a1 a2 a3 a4 a5 a6 a7 a8 x : α} {l : List α} : x ∈ a0 :: a1 :: a2 :: a3 :: a4 :: a5 :: a6 :: a7 :: a8 :: x :: l := .tail _ mm8
theorem mm10 {α : Type} {a0 a1 a2 a3 a4 a5 a6 a7 a8 a9 x : α} {l : List α} : x ∈ a0 :: a1 :: a2 :: a3 :: a4 :: a5 :: a6 :: a7 :: a8 :: a9 :: x :: l := .tail _ mm9
theorem mm11 {α : Type} {a0 a1 a2 a3 a4 a5 a6 a7 a8 a9 a10 x : α} {l : List α} : x ∈ a0 :: a1 :: a2 :: a3 :: a4 :: a5 :: a6 :: a7 :: a8 :: a9 :: a10 :: x :: l := .tail _ mm10
theorem mm12 {α : Type} {a0 a1 a2 a3 a4 a5 a6 a7 a8 a9 a10 a11 x : α} {l : List α} : x ∈ a0 :: a1 :: a2 :: a3 :: a4 :: a5 :: a6 :: a7 :: a8 :: a9 :: a10 :: a11 :: x :: l := .tail _ mm11
theorem mm13 {α : Type} {a0 a1 a2 a3 a4 a5 a6 a7 a8 a9 a10 a11 a12 x : α} {l : List α} : x ∈ a0 :: a1 :: a2 :: a3 :: a4 :: a5 :: a6 :: a7 :: a8 :: a9 :: a10 :: a11 :: a12 :: x :: l := .tail _ mm12
theorem tk0 {x : Option Nat × Obj} {l : Heap} : Take x (x :: l) (l) := Take.head _ _
theorem tk1 {a0 x : Option Nat × Obj} {l : Heap} : Take x (a0 :: x :: l) (a0 :: l) := Take.tail tk0
theorem tk2 {a0 a1 x : Option Nat × Obj} {l : Heap} : Take x (a0 :: a1 :: x :: l) (a0 :: a1 :: l) := Take.tail tk1
theorem tk3 {a0 a1 a2 x : Option Nat × Obj} {l : Heap} : Take x (a0 :: a1 :: a2 :: x :: l) (a0 :: a1 :: a2 :: l) := Take.tail tk2
theorem tk4 {a0 a1 a2 a3 x : Option Nat × Obj} {l : Heap} : Take x (a0 :: a1 :: a2 :: a3 :: x :: l) (a0 :: a1 :: a2 :: a3 :: l) := Take.tail tk3
theorem tk5 {a0 a1 a2 a3 a4 x : Option Nat × Obj} {l : Heap} : Take x (a0 :: a1 :: a2 :: a3 :: a4 :: x :: l) (a0 :: a1 :: a2 :: a3 :: a4 :: l) := Take.tail tk4
theorem tk6 {a0 a1 a2 a3 a4 a5 x : Option Nat × Obj} {l : Heap} : Take x (a0 :: a1 :: a2 :: a3 :: a4 :: a5 :: x :: l) (a0 :: a1 :: a2 :: a3 :: a4 :: a5 :: l) := Take.tail tk5
theorem tk7 {a0 a1 a2 a3 a4 a5 a6 x : Option Nat × Obj} {l : Heap} : Take x (a0 :: a1 :: a2 :: a3 :: a4 :: a5 :: a6 :: x :: l) (a0 :: a1 :: a2 :: a3 :: a4 :: a5 :: a6 :: l) := Take.tail tk6
theorem tk8 {a0 a1 a2 a3 a4 a5 a6 a7 x : Option Nat × Obj} {l : Heap} : Take x (a0 :: a1 :: a2 :: a3 :: a4 :: a5 :: a6 :: a7 :: x :: l) (a0 :: a1 :: a2 :: a3 :: a4 :: a5 :: a6 :: a7 :: l) := Take.tail tk7
theorem tk9 {a0 a1 a2 a3 a4 a5 a6 a7 a8 x : Option Nat × Obj} {l : Heap} : Take x (a0 :: a1 :: a2 :: a3 :: a4 :: a5 :: a6 :: a7 :: a8 :: x :: l) (a0 :: a1 :: a2 :: a3 :: a4 :: a5 :: a6 :: a7 :: a8 :: l) := Take.tail tk8
theorem tk10 {a0 a1 a2 a3 a4 a5 a6 a7 a8 a9 x : Option Nat × Obj} {l : Heap} : Take x (a0 :: a1 :: a2 :: a3 :: a4 :: a5 :: a6 :: a7 :: a8 :: a9 :: x :: l) (a0 :: a1 :: a2 :: a3 :: a4 :: a5 :: a6 :: a7 :: a8 :: a9 :: l) := Take.tail tk9
theorem tk11 {a0 a1 a2 a3 a4 a5 a6 a7 a8 a9 a10 x : Option Nat × Obj} {l : Heap} : Take x (a0 :: a1 :: a2 :: a3 :: a4 :: a5 :: a6 :: a7 :: a8 :: a9 :: a10 :: x :: l) (a0 :: a1 :: a2 :: a3 :: a4 :: a5 :: a6 :: a7 :: a8 :: a9 :: a10 :: l) := Take.tail tk10
theorem tk12 {a0 a1 a2 a3 a4 a5 a6 a7 a8 a9 a10 a11 x : Option Nat × Obj} {l : Heap} : Take x (a0 :: a1 :: a2 :: a3 :: a4 :: a5 :: a6 :: a7 :: a8 :: a9 :: a10 :: a11 :: x :: l) (a0 :: a1 :: a2 :: a3 :: a4 :: a5 :: a6 :: a7 :: a8 :: a9 :: a10 :: a11 :: l) := Take.tail tk11
theorem Pick.tailM {X Es H' : Heap} (h : Pick H' Es) : Pick (X ++ H') (Es ++ X) := by
 obtain ⟨R, ns, hn, hp⟩ := h
 refine ⟨R, ns, hn, ?_⟩
 have e1 : List.Perm ((Es ++ X) ++ ns) (X ++ (Es ++ ns)) := by
  rw [← List.append_assoc]; exact List.Perm.append_right ns List.perm_append_comm
 rw [List.append_assoc X H' R]
 exact e1.trans (List.Perm.append_left X hp)
def Z8b : Value → Nat → Value
  | .agg cs, q => cs.getD q undef
  | _, _ => undef
theorem Gone.refl (R : Heap) : List.Perm R ([] ++ R) := List.Perm.refl R
section rules
variable {C : Cx} {ops : Array Oper} {Q : Exit → Act → World → Prop} {l : List Nat} {E : Env} {H R : Heap} {i d : Nat} {ty : TypeId} {pos : String} {af : Array Edge} {g : Option (Nat × Bool)}
theorem TO.nilCheck {x : Operand} {p : Addr} (q0_ : ops[i]? = some ⟨some d, .nilCheck x, ty, pos, af, g⟩ ∧ gdB ops E g = true ∧ Nat.ble (d + 1) C.n = true ∧ ev E x = some (.pointer (some p)))
    (k : TO C ops Q l ((d, .pointer (some p)) :: E) H) : TO C ops Q (i :: l) E H := have ⟨ho, hg, hd, hx⟩ := q0_;
  TO.val ho hg hd (by simp) (fun a w hf _ => by simp [execOp, hf.ev hx]) k
end rules
section rules
variable {C : Cx} {ops : Array Oper} {Q : Act → Prop} {l : List Nat} {E : Env} {H R : Heap} {i d : Nat} {ty : TypeId} {pos : String} {af : Array Edge} {g : Option (Nat × Bool)}
theorem TQ.nilCheck {x : Operand} {p : Addr} (q0_ : ops[i]? = some ⟨some d, .nilCheck x, ty, pos, af, g⟩ ∧ gdB ops E g = true ∧ Nat.ble (d + 1) C.n = true ∧ ev E x = some (.pointer (some p)))
    (k : TQ C ops Q l ((d, .pointer (some p)) :: E) H) : TQ C ops Q (i :: l) E H := have ⟨ho, hg, hd, hx⟩ := q0_;
  TQ.val ho hg hd (by simp) (fun a w hf _ => by simp [execOp, hf.ev hx]) k
end rules
section draw
variable {C : Cx} {ops : Array Oper} {Q : Exit → Act → World → Prop} {E : Env} {H : Heap}
theorem Zbe {A B Tl : Heap} (X Hx : Heap) : List.Perm (X ++ ((A ++ Tl) ++ (B ++ Hx))) (X ++ (A ++ (B ++ (Tl ++ Hx)))) := by
 refine List.Perm.append_left X ?_
 rw [List.append_assoc]
 refine List.Perm.append_left A ?_
 rw [← List.append_assoc, ← List.append_assoc]
 exact List.Perm.append_right Hx List.perm_append_comm
theorem ObQ.tail {S : List Sp} {W : Env} {Hc : Heap} {i : Nat} (Tl : Heap) (h : ObQ C ops Q S W Hc i) : ObQ C ops Q S W (Hc ++ Tl) i := by
 intro vs es Es Hx hr a w hf hi
 refine Zbb (l2 := []) (fun e a w hne hq => ?_) (fun a w hq => ?_) [i] a w (h vs es Es (Tl ++ Hx) hr a w hf (hi.perm (Zbe [] Hx)))
 · cases e <;> first | exact absurd rfl hne | exact hq
 ·
  obtain ⟨v, e', h1, h2, h3⟩ := hq
  exact ⟨v, e', h1, h2, h3.perm (Zbe e' Hx).symm⟩
theorem ObE.tail {S : List Sp} {HR : Nat → List Value → Heap → Prop} {hd : List (List Nat)} {W : Env} {Hc : Heap} {i : Nat} (Tl : Heap) (h : ObE C ops Q S HR hd W Hc i) : ObE C ops Q S HR hd W (Hc ++ Tl) i := by
 intro vs es Es Hx hb hr hh a w hf hi
 refine Zbb (l2 := []) (fun e a w hne hq => ?_) (fun a w hq => ?_) [i] a w (h vs es Es (Tl ++ Hx) hb hr hh a w hf (hi.perm (Zbe hb Hx)))
 · cases e <;> first | exact absurd rfl hne | exact hq
 ·
  obtain ⟨v, hb', h1, h2, h3, h4⟩ := hq
  exact ⟨v, hb', h1, h2, h3, h4.perm (Zbe hb' Hx).symm⟩
theorem ObsG.tail {S : List Sp} {HR : Nat → List Value → Heap → Prop} {hd : List (List Nat)} {W : Env} {Hc : Heap} (Tl : Heap) : ∀ {l : List Nat}, ObsG C ops Q S HR hd W Hc l → ObsG C ops Q S HR hd W (Hc ++ Tl) l
 | [], _ => trivial
 | i :: l, ⟨h1, h2⟩ => by
  refine ⟨?_, ObsG.tail Tl h2⟩
  cases he : Z6m S i with
  | true => rw [he] at h1; exact ObE.tail Tl h1
  | false => rw [he] at h1; exact ObQ.tail Tl h1
theorem T.drawLT {id : Nat} (S : List Sp) (sl : List Nat) (m : Nat) (HR : Nat → List Value → Heap → Prop) (hd : List (List Nat)) (hb0 Hc Tl : Heap)
    (hm : C.P.follows .mixedOrders = true) (hsm : S.length = m) (hsl : Z6p ops (List.range m) = sl) (hb : Zej ops = true) (ht : Zfc ops m = true) (hgood : Zfl ops S hd = true) (hms : Nat.ble m ops.size = true)
    (hn : Zbf sl = true) (h0 : HR 0 [] hb0) (hH : Pick (hb0 ++ (Hc ++ Tl)) H)
    (obs : ObsG C ops Q S HR hd (wo sl E) Hc (List.range m))
    (k : ∀ (vs : Nat → Value) (es : Nat → Heap) (hb : Heap), Zd6 S vs es (List.range m) → HR ((List.range m).filter (Z6m S)).length ((hd.getD ((List.range m).filter (Z6m S)).length []).map vs) hb →
      TO C ops Q (List.range' m (ops.size - m)) (Z3b ops vs (List.range m) ++ wo sl E) ((hb ++ (Hc ++ Z3j es ((List.range m).filter fun j => !Z3r S j))) ++ Tl)) :
    T C (.region id ops true) Q E H :=
  Z9q S sl m HR hd hb0 (Hc ++ Tl) hm hsm hsl hb ht hgood hms hn h0 hH (ObsG.tail Tl obs) fun vs es hb h1 h2 a w hf hi => k vs es hb h1 h2 a w hf (hi.perm (by
    simp only [List.append_assoc]
    exact List.Perm.append_left hb (List.Perm.append_left Hc List.perm_append_comm)))
end draw
end Go.Acq
namespace Go.Acq
open Go
structure Chan where
  cap : Nat
  buf : List Int
  deriving DecidableEq
instance : Inhabited Chan := ⟨⟨0, []⟩⟩
def Chan.put (x : Chan) (v : Int) : Chan := ⟨x.cap, x.buf ++ [v]⟩
def Chan.cut (x : Chan) : Chan := ⟨x.cap, x.buf.tail⟩
end Go.Acq
namespace Go.Acq
open Go Go.RowKit Go.Conc
def wpK (P : Program) (c : Code) (Q : Exit → Act → World → Prop) (a : Act) (w : World) : Prop :=
  ∀ (b : Frame) (k : List Item) (cs : List Frame), b.kind ≠ .early → b.roundOf = none →
    ∃ e a' w', Q e a' w' ∧ ArrivesIn (Machine.fenced P (FW none)) P (lone (b.atR a (.code c :: k)) cs w) b k cs e a' w'
def wpOK (P : Program) (ops : Array Oper) (Q : Exit → Act → World → Prop) (l : List Nat) (a : Act) (w : World) : Prop :=
  ∀ (b : Frame) (k : List Item) (cs : List Frame), b.kind ≠ .early → b.roundOf = none →
    ∃ e a' w', Q e a' w' ∧ ArrivesIn (Machine.fenced P (FW none)) P (lone (b.atR a (.inRegion ops l :: k)) cs w) b k cs e a' w'
def TK (C : Cx) (c : Code) (Q : Exit → Act → World → Prop) (E : Env) (H : Heap) : Prop := ∀ a w, Fits C.n C.D E a → Inv C.w0 C.M w H → wpK C.P c Q a w
def TOK (C : Cx) (ops : Array Oper) (Q : Exit → Act → World → Prop) (l : List Nat) (E : Env) (H : Heap) : Prop := ∀ a w, Fits C.n C.D E a → Inv C.w0 C.M w H → wpOK C.P ops Q l a w
theorem Zhv (n : Nat) : (FW none).room n := fun d hd => by cases hd
section
variable {C : Cx} {Q : Exit → Act → World → Prop} {E E' : Env} {H H' R : Heap} {x y c : Code} {ops : Array Oper} {l : List Nat} {i d : Nat} {ty : TypeId} {pos : String} {af : Array Edge} {g : Option (Nat × Bool)}
theorem TK.ofT (hρ : C.ρ = none) (h : T C c Q E H) : TK C c Q E H := fun a w hf hi b k cs _ hro => by
 have := h a w hf hi
 rw [hρ] at this
 exact this b k cs hro trivial (Zhv _)
theorem TK.seq (h : TK C x (Exit.then (wpK C.P y Q) Q) E H) : TK C (.seq x y) Q E H := fun a w hf hi b k cs hk hro => by
 have h0 : (lone (b.atR a (.code (.seq x y) :: k)) cs w).fenced C.P (FW none) := fenced_calm trivial (Zhv (cs.length + 1 + 0)) rfl
 obtain ⟨e, a₁, w₁, hq, harr⟩ := h a w hf hi b (.code y :: k) cs hk hro
 cases e with
 | normal =>
  obtain ⟨e₂, a₂, w₂, hq₂, harr₂⟩ := hq b k cs hk hro
  exact ⟨e₂, a₂, w₂, hq₂, .of_steps (.head h0 stepR_seq harr) harr₂⟩
 | exit id => exact ⟨_, a₁, w₁, hq, .of_steps (.one h0 stepR_seq) (.pass (x := .code y) rfl (fun _ _ => .inl (by simp)) harr)⟩
 | goto l => exact ⟨_, a₁, w₁, hq, .of_steps (.one h0 stepR_seq) (.pass (x := .code y) rfl (fun _ _ => .inl (by simp)) harr)⟩
 | ret => exact ⟨_, a₁, w₁, hq, .of_steps (.one h0 stepR_seq) (.pass (x := .code y) rfl (fun _ _ => .inl (by simp)) harr)⟩
 | panic ch => exact ⟨_, a₁, w₁, hq, .of_steps (.one h0 stepR_seq) (.pass (x := .code y) rfl (fun _ _ => .inl (by simp)) harr)⟩
 | outgrown => exact ⟨_, a₁, w₁, hq, .of_steps (.one h0 stepR_seq) (.pass (x := .code y) rfl (fun _ _ => .inl (by simp)) harr)⟩
theorem TK.block {id : Nat} (h : TK C c (Exit.inBlock id Q) E H) : TK C (.block id c) Q E H := fun a w hf hi b k cs hk hro => by
 have h0 : (lone (b.atR a (.code (.block id c) :: k)) cs w).fenced C.P (FW none) := fenced_calm trivial (Zhv (cs.length + 1 + 0)) rfl
 obtain ⟨e, a₁, w₁, hq, harr⟩ := h a w hf hi b (.inBlock id :: k) cs hk hro
 cases e with
 | normal => exact ⟨.normal, a₁, w₁, hq, .head h0 stepR_block (StepsIn.trans harr (.one (fenced_calm trivial (Zhv (cs.length + 1 + 0)) rfl) stepR_inBlock))⟩
 | exit id' =>
  by_cases hid : id' = id
  ·
   simp only [Exit.inBlock, hid, if_true] at hq
   exact ⟨.normal, a₁, w₁, hq, .head h0 stepR_block (harr.1 k (by simp [exitTo, hid]))⟩
  ·
   simp only [Exit.inBlock, hid, if_false] at hq
   have this : (id == id') = false := by simp; exact fun h => hid h.symm
   have hx : exitTo id' (.inBlock id :: k) = exitTo id' k := by simp [exitTo, this]
   exact ⟨.exit id', a₁, w₁, hq, fun k' hk => .head h0 stepR_block (harr.1 k' (by rw [hx]; exact hk)),
    fun hr' hk => let ⟨k₁, h1, h2⟩ := harr.2 hr' (by rw [hx]; exact hk); ⟨k₁, h1, .head h0 stepR_block h2⟩⟩
 | goto l =>
  have hx : gotoIn l (.inBlock id :: k) = gotoIn l k := by simp [gotoIn]
  exact ⟨_, a₁, w₁, hq, fun k' hk => .head h0 stepR_block (harr.1 k' (by rw [hx]; exact hk)),
   fun hr' hk => let ⟨k₁, h1, h2⟩ := harr.2 hr' (by rw [hx]; exact hk); ⟨k₁, h1, .head h0 stepR_block h2⟩⟩
 | ret => exact ⟨_, a₁, w₁, hq, .of_steps (.one h0 stepR_block) harr⟩
 | panic ch => exact ⟨_, a₁, w₁, hq, .of_steps (.one h0 stepR_block) harr⟩
 | outgrown => exact ⟨_, a₁, w₁, hq, .of_steps (.one h0 stepR_block) harr⟩
theorem Zl0 {o : Operand} {t : Bool} (ho : ev E o = some (.bool t)) (h : TK C (if t then x else y) Q E H) : TK C (.cond o x y) Q E H := fun a w hf hi b k cs hk hro =>
 let ⟨e, a', w', q, r⟩ := h a w hf hi b k cs hk hro; ⟨e, a', w', q, .of_steps (.one (fenced_calm trivial (Zhv (cs.length + 1 + 0)) rfl) (stepR_cond (hf.ev ho))) r⟩
theorem TK.condT {o : Operand} {b : Bool} (ho : ev E o = some (.bool b)) (hb : b = true) (ht : TK C x Q E H) : TK C (.cond o x y) Q E H := by subst hb; exact Zl0 ho ht
theorem TK.condF {o : Operand} {b : Bool} (ho : ev E o = some (.bool b)) (hb : b = false) (ht : TK C y Q E H) : TK C (.cond o x y) Q E H := by subst hb; exact Zl0 ho ht
theorem TK.condPT {o : Operand} {p : Prop} {hp : Decidable p} (ho : ev E o = some (.bool (@decide p hp))) (hb : p) (ht : TK C x Q E H) : TK C (.cond o x y) Q E H := TK.condT ho (decide_eq_true hb) ht
theorem TK.condPF {o : Operand} {p : Prop} {hp : Decidable p} (ho : ev E o = some (.bool (@decide p hp))) (hb : ¬p) (ht : TK C y Q E H) : TK C (.cond o x y) Q E H := TK.condF ho (decide_eq_false hb) ht
theorem TK.skip (hρ : C.ρ = none) (h : X C Q .normal E H) : TK C .skip Q E H := TK.ofT hρ (T.skip h)
theorem TK.ret (hρ : C.ρ = none) (h : X C Q .ret E H) : TK C .ret Q E H := TK.ofT hρ (T.ret h)
theorem TK.weak (h : TK C c Q E' H') (hE : ∀ t v, Z43 E' t = some v → Z43 E t = some v) (hH : Pick H' H) : TK C c Q E H := fun a w hf hi => h a w (hf.weak hE) (hi.pick hH)
theorem TK.trim (h : AllF E' E) (k : TK C c Q E' H) : TK C c Q E H := fun a w hf hi => k a w (hf.weak fun t v hv => h.sub t v hv) hi
theorem TK.region {id : Nat} {ll : List Nat} (hl : List.range ops.size = ll) (h : TOK C ops Q ll E H) : TK C (.region id ops false) Q E H := fun a w hf hi b k cs hk hro => by
 subst hl
 exact let ⟨e, a', w', q, r⟩ := h a w hf hi b k cs hk hro; ⟨e, a', w', q, .of_steps (.one (fenced_calm trivial (Zhv (cs.length + 1 + 0)) rfl) stepR_region) r⟩
theorem wpQ_K {P : Program} {K : World → Prop} (l2 : List Nat) (l : List Nat) : ∀ a : Act, wpQ P ops K (fun a => ∀ w, K w → wpOK P ops Q l2 a w) l a → ∀ w, K w → wpOK P ops Q (l ++ l2) a w := by
 induction l with
 | nil => exact fun a h w hw => h w hw
 | cons i rest ih =>
  intro a h w hw b k cs hk hro
  have hb : (FW none).fn b.fn := trivial
  have hr := Zhv (cs.length + 1 + 0)
  simp only [wpQ] at h
  show ∃ e a' w', Q e a' w' ∧ ArrivesIn (Machine.fenced P (FW none)) P (lone (b.atR a (.inRegion ops (i :: (rest ++ l2)) :: k)) cs w) b k cs e a' w'
  cases ho : ops[i]? with
  | none =>
   simp only [ho] at h
   obtain ⟨e, a', w', hq, harr⟩ := ih a h w hw b k cs hk hro
   have hs := stepR_op_skip (P := P) (b := b) (a := a) (k := k) (cs := cs) (w := w) (ops := ops) (i := i) (rest := rest ++ l2) (by simp [ho])
   simp only [ho, Option.bind_none, Act.put] at hs
   exact ⟨e, a', w', hq, .of_steps (.one (fenced_noOper hb hr ho) hs) harr⟩
  | some o =>
   simp only [ho] at h
   obtain ⟨hnd, hns, h⟩ := h
   have h0 : (lone (b.atR a (.inRegion ops (i :: (rest ++ l2)) :: k)) cs w).fenced P (FW none) := fenced_oper hb hr ho (fun _ _ => trivial)
   by_cases hx : Region.wanted o (yielded ops a.tmps) = true
   ·
    rw [if_pos hx] at h
    obtain ⟨v, h1, h2⟩ := h
    have h1 := h1 w hw
    generalize he : (execOp a.eval o).run P w = z at h1
    unfold Zec at h1
    split at h1
    ·
     obtain ⟨rfl, rfl⟩ := h1
     obtain ⟨e, a', w', hq, harr⟩ := ih _ h2 _ hw b k cs hk hro
     refine ⟨e, a', w', hq, .of_steps (.one h0 ?_) harr⟩
     rw [Frame.atR_of_none hro, Frame.atR_of_none hro]
     exact step_solo_go rfl (stepG_value ho hx hk he)
    ·
     obtain ⟨rfl, h1⟩ := h1
     rename_i f args w0
     obtain ⟨e, w'', fr, ⟨rfl, hw''⟩, hsteps, hfn, hleave⟩ := ((callsIn_FW (ρ := none) (n := 0)).2 h1).2 (b.atR a (.inRegion ops (i :: (rest ++ l2)) :: k) :: cs) (Zhv _)
     have henter : step P (lone (b.atR a (.inRegion ops (i :: (rest ++ l2)) :: k)) cs w0) = .next (lone (Frame.enter P f args .normal) (b.atR a (.inRegion ops (i :: (rest ++ l2)) :: k) :: cs) w0) :=
      step_lone_go (by rw [stepGR_op ho hx, Oper.semAt_eq _ _ _ hnd]; simp [stepG.apply, he, Frame.atR])
     have hl : (lone fr (b.atR a (.inRegion ops (i :: (rest ++ l2)) :: k) :: cs) w'').fenced P (FW none) := fenced_leaving (n := 0) trivial (Zhv _) hleave
     obtain ⟨e, a', w₃, hq, harr⟩ := ih _ h2 _ hw'' b k cs hk hro
     refine ⟨e, a', w₃, hq, .of_steps (.head h0 henter (StepsIn.trans hsteps (.one hl ?_))) harr⟩
     have hfin : (b.atR a (.inRegion ops (i :: (rest ++ l2)) :: k)).finish v = b.atR (a.put o.dst v) (.inRegion ops (rest ++ l2) :: k) := by rw [Frame.finish_atR, ho]; rfl
     rw [← hfin]; exact step_leave_returned hleave
    · exact h1.elim
   ·
    rw [if_neg hx] at h
    obtain ⟨e, a', w', hq, harr⟩ := ih _ h w hw b k cs hk hro
    have hs := stepR_op_skip (P := P) (b := b) (a := a) (k := k) (cs := cs) (w := w) (ops := ops) (i := i) (rest := rest ++ l2) (by simp [ho]; simpa using hx)
    simp only [ho, Option.bind_some] at hs
    exact ⟨e, a', w', hq, .of_steps (.one h0 hs) harr⟩
theorem TOK.pre (l1 l2 : List Nat) {l : List Nat} (hl : l1 ++ l2 = l) (h : TQ C ops (fun a => ∀ w, Inv C.w0 C.M w H → wpOK C.P ops Q l2 a w) l1 E H) : TOK C ops Q l E H := fun a w hf hi => by
 subst hl
 exact wpQ_K l2 l1 a (h a hf) w hi
end
end Go.Acq
namespace Go.Acq
open Go Go.RowKit
section rules
variable {C : Cx} {ops : Array Oper} {Q : Exit → Act → World → Prop} {l : List Nat} {E : Env} {H R : Heap} {i d : Nat} {ty : TypeId} {pos : String} {af : Array Edge} {g : Option (Nat × Bool)}
end rules
end Go.Acq
namespace Go.Acq
open Go Go.RowKit
section
variable {α : Type} {w0 w : World} {M M' : List Nat} {f : α → List Value} {s n c : Nat} {base : Option Addr} {xs ys : List α} {ob : Option Nat} {j : List Value} {H Hm R : Heap} {T' : TypeId} {fr : Nat × Nat}
def Seen (w0 : World) (M : List Nat) (f : α → List Value) (s : Nat) (base : Option Addr) (n c : Nat) (xs ys : List α) (ob : Option Nat) : Prop :=
  (base = sb ob ∧ ys = xs ∧ xs.length = n ∧ n ≤ c ∧ (ob = none → c = 0)) ∨ RS w0 M f s base n c xs
theorem Seen.own (hn : xs.length = n) (hc : n ≤ c) (hz : ob = none → c = 0) : Seen w0 M f s (sb ob) n c xs xs ob := .inl ⟨rfl, rfl, hn, hc, hz⟩
theorem Seen.ro (h : RS w0 M f s base n c xs) : Seen w0 M f s base n c xs [] none := .inr h
theorem Seen.len (h : Seen w0 M f s base n c xs ys ob) : xs.length = n := h.elim (fun h => h.2.2.1) (fun h => h.len)
theorem Seen.cap (h : Seen w0 M f s base n c xs ys ob) : n ≤ c := h.elim (fun h => h.2.2.2.1) (fun h => h.cap)
theorem Seen.nil (h : Seen w0 M f s base n c xs ys ob) (hb : base = none) : n = 0 := by
 rcases h with ⟨h1, h2, h3, h4, h5⟩ | h
 ·
  cases ob with
  | none => have := h5 rfl; omega
  | some b => rw [h1] at hb; cases hb
 · exact h.ro.nil hb
theorem Seen.rs (h : Seen w0 M f s base n c xs ys ob) (hf : ∀ x, (f x).length = s) (hi : Inv w0 M w H) (hm : (ob, Obj.cells (arr f ys j).toArray T' fr) ∈ H) : RS w [] f s base n c xs := by
 rcases h with ⟨rfl, rfl, h3, h4, h5⟩ | h
 · exact hi.rs hf hm h3 h4 h5
 · exact h.mono hi
theorem Seen.rsM (h : Seen w0 M f s base n c xs ys ob) (hf : ∀ x, (f x).length = s) (hs : 0 < s) (hi : Inv w0 M w H) (hp : List.Perm H (Hm ++ R)) (hM : Hm.filterMap (·.1) = M') (hm : (ob, Obj.cells (arr f ys j).toArray T' fr) ∈ R) : RS w M' f s base n c xs := by
 rcases h with ⟨rfl, rfl, h3, h4, h5⟩ | h
 · exact hi.rsM hf hp hM hm h3 h4 h5
 · exact h.monoM hs hi hp hM
end
section rules
variable {C : Cx} {ops : Array Oper} {Q : Exit → Act → World → Prop} {l : List Nat} {E : Env} {H R : Heap} {i d : Nat} {ty : TypeId} {pos : String} {af : Array Edge} {g : Option (Nat × Bool)}
theorem T.label {c : Nat} (h : X C Q .normal E H) : T C (.label c) Q E H := fun a w hf hi => wpIn_label (h a w hf hi)
theorem T.scope {c : Code} (hρ : C.ρ = none) (h : T C c (Exit.noGoto Q) E H) : T C (.scope c) Q E H := fun a w hf hi => by
 have h1 := h a w hf hi
 rw [hρ] at h1 ⊢
 exact wpIn_wide.2 (wp_scope_straight (wpIn_wide.1 h1))
theorem Zfs (h : X C Q .ret E H) : X C (Exit.noGoto Q) .ret E H := h
end rules
end Go.Acq
namespace Go.Acq
end Go.Acq
namespace Go.Acq
open Go Go.RowKit
set_option linter.unusedSimpArgs false
section
variable {α : Type} {q : IntKind} {f : α → Value} {k : Int × Int} {z v : α}
end
section
variable {P : Program} {w : World} {kt i : TypeId} {q : IntKind}
end
section rules
variable {C : Cx} {ops : Array Oper} {Q : Exit → Act → World → Prop} {l : List Nat} {E : Env} {H R : Heap} {i d : Nat} {ty : TypeId} {pos : String} {af : Array Edge} {g : Option (Nat × Bool)}
variable {α : Type} {q : IntKind} {f : α → Value}
end rules
end Go.Acq
namespace Go.Acq
open Go
end Go.Acq
namespace Go.Acq
open Go Go.RowKit
section rules
variable {C : Cx} {ops : Array Oper} {Q : Exit → Act → World → Prop} {l : List Nat} {E : Env} {H R : Heap} {i d : Nat} {ty : TypeId} {pos : String} {af : Array Edge} {g : Option (Nat × Bool)}
end rules
end Go.Acq
namespace Go.Acq
open Go Go.RowKit
def Kept (ob obK ob' : Option Nat) : Prop := obK = ob ∨ (obK = none ∧ ob' = ob)
section rules
variable {C : Cx} {ops : Array Oper} {Q : Exit → Act → World → Prop} {l : List Nat} {E : Env} {H R : Heap} {i d : Nat} {ty : TypeId} {pos : String} {af : Array Edge} {g : Option (Nat × Bool)}
theorem Kept.rs {α : Type} {w0 w : World} {M : List Nat} {f : α → List Value} {s n c n2 c2 : Nat} {ob obK ob' : Option Nat} {xs ys : List α} {j j' : List Value} {T T' : TypeId} {fr fr' : Nat × Nat} (h : Kept ob obK ob') (hi : Inv w0 M w H) (hf : ∀ x, (f x).length = s)
    (hm2 : (ob', Obj.cells (arr f (xs ++ ys) j').toArray T' fr') ∈ H) (hmK : (obK, Obj.cells (arr f xs j).toArray T fr) ∈ H) (hn2 : (xs ++ ys).length = n2) (hc2 : n2 ≤ c2) (h02 : ob' = none → c2 = 0) (hn : xs.length = n) (hc : n ≤ c) (h0 : ob = none → c = 0) : RS w [] f s (sb ob) n c xs := by
  rcases h with rfl | ⟨rfl, rfl⟩
  · exact hi.rs hf hmK hn hc h0
  · have h1 := hi.rs hf hm2 hn2 hc2 h02
    have h2 := h1.take (p := (n : Int)) ⟨Int.natCast_nonneg n, by rw [List.length_append]; omega⟩
    rw [Int.toNat_natCast, List.take_left' hn] at h2
    exact ⟨h2.ro, fun _ _ _ => by simp, hc⟩
end rules
end Go.Acq
namespace Go.Acq
open Go Go.RowKit
set_option linter.unusedSimpArgs false
set_option linter.unusedVariables false
section
variable {C : Cx} {ops : Array Oper} {Q : Exit → Act → World → Prop} {E : Env} {H : Heap}
def ObE2 (C : Cx) (ops : Array Oper) (Q : Exit → Act → World → Prop) (S : List Sp) (HR : Nat → List Value → Heap → Prop) (hd : List (List Nat)) (W : Env) (Hc : Heap) (i : Nat) : Prop :=
  ∀ (vs : Nat → Value) (es : Nat → Heap) (Es : Env) (Hx hb : Heap), Zd6 S vs es (Z20 S i) → HR (Zcc S i) ((hd.getD (Zcc S i) []).map vs) hb →
    TO C ops (fun e a w => match e with
      | .normal => ∃ v hb' e', Zf2 S i ((Z20 S i).map vs) v e' ∧ HR (Zcc S i + 1) ((hd.getD (Zcc S i + 1) []).map (fun j => cond (Nat.beq j i) v (vs j))) hb' ∧
          Fits C.n C.D (Zfg (Z2s ops i) v (Z3b ops vs (Z20 S i) ++ (W ++ Es))) a ∧ Inv C.w0 C.M w (hb' ++ (Hc ++ (e' ++ (Z3j es (Z20 S i) ++ Hx))))
      | e => Q e a w) [i] (Z3b ops vs (Z20 S i) ++ (W ++ Es)) (hb ++ (Hc ++ (Z3j es (Z20 S i) ++ Hx)))
def ObsG2 (C : Cx) (ops : Array Oper) (Q : Exit → Act → World → Prop) (S : List Sp) (HR : Nat → List Value → Heap → Prop) (hd : List (List Nat)) (W : Env) (Hc : Heap) : List Nat → Prop
  | [] => True
  | i :: l => (cond (Z6m S i) (ObE2 C ops Q S HR hd W Hc i) (ObQ C ops Q S W Hc i)) ∧ ObsG2 C ops Q S HR hd W Hc l
theorem ObsG2.get {S : List Sp} {HR : Nat → List Value → Heap → Prop} {hd : List (List Nat)} {W : Env} {Hc : Heap} : ∀ {l : List Nat}, ObsG2 C ops Q S HR hd W Hc l → ∀ i, i ∈ l → (cond (Z6m S i) (ObE2 C ops Q S HR hd W Hc i) (ObQ C ops Q S W Hc i))
 | [], _, i, h => by cases h
 | j :: l, ⟨h1, h2⟩, i, h => by
  rcases List.mem_cons.1 h with rfl | h
  · exact h1
  · exact ObsG2.get h2 i h
theorem T.drawG2 {id : Nat} (S : List Sp) (HR : Nat → List Value → Heap → Prop) (hd : List (List Nat)) (hb0 Hc : Heap)
    (hm : C.P.follows .mixedOrders = true) (hb : Zej ops = true) (ht : Zfc ops S.length = true) (hgood : Zfl ops S hd = true) (hms : Nat.ble S.length ops.size = true)
    (hn : Zbf (Z6p ops (List.range S.length)) = true) (h0 : HR 0 [] hb0) (hH : Pick (hb0 ++ Hc) H)
    (obs : ObsG2 C ops Q S HR hd (wo (Z6p ops (List.range S.length)) E) Hc (List.range S.length))
    (k : ∀ (vs : Nat → Value) (es : Nat → Heap) (hb : Heap), Zd6 S vs es (List.range S.length) → HR ((List.range S.length).filter (Z6m S)).length ((hd.getD ((List.range S.length).filter (Z6m S)).length []).map vs) hb →
      TO C ops Q (List.range' S.length (ops.size - S.length)) (Z3b ops vs (List.range S.length) ++ wo (Z6p ops (List.range S.length)) E) (hb ++ (Hc ++ Z3j es ((List.range S.length).filter fun j => !Z3r S j)))) :
    T C (.region id ops true) Q E H := by
  intro a w hf hi
  have hms' := Nat.le_of_ble_eq_true hms
  have hnd := Z60 hn
  simp only [Zfl, Bool.and_eq_true] at hgood
  obtain ⟨hg, hd0⟩ := hgood
  have hg' : ∀ i, i < S.length → _ := fun i hi => List.all_eq_true.1 hg i (List.mem_range.2 hi)
  have hd0' : hd.getD 0 [] = [] := by simpa using hd0
  let W := wo (Z6p ops (List.range S.length)) E
  have hW : ∀ t v, Z43 W t = some v → Z43 E t = some v ∧ ∀ j, j < S.length → Z2s ops j ≠ some t := fun t v h => by
    obtain ⟨h1, h2⟩ := Zdh E _ t v h
    exact ⟨h2, fun j hj hs => h1 (mem_slotsG.2 ⟨j, List.mem_range.2 hj, hs⟩)⟩
  let rk : (Nat → Bool) → Nat := fun done => ((List.range S.length).filter (fun i => Z6m S i && done i)).length
  refine Z9b (m := S.length) (Jp := fun done a w => ∃ (vs : Nat → Value) (es : Nat → Heap) (hb : Heap) (Es : Env),
      Fits C.n C.D Es a ∧ (∀ j d, j < S.length → done j = true → Z2s ops j = some d → Z43 Es d = some (vs j)) ∧ (∀ t v, Z43 W t = some v → Z43 Es t = some v) ∧
      (∀ j, j < S.length → done j = true → Zf2 S j ((Z20 S j).map vs) (vs j) (es j)) ∧ (∀ j, j ∈ hd.getD (rk done) [] → j < S.length ∧ done j = true) ∧
      HR (rk done) ((hd.getD (rk done) []).map vs) hb ∧ Inv C.w0 C.M w (hb ++ (Hc ++ Z2n es (Z3w S done) (List.range S.length))))
    hm hb ht hms' ?_ ?_ ?_
  · rintro done i o a w hil ho hdi hcl hafter _ ⟨vs, es, hb, Es, hfit, hfacts, hbase, hrels, hhd, hHR, hinv⟩
    have hgi := hg' i hil
    simp only [Bool.and_eq_true] at hgi
    obtain ⟨⟨⟨⟨hdeps, hdnd⟩, heat⟩, heate⟩, heffs⟩ := hgi
    have hdone : ∀ j, Zak ops ops.size i j = true → done j = true := fun j hj => Z44 hcl _ i j hj (fun o' ho' => by rw [ho] at ho'; injection ho' with ho'; subst ho'; exact hafter)
    have hdd : ∀ j, j ∈ Z20 S i → j < S.length ∧ done j = true := fun j hj => by
      have := List.all_eq_true.1 hdeps j hj
      simp only [Bool.and_eq_true] at this
      exact ⟨by simpa using this.1, hdone j this.2⟩
    have hreld : Zd6 S vs es (Z20 S i) := Zbu fun j hj => hrels j (hdd j hj).1 (hdd j hj).2
    have heat' : ∀ q, q < S.length → ∀ j, j ∈ Za5 S q → j < q ∧ j ∈ Z20 S q ∧ ∀ p, p < S.length → p ≠ q → j ∉ Za5 S p ∧ (j ∈ Z20 S p → Zak ops ops.size q p = true) := by
      intro q hq j hj
      have h1 := hg' q hq
      simp only [Bool.and_eq_true] at h1
      have h2 := List.all_eq_true.1 h1.1.1.2 j hj
      simp only [Bool.and_eq_true] at h2
      refine ⟨by simpa using h2.1.1, any_beq.1 h2.1.2, fun p hp hpq => ?_⟩
      have h3 := List.all_eq_true.1 h2.2 p (List.mem_range.2 hp)
      simp only [Bool.or_eq_true, Bool.and_eq_true, Bool.not_eq_true'] at h3
      rcases h3 with h3 | ⟨h3, h4⟩
      · exact absurd (Nat.eq_of_beq_eq_true h3) hpq
      · refine ⟨fun hm => (by rw [any_beq.2 hm] at h3; cases h3), fun hm => ?_⟩
        rcases h4 with h4 | h4
        · rw [any_beq.2 hm] at h4; cases h4
        · exact h4
    have hcl' : ∀ q, q < S.length → done q = true → ∀ p, Zak ops ops.size q p = true → done p = true := fun q hq hdq p hqp =>
      Z44 hcl _ q p hqp (fun o' ho' => hcl q o' ho' hdq)
    have hlive : ∀ j, j ∈ Z20 S i → Z3w S done j = true := by
      intro j hj
      unfold Z3w
      rw [(hdd j hj).2, Bool.true_and, Bool.not_eq_true', Bool.eq_false_iff]
      intro he
      obtain ⟨q, hq, h2⟩ := List.any_eq_true.1 he
      simp only [Bool.and_eq_true] at h2
      have hqS := List.mem_range.1 hq
      have hqi : q ≠ i := by rintro rfl; rw [hdi] at h2; cases h2.1
      have h3 := ((heat' q hqS j (any_beq.1 h2.2)).2.2 i hil (fun e => hqi e.symm)).2 hj
      have := hcl' q hqS h2.1 i h3
      rw [hdi] at this; cases this
    have hiD : i ∉ Z20 S i := fun hm => by
      have := (hdd i hm).2
      rw [hdi] at this; cases this
    have hstepL : ∀ j, j ≠ i → Z3w S (fun q => if q = i then true else done q) j = (Z3w S done j && !(Za5 S i).any (Nat.beq j)) := by
      intro j hji
      unfold Z3w
      simp only [if_neg hji]
      have : Z9r S (fun q => if q = i then true else done q) j = (Z9r S done j || (Za5 S i).any (Nat.beq j)) := by
        rw [Bool.eq_iff_iff]
        simp only [Z9r, List.any_eq_true, Bool.or_eq_true, Bool.and_eq_true]
        constructor
        · rintro ⟨q, hq, h1, h2⟩
          by_cases e : q = i
          · subst e; exact .inr h2
          · rw [if_neg e] at h1; exact .inl ⟨q, hq, h1, h2⟩
        · rintro (⟨q, hq, h1, h2⟩ | h2)
          · exact ⟨q, hq, by rw [h1]; simp, h2⟩
          · exact ⟨i, List.mem_range.2 hil, by simp, h2⟩
      rw [this]
      cases done j <;> cases Z9r S done j <;> cases (Za5 S i).any (Nat.beq j) <;> rfl
    have hlivei : Z3w S (fun q => if q = i then true else done q) i = true := by
      unfold Z3w
      simp only [if_true]
      rw [Bool.true_and, Bool.not_eq_true', Bool.eq_false_iff]
      intro he
      obtain ⟨q, hq, h2⟩ := List.any_eq_true.1 he
      simp only [Bool.and_eq_true] at h2
      have hqS := List.mem_range.1 hq
      obtain ⟨h3, h4, h5⟩ := heat' q hqS i (any_beq.1 h2.2)
      by_cases e : q = i
      · subst e; omega
      · have hdq : done q = true := by have := h2.1; rwa [if_neg e] at this
        have h6 := hg' q hqS
        simp only [Bool.and_eq_true] at h6
        have h7 := List.all_eq_true.1 h6.1.1.1.1 i h4
        simp only [Bool.and_eq_true] at h7
        have := hcl' q hqS hdq i h7.2
        rw [hdi] at this; cases this
    have hpermE : ∀ e' : Heap, ∃ Hx, List.Perm (Z2n es (Z3w S done) (List.range S.length)) (Z3j es (Z20 S i) ++ Hx) ∧
        List.Perm (Z2n (fun j => if j = i then e' else es j) (Z3w S (fun q => if q = i then true else done q)) (List.range S.length)) (e' ++ (Z3j es (Z8f S i) ++ Hx)) := fun e' =>
      Zi4 e' List.nodup_range (List.mem_range.2 hil) hiD (Z60 hdnd) (fun j hj => ⟨List.mem_range.2 (hdd j hj).1, hlive j hj⟩) (by unfold Z3w; rw [hdi]; rfl) hlivei hstepL (fun j hj => (heat' i hil j hj).2.1)
    obtain ⟨Hx, hHx, hHx'⟩ : ∃ Hx, List.Perm (Z2n es (Z3w S done) (List.range S.length)) (Z3j es (Z20 S i) ++ Hx) ∧
        ∀ e' : Heap, List.Perm (Z2n (fun j => if j = i then e' else es j) (Z3w S (fun q => if q = i then true else done q)) (List.range S.length)) (e' ++ (Z3j es (Z8f S i) ++ Hx)) := by
      obtain ⟨Hx, h1, _⟩ := hpermE []
      refine ⟨Hx, h1, fun e' => ?_⟩
      obtain ⟨Hy, h2, h3⟩ := hpermE e'
      exact h3.trans (List.Perm.append_left _ (List.Perm.append_left _ ((List.perm_append_left_iff _).1 (h2.symm.trans h1))))
    have hsub : ∀ t v, Z43 (Z3b ops vs (Z20 S i) ++ (W ++ Es)) t = some v → Z43 Es t = some v := by
      intro t v h
      rw [Z29, Z29] at h
      cases h1 : Z43 (Z3b ops vs (Z20 S i)) t with
      | some u =>
        rw [h1] at h; simp at h; subst h
        obtain ⟨j, hj, hs, rfl⟩ := Z83 (Za4 h1)
        exact hfacts j t (hdd j hj).1 (hdd j hj).2 hs
      | none =>
        rw [h1] at h
        simp only [Option.none_or] at h
        cases h2 : Z43 W t with
        | some u => rw [h2] at h; simp at h; subst h; exact hbase t u h2
        | none => rw [h2] at h; simpa using h
    have hsub2 : ∀ t v, Z43 Es t = some v → Z43 (Z3b ops vs (Z20 S i) ++ (W ++ Es)) t = some v := by
      intro t v h
      cases h1 : Z43 (Z3b ops vs (Z20 S i) ++ (W ++ Es)) t with
      | some u => rw [← hsub t u h1, h]
      | none =>
        rw [Z29, Z29, h] at h1
        cases h2 : Z43 (Z3b ops vs (Z20 S i)) t <;> cases h3 : Z43 W t <;> simp [h2, h3] at h1
    have hslot : Z2s ops i = o.dst := by simp [Z2s, ho]
    have hfin : ∀ (v : Value) (e' hb' : Heap) (a' : Act) (w' : World), Zf2 S i ((Z20 S i).map vs) v e' → (∀ j, j ∈ hd.getD (rk (fun q => if q = i then true else done q)) [] → j < S.length ∧ (if j = i then true else done j) = true) →
        HR (rk (fun q => if q = i then true else done q)) ((hd.getD (rk (fun q => if q = i then true else done q)) []).map (fun j => if j = i then v else vs j)) hb' →
        Fits C.n C.D (Zfg (Z2s ops i) v (Z3b ops vs (Z20 S i) ++ (W ++ Es))) a' → Inv C.w0 C.M w' (hb' ++ (Hc ++ (e' ++ (Z3j es (Z8f S i) ++ Hx)))) →
        ∃ (vs : Nat → Value) (es : Nat → Heap) (hb : Heap) (Es : Env), Fits C.n C.D Es a' ∧ (∀ j d, j < S.length → (if j = i then true else done j) = true → Z2s ops j = some d → Z43 Es d = some (vs j)) ∧ (∀ t v, Z43 W t = some v → Z43 Es t = some v) ∧
          (∀ j, j < S.length → (if j = i then true else done j) = true → Zf2 S j ((Z20 S j).map vs) (vs j) (es j)) ∧ (∀ j, j ∈ hd.getD (rk (fun q => if q = i then true else done q)) [] → j < S.length ∧ (if j = i then true else done j) = true) ∧
          HR (rk (fun q => if q = i then true else done q)) ((hd.getD (rk (fun q => if q = i then true else done q)) []).map vs) hb ∧ Inv C.w0 C.M w' (hb ++ (Hc ++ Z2n es (Z3w S (fun q => if q = i then true else done q)) (List.range S.length))) := by
      intro v e' hb' a' w' hrel hhd' hHR' hfit' hinv'
      refine ⟨fun j => if j = i then v else vs j, fun j => if j = i then e' else es j, hb', Zfg (Z2s ops i) v (Z3b ops vs (Z20 S i) ++ (W ++ Es)), hfit', fun j d hj hdj hs => ?_, fun t u h => ?_, fun j hj hdj => ?_, hhd', hHR', ?_⟩
      · show Z43 _ d = some (if j = i then v else vs j)
        by_cases e : j = i
        · subst e; rw [hs, if_pos rfl]; simp [Zfg, Z2c]
        · rw [if_neg e]
          have hdj' : done j = true := by simpa [e] using hdj
          have h1 := hsub2 _ _ (hfacts j d hj hdj' hs)
          cases hsi : Z2s ops i with
          | none => exact h1
          | some di =>
            simp only [Zfg, Z2c]
            rw [if_neg]
            · exact h1
            · rintro rfl
              exact e (Zbd hnd j i di (List.mem_range.2 hj) (List.mem_range.2 hil) hs hsi)
      · have h1 := hsub2 _ _ (hbase t u h)
        cases hsi : Z2s ops i with
        | none => exact h1
        | some di =>
          simp only [Zfg, Z2c]
          rw [if_neg]
          · exact h1
          · rintro rfl
            exact (hW _ _ h).2 i hil hsi
      · have hmapdeps : ∀ q, q < S.length → (if q = i then true else done q) = true → (Z20 S q).map (fun j => if j = i then v else vs j) = (Z20 S q).map vs := by
          intro q hq hdq
          apply List.map_congr_left
          intro r hr
          have hrq := hg' q hq
          simp only [Bool.and_eq_true] at hrq
          have hrr := List.all_eq_true.1 hrq.1.1.1.1 r hr
          simp only [Bool.and_eq_true] at hrr
          have hne : r ≠ i := by
            rintro rfl
            by_cases e : q = r
            · subst e
              have := hdone q hrr.2
              rw [hdi] at this; cases this
            · have hdq' : done q = true := by simpa [e] using hdq
              have : done r = true := by
                obtain ⟨oq, hoq⟩ : ∃ oq, ops[q]? = some oq := ⟨ops[q]'(by omega), Array.getElem?_eq_getElem (by omega)⟩
                exact Z44 hcl _ q r hrr.2 (fun o' ho' => hcl q o' ho' hdq')
              rw [hdi] at this; cases this
          rw [if_neg hne]
        rw [hmapdeps j hj hdj]
        by_cases e : j = i
        · subst e; simpa using hrel
        · simp only [if_neg e]
          exact hrels j hj (by simpa [e] using hdj)
      · exact hinv'.perm (List.Perm.append_left _ (List.Perm.append_left _ (hHx' e').symm))
    have hrk : Z6m S i = false → rk (fun q => if q = i then true else done q) = rk done := by
      intro he
      show ((List.range S.length).filter _).length = _
      congr 1
      apply List.filter_congr
      intro j _
      by_cases e : j = i
      · subst e; simp [he]
      · simp [e]
    cases he : Z6m S i with
    | false =>
      have hob := obs.get i (List.mem_range.2 hil)
      rw [he] at hob
      simp only [cond_false] at hob
      have hh := hob vs es Es (Hx ++ hb) hreld a w (hfit.weak hsub) (hinv.perm (by
        refine (List.perm_append_comm).trans ?_
        rw [List.append_assoc]
        refine List.Perm.append_left _ ?_
        rw [← List.append_assoc]
        exact List.Perm.append_right _ hHx))
      refine wpOpIn_mono ?_ (Zgj hh)
      rintro a' w' ⟨v, e', hrel, hfit', hinv'⟩
      refine hfin v e' hb a' w' hrel ?_ ?_ hfit' (hinv'.perm ?_)
      · rw [hrk he]
        intro j hj
        obtain ⟨h1, h2⟩ := hhd j hj
        exact ⟨h1, by rw [h2]; simp⟩
      · rw [hrk he]
        have : (hd.getD (rk done) []).map (fun j => if j = i then v else vs j) = (hd.getD (rk done) []).map vs := by
          apply List.map_congr_left
          intro j hj
          rw [if_neg]
          rintro rfl
          have := (hhd j hj).2
          rw [hdi] at this; cases this
        rw [this]
        exact hHR
      · -- e' ++ (Hc ++ (ents ++ (Hx ++ hb)))  ~  hb ++ (Hc ++ (e' ++ (ents ++ Hx)))
        have h1 : List.Perm (e' ++ (Hc ++ (Z3j es (Z8f S i) ++ (Hx ++ hb)))) ((Hc ++ (e' ++ (Z3j es (Z8f S i) ++ Hx))) ++ hb) := by
          have : e' ++ (Hc ++ (Z3j es (Z8f S i) ++ (Hx ++ hb))) = (e' ++ Hc) ++ (Z3j es (Z8f S i) ++ Hx) ++ hb := by simp [List.append_assoc]
          rw [this]
          refine List.Perm.append_right _ ?_
          have h2 : Hc ++ (e' ++ (Z3j es (Z8f S i) ++ Hx)) = (Hc ++ e') ++ (Z3j es (Z8f S i) ++ Hx) := by simp [List.append_assoc]
          rw [h2]
          exact List.Perm.append_right _ List.perm_append_comm
        exact h1.trans List.perm_append_comm
    | true =>
      have hob := obs.get i (List.mem_range.2 hil)
      rw [he] at hob
      simp only [cond_true] at hob
      rw [he] at heffs
      simp only [Bool.not_true, Bool.false_or, Bool.and_eq_true] at heffs
      obtain ⟨hchain, hnext⟩ := heffs
      have hrki : rk done = Zcc S i := by
        show ((List.range S.length).filter _).length = ((List.range i).filter (Z6m S)).length
        have hsplit : List.range S.length = List.range i ++ List.range' i (S.length - i) := by
          rw [List.range_eq_range', List.range_eq_range']
          have := List.range'_append_1 (s := 0) (m := i) (n := S.length - i)
          rw [Nat.zero_add] at this
          rw [this]
          congr 1; omega
        rw [hsplit, List.filter_append]
        have h1 : (List.range i).filter (fun j => Z6m S j && done j) = (List.range i).filter (Z6m S) := by
          apply List.filter_congr
          intro j hj
          have := List.all_eq_true.1 hchain j hj
          simp only [Bool.or_eq_true, Bool.not_eq_true'] at this
          rcases this with h | h
          · simp [h]
          · simp [hdone j h]
        have h2 : (List.range' i (S.length - i)).filter (fun j => Z6m S j && done j) = [] := by
          rw [List.filter_eq_nil_iff]
          intro j hj
          have hjr := List.mem_range'_1.1 hj
          cases hej : Z6m S j with
          | false => simp
          | true =>
            cases hdj : done j with
            | false => simp
            | true =>
              exfalso
              by_cases e : j = i
              · subst e; rw [hdi] at hdj; cases hdj
              · have hgj := hg' j (by omega)
                simp only [Bool.and_eq_true] at hgj
                have h3 := hgj.2
                rw [hej] at h3
                simp only [Bool.not_true, Bool.false_or, Bool.and_eq_true] at h3
                have h4 := List.all_eq_true.1 h3.1 i (List.mem_range.2 (by omega))
                rw [he] at h4
                simp only [Bool.not_true, Bool.false_or] at h4
                have : done i = true := Z44 hcl _ j i h4 (fun o' ho' => hcl j o' ho' hdj)
                rw [hdi] at this; cases this
        rw [h1, h2, List.append_nil]
      have hrki' : rk (fun q => if q = i then true else done q) = Zcc S i + 1 := by
        rw [← hrki]
        show ((List.range S.length).filter _).length = ((List.range S.length).filter _).length + 1
        have : ∀ l : List Nat, l.Nodup → i ∈ l → (l.filter (fun j => Z6m S j && (if j = i then true else done j))).length = (l.filter (fun j => Z6m S j && done j)).length + 1 := by
          intro l
          induction l with
          | nil => intro _ h; cases h
          | cons j l ih =>
            intro hn hm
            simp only [List.nodup_cons] at hn
            by_cases e : j = i
            · subst e
              have hc : l.filter (fun q => Z6m S q && (if q = j then true else done q)) = l.filter (fun q => Z6m S q && done q) := by
                apply List.filter_congr
                intro q hq
                have : q ≠ j := by rintro rfl; exact hn.1 hq
                simp [this]
              rw [List.filter_cons_of_pos (by simp [he]), List.filter_cons_of_neg (by simp [hdi]), hc, List.length_cons]
            · have hm' : i ∈ l := by rcases List.mem_cons.1 hm with h | h; (exact absurd h.symm e); exact h
              have := ih hn.2 hm'
              simp only [List.filter_cons, e, if_false]
              split
              · simp only [List.length_cons]; omega
              · exact this
        exact this _ List.nodup_range (List.mem_range.2 hil)
      rw [hrki] at hHR
      have hh := hob vs es Es Hx hb hreld hHR a w (hfit.weak hsub) (hinv.perm (List.Perm.append_left _ (List.Perm.append_left _ hHx)))
      refine wpOpIn_mono ?_ (Zgj hh)
      rintro a' w' ⟨v, hb', e', hrel, hHR', hfit', hinv'⟩
      have hrest : Z8f S i = Z20 S i := by
        have h0 : Za5 S i = [] := by
          rw [he] at heate; simpa using heate
        unfold Z8f; rw [h0]; simp
      refine hfin v e' hb' a' w' hrel ?_ ?_ hfit' (by rw [hrest]; exact hinv')
      · rw [hrki']
        intro j hj
        have := List.all_eq_true.1 hnext j hj
        simp only [Bool.or_eq_true, Bool.and_eq_true] at this
        rcases this with h | ⟨h1, h2⟩
        · have := Nat.eq_of_beq_eq_true h; subst this; exact ⟨hil, by simp⟩
        · exact ⟨by simpa using h1, by rw [hdone j h2]; simp⟩
      · rw [hrki']
        have : (fun j => _root_.cond (Nat.beq j i) v (vs j)) = (fun j => if j = i then v else vs j) := by
          funext j
          by_cases e : j = i
          · subst e
            have : Nat.beq j j = true := by simp
            rw [this, if_pos rfl]; rfl
          · rw [if_neg e]
            have : Nat.beq j i = false := by
              cases hb : Nat.beq j i
              · rfl
              · exact absurd (Nat.eq_of_beq_eq_true hb) e
            rw [this]; rfl
        rw [← this]
        exact hHR'
  · rintro done a w hall ⟨vs, es, hb, Es, hfit, hfacts, hbase, hrels, hhd, hHR, hinv⟩
    have hrk : rk done = ((List.range S.length).filter (Z6m S)).length := by
      show ((List.range S.length).filter _).length = _
      congr 1
      apply List.filter_congr
      intro j hj
      simp [hall j (List.mem_range.1 hj)]
    rw [hrk] at hHR
    refine k vs es hb (Zbu fun j hj => hrels j (List.mem_range.1 hj) (hall j (List.mem_range.1 hj))) hHR a w (hfit.weak fun t v h => ?_) ?_
    · rw [Z29] at h
      cases h1 : Z43 (Z3b ops vs (List.range S.length)) t with
      | some u =>
        rw [h1] at h; simp at h; subst h
        obtain ⟨j, hj, hs, rfl⟩ := Z83 (Za4 h1)
        have hj' := List.mem_range.1 hj
        exact hfacts j t hj' (hall j hj') hs
      | none => rw [h1] at h; exact hbase t v (by simpa using h)
    · have h1 : Z2n es (Z3w S done) (List.range S.length) = Z3j es ((List.range S.length).filter fun j => !Z3r S j) := by
        have key : ∀ l : List Nat, (∀ j, j ∈ l → j < S.length) → Z2n es (Z3w S done) l = Z3j es (l.filter fun j => !Z3r S j) := by
          intro l
          induction l with
          | nil => intro _; rfl
          | cons j l ih =>
            intro h
            have ih := ih fun q hq => h q (.tail _ hq)
            have hj : Z3w S done j = !Z3r S j := by
              unfold Z3w Z9r Z3r
              rw [hall j (h j (.head _)), Bool.true_and]
              congr 1
              rw [Bool.eq_iff_iff]
              simp only [List.any_eq_true, Bool.and_eq_true]
              constructor
              · rintro ⟨q, hq, _, h2⟩; exact ⟨q, hq, h2⟩
              · rintro ⟨q, hq, h2⟩; exact ⟨q, hq, hall q (List.mem_range.1 hq), h2⟩
            unfold Z2n at ih ⊢
            rw [List.flatMap_cons, ih, hj, List.filter_cons]
            cases (!Z3r S j) <;> simp [Z3j]
        exact key _ fun j hj => List.mem_range.1 hj
      rw [← h1]
      exact hinv
  · have hrk0 : rk (fun _ => false) = 0 := by
      show ((List.range S.length).filter _).length = 0
      simp
    refine ⟨fun _ => undef, fun _ => [], hb0, E, hf, fun j d _ h => by simp at h, fun t v h => (hW t v h).1, fun j _ h => by simp at h, ?_, ?_, ?_⟩
    · rw [hrk0, hd0']; intro j hj; cases hj
    · rw [hrk0, hd0']; exact h0
    · have : Z2n (fun _ => []) (Z3w S fun _ => false) (List.range S.length) = [] := by simp [Z2n]
      rw [this, List.append_nil]
      exact (hi.pick hH).ofHeap rfl rfl rfl rfl
theorem Zl1 {id : Nat} (S : List Sp) (sl : List Nat) (m : Nat) (HR : Nat → List Value → Heap → Prop) (hd : List (List Nat)) (hb0 Hc : Heap)
    (hm : C.P.follows .mixedOrders = true) (hsm : S.length = m) (hsl : Z6p ops (List.range m) = sl) (hb : Zej ops = true) (ht : Zfc ops m = true) (hgood : Zfl ops S hd = true) (hms : Nat.ble m ops.size = true)
    (hn : Zbf sl = true) (h0 : HR 0 [] hb0) (hH : Pick (hb0 ++ Hc) H)
    (obs : ObsG2 C ops Q S HR hd (wo sl E) Hc (List.range m))
    (k : ∀ (vs : Nat → Value) (es : Nat → Heap) (hb : Heap), Zd6 S vs es (List.range m) → HR ((List.range m).filter (Z6m S)).length ((hd.getD ((List.range m).filter (Z6m S)).length []).map vs) hb →
      TO C ops Q (List.range' m (ops.size - m)) (Z3b ops vs (List.range m) ++ wo sl E) (hb ++ (Hc ++ Z3j es ((List.range m).filter fun j => !Z3r S j)))) :
    T C (.region id ops true) Q E H := by
  subst hsm; subst hsl
  exact T.drawG2 S HR hd hb0 Hc hm hb ht hgood hms hn h0 hH obs k
theorem X.obE2 {S : List Sp} {HR : Nat → List Value → Heap → Prop} {W Es B B' : Env} {Hc Hx : Heap} {i k : Nat} {vl : List Value} {F : Value → List Value} {De hb' H' : Heap} (hs : Z2s ops i = none) (hr : Zf2 S i vl undef []) (hh : HR k (F undef) hb')
    (hH : Pick (hb' ++ (Hc ++ (De ++ Hx))) H') (hB : B = B') :
    X C (fun e a w => match e with
      | .normal => ∃ v hb' e', Zf2 S i vl v e' ∧ HR k (F v) hb' ∧ Fits C.n C.D (Zfg (Z2s ops i) v (B ++ (W ++ Es))) a ∧ Inv C.w0 C.M w (hb' ++ (Hc ++ (e' ++ (De ++ Hx))))
      | e => Q e a w) .normal (B' ++ (W ++ Es)) H' := by
  subst hB
  exact fun _ _ hf hi => ⟨undef, hb', [], hr, hh, by rw [hs]; exact hf, hi.pick hH⟩
theorem Zkt {S : List Sp} {HR : Nat → List Value → Heap → Prop} {W Es B B' : Env} {Hc Hx : Heap} {i k d : Nat} {v : Value} {vl : List Value} {F : Value → List Value} {De hb' e' H' : Heap} (hs : Z2s ops i = some d) (hr : Zf2 S i vl v e') (hh : HR k (F v) hb')
    (hH : Pick (hb' ++ (Hc ++ (e' ++ (De ++ Hx)))) H') (hB : B = B') :
    X C (fun e a w => match e with
      | .normal => ∃ v hb' e', Zf2 S i vl v e' ∧ HR k (F v) hb' ∧ Fits C.n C.D (Zfg (Z2s ops i) v (B ++ (W ++ Es))) a ∧ Inv C.w0 C.M w (hb' ++ (Hc ++ (e' ++ (De ++ Hx))))
      | e => Q e a w) .normal ((d, v) :: (B' ++ (W ++ Es))) H' := by
  subst hB
  exact fun _ _ hf hi => ⟨v, hb', e', hr, hh, by rw [hs]; exact hf, hi.pick hH⟩
end
end Go.Acq
namespace Go.Acq
open Go Go.RowKit
structure Qu {α : Type} (ob : Option Nat) (base : Option Addr) (n c : Nat) (xs ys : List α) (N C : Nat) : Prop where
  ex : ∃ o, o + n = N ∧ o + c = C ∧ xs = ys.drop o ∧ (0 < c → base = (sb ob).map (·.add o))
section
variable {α : Type} {ob : Option Nat} {base : Option Addr} {n c N C : Nat} {xs ys : List α} {w w0 : World} {M M' : List Nat} {H Hm R : Heap} {f : α → List Value} {j : List Value} {T' : TypeId} {fr : Nat × Nat}
theorem Qu.len (h : Qu ob base n c xs ys N C) (hn : ys.length = N) : xs.length = n := by
 obtain ⟨o, h1, _, rfl, _⟩ := h.ex
 rw [List.length_drop]; omega
theorem Qu.le (h : Qu ob base n c xs ys N C) (hc : N ≤ C) : n ≤ c := by
 obtain ⟨o, h1, h2, _, _⟩ := h.ex
 omega
theorem Znh (ob : Option Nat) : (sb ob).map (·.add 0) = sb ob := by cases ob <;> rfl
theorem Qu.self (ob : Option Nat) (ys : List α) (N C : Nat) : Qu ob (sb ob) N C ys ys N C := ⟨0, by omega, by omega, rfl, fun _ => (Znh ob).symm⟩
theorem Qu.drop (h : Qu ob base n c xs ys N C) {p : Int} (hp : 0 ≤ p ∧ p ≤ (xs.length : Int)) (hn : ys.length = N) (hc : N ≤ C) : Qu ob (Zkk base p.toNat c 1) (n - p.toNat) (c - p.toNat) (xs.drop p.toNat) ys N C := by
 have hl := h.len hn
 have hle := h.le hc
 obtain ⟨o, h1, h2, rfl, h4⟩ := h.ex
 refine ⟨o + p.toNat, by omega, by omega, by rw [List.drop_drop], fun h5 => ?_⟩
 unfold Zkk
 rw [if_neg (by omega), h4 (by omega)]
 cases ob with
 | none => rfl
 | some b => simp [Addr.add_lit]
theorem Qu.nil (h : Qu ob base n c xs ys N C) (hc : N ≤ C) (hz : ob = none → C = 0) : base = none → n = 0 := by
 intro hb
 have hle := h.le hc
 obtain ⟨o, h1, h2, rfl, h4⟩ := h.ex
 rcases Nat.eq_zero_or_pos c with h0 | h0
 · omega
 ·
  have := h4 h0
  rw [hb] at this
  cases ob with
  | none => have := hz rfl; omega
  | some b => cases this
theorem Qu.rsM (h : Qu ob base n c xs ys N C) (hi : Inv w0 M w H) (hf : ∀ x, (f x).length = 1) (hp : List.Perm H (Hm ++ R)) (hM : Hm.filterMap (·.1) = M') (hm : (ob, Obj.cells (arr f ys j).toArray T' fr) ∈ R) (hn : ys.length = N) (hc : N ≤ C) (hz : ob = none → C = 0) : RS w M' f 1 base n c xs := by
 have hl := h.len hn
 have hle := h.le hc
 have h9 := h.nil hc hz
 have hr := hi.rsM hf hp hM hm hn hc hz
 obtain ⟨o, h1, h2, rfl, h4⟩ := h.ex
 rcases Nat.eq_zero_or_pos c with h0 | h0
 ·
  have hn0 : n = 0 := by omega
  subst hn0
  have hx : ys.drop o = [] := List.eq_nil_of_length_eq_zero hl
  rw [hx]
  exact ⟨⟨rfl, fun _ => rfl, hf, fun o c h => by simp at h⟩, fun _ _ h => by omega, by omega⟩
 ·
  have h5 := hr.drop (p := (o : Int)) ⟨Int.natCast_nonneg o, by omega⟩
  rw [Int.toNat_natCast] at h5
  unfold Zkk at h5
  rw [if_neg (by omega), Nat.mul_one, ← h4 h0, show N - o = n by omega, show C - o = c by omega] at h5
  exact h5
theorem Qu.rs (h : Qu ob base n c xs ys N C) (hi : Inv w0 M w H) (hf : ∀ x, (f x).length = 1) (hm : (ob, Obj.cells (arr f ys j).toArray T' fr) ∈ H) (hn : ys.length = N) (hc : N ≤ C) (hz : ob = none → C = 0) : RS w [] f 1 base n c xs :=
 h.rsM hi hf (Hm := []) (R := H) (List.Perm.refl _) rfl hm hn hc hz
end
section quiet
variable {C : Cx} {ops : Array Oper} {Q : Act → Prop} {l : List Nat} {E : Env} {H R : Heap} {i d : Nat} {ty : TypeId} {pos : String} {af : Array Edge} {g : Option (Nat × Bool)}
end quiet
section rules
variable {C : Cx} {ops : Array Oper} {Q : Exit → Act → World → Prop} {l : List Nat} {E : Env} {H R : Heap} {i d : Nat} {ty : TypeId} {pos : String} {af : Array Edge} {g : Option (Nat × Bool)}
theorem Zky {α : Type} {xs ys : List α} {ob : Option Nat} {t e : TypeId} {x y : Operand} {base : Option Addr} {n c N K : Nat} {k : IntKind} {p : Int} (hr : Qu ob base n c xs ys N K) (hn : ys.length = N) (hc : N ≤ K) (hz : ob = none → K = 0) (hp : inb p xs.length)
    (q0_ : ops[i]? = some ⟨some d, .indexAddr t x y, ty, pos, af, g⟩ ∧ gdB ops E g = true ∧ Nat.ble (d + 1) C.n = true ∧ ev E x = some (.slice base n c) ∧ ev E y = some (.int k p)) (ht : Z39 C.P t = some e) (hs : Z3g C.P e = some 1)
    (kk : TO C ops Q l ((d, .pointer (some (ea base (p.toNat * 1)))) :: E) H) : TO C ops Q (i :: l) E H := have ⟨ho, hg, hd, hx, hy⟩ := q0_;
  Zg9 ho hg hd hx hy ht hs (hr.nil hc hz) hp.1 (by have := hp.2; rw [hr.len hn] at this; exact this) kk
theorem Zib {t T' : TypeId} {x : Operand} {base : Option Addr} {n c N K : Nat} {k : IntKind} {p : Int} {xs ys : List Int} {ob : Option Nat} {j : List Value} {fr : Nat × Nat} (hr : Qu ob base n c xs ys N K) (hn : ys.length = N) (hc : N ≤ K) (hz : ob = none → K = 0) (hp : inb p xs.length)
    (q0_ : ops[i]? = some ⟨some d, .load t x, ty, pos, af, g⟩ ∧ gdB ops E g = true ∧ Nat.ble (d + 1) C.n = true ∧ ev E x = some (.pointer (some (ea base (p.toNat * 1))))) (hT : Z5q C.P t = true) (hm : (ob, Obj.cells (arr (intC k) ys j).toArray T' fr) ∈ H)
    (kk : TO C ops Q l ((d, .int k (xs.getD p.toNat 0)) :: E) H) : TO C ops Q (i :: l) E H := have ⟨ho, hg, hd, hx⟩ := q0_;
  TO.load ho hg hd hx hT (fun w hi => by
    have := (hr.rs hi (fun _ => rfl) hm hn hc hz).ro.at 0 (o := p.toNat) (c := 0) (Z7h hp) (by omega)
    simpa using this) kk
theorem Zi1 {w : World} {n c : Nat} {e : TypeId} (h : n ≤ 4611686018427387904) : grownCap w n c e ≤ 9223372036854775807 := by
 unfold grownCap Question.cut
 have := Nat.mod_lt (w.tape w.drawn (.appendCap n c e)) (show 0 < 2 ^ 63 - n by omega)
 simp only
 omega
theorem Zok {α : Type} {f : α → List Value} {s by' : Nat} {z : Value} {t e : TypeId} {x y : Operand} {ob : Option Nat} {base : Option Addr} {n c m cy : Nat} {xs ys : List α} {j : List Value}
    (hf : ∀ x, (f x).length = s) (h1 : ∀ x, (f x).all (·.oneCell') = true) (hT : ElemT C.P t e s by' z) (hk : apok (xs ++ ys).length by')
    (q0_ : ops[i]? = some ⟨some d, .call ⟨.builtin .append, #[x, y], #[t, t]⟩, ty, pos, af, g⟩ ∧ gdB ops E g = true ∧ Nat.ble (d + 1) C.n = true ∧ ev E x = some (.slice (sb ob) n c) ∧ ev E y = some (.slice base m cy))
    (ht : Take (ob, .cells (arr f xs j).toArray e (0, 0)) H R) (hn : xs.length = n) (hnc : n ≤ c) (hj : j.length = (c - n) * s) (h0 : ob = none → c = 0) (hcm : c ≤ 9223372036854775807)
    (hsrc : ∀ w, Inv C.w0 C.M w H → RS w [] f s base m cy ys)
    (kk : ∀ (ob' : Option Nat) (c' : Nat) (j' : List Value), n + m ≤ c' → j'.length = (c' - (n + m)) * s → (ob' = none → c' = 0) → c' ≤ 9223372036854775807 → TO C ops Q l ((d, .slice (sb ob') (n + m) c') :: E) ((ob', .cells (arr f (xs ++ ys) j').toArray e (0, 0)) :: R)) :
    TO C ops Q (i :: l) E H := by
  obtain ⟨ho, hg, hd, hx, hy⟩ := q0_
  by_cases hmm : ys.length = m
  case neg =>
    intro a w _ hi
    exact absurd (hsrc w hi).len hmm
  rw [Zb2 hn hmm] at hk
  obtain ⟨hroom, hmax⟩ := hk
  refine Zga ho hg (by simp) fun a w hfit hi => ?_
  obtain ⟨ti, hti, hsz⟩ := Zcu hT.size
  have hu := Z52 hT.slice
  have hz' : ti.zero = some z := by have := hT.zero; simpa [Z8a, hti] using this
  have hb' : ti.bytes = by' := by have := hT.bytes; simpa [Z9s, hti] using this
  have hs := (hsrc w hi).ro
  have hro := hi.roO hf ht.mem hn (fun e => by have := h0 e; omega)
  have hexec : (execOp a.eval ⟨some d, .call ⟨.builtin .append, #[x, y], #[t, t]⟩, ty, pos, af, g⟩).run C.P w = ((Builtin.append_ #[t, t] ty #[.slice (sb ob) n c, .slice base m cy]).run C.P w).andThen fun v w' => .ok (.value v) w' := by
    simp [execOp, resolve, invoke, builtin, hfit.ev hx, hfit.ev hy]
  rw [hexec]
  by_cases hr : n + m ≤ c
  · cases ob with
    | none =>
      have := h0 rfl
      subst this
      have hm0 : m = 0 := by omega
      subst hm0
      have hys : ys = [] := List.eq_nil_of_length_eq_zero hs.len
      subst hys
      have : (Builtin.append_ #[t, t] ty #[.slice none n 0, .slice base 0 cy]).run C.P w = .ok (.slice none n 0) w := by
        have hl := (hs.src hu h1 cy).len w
        have hc := (hs.src hu h1 cy).cells
        have hn0 : n = 0 := by omega
        subst hn0
        simp only [List.flatMap_nil] at hc
        simp [Builtin.append_, run_underlying hu, sizeOf, typeInfo, hti, hl, hsz, hc]
      simp only [sb, Option.map_none, this, Result.andThen_ok]
      refine kk none 0 j (by omega) (by omega) (fun _ => rfl) (by omega) _ _ (hfit.put hd _) ?_
      rw [List.append_nil]
      exact hi.perm ht
    | some b =>
      have hb := hi.own b _ ht.mem
      have hlen : (arr f xs j).length = c * s := by
        simp only [arr, List.length_append, Z37 hf, hj, hn]
        rw [← Nat.add_mul]; congr 1; omega
      have hnews : (ys.flatMap f).length = m * s := by rw [Z37 hf, hs.len]
      have hfit2 : n * s + (ys.flatMap f).length ≤ (arr f xs j).toArray.size := by
        rw [hnews, List.size_toArray, hlen, ← Nat.add_mul]; exact Nat.mul_le_mul_right s hr
      have hall := (hs.src hu h1 cy).one
      have hcell : ∀ q, q < (ys.flatMap f).length → (w.cell? ⟨b, 0 + n * ti.size + q, none⟩).isSome = true := fun q hq => by
        rw [hsz, Nat.zero_add, hi.cell_own ht.mem, Array.getElem?_eq_getElem (by omega)]; rfl
      have hr2 := run_append_room_src (P := C.P) w t t ty e ti hu hti b 0 n c (.slice base m cy) m (ys.flatMap f) (by rw [hsz]; exact hs.src hu h1 cy) hr hcell (fun q _ => hi.frozen_own ht.mem _)
      rw [hsz, Nat.zero_add, Zca (P := C.P) hb hfit2 hall] at hr2
      simp only [sb, Option.map_some, hr2, Result.andThen_ok]
      refine kk (some b) c (j.drop (m * s)) hr ?_ (by simp) hcm _ _ (hfit.put hd _) ?_
      · rw [List.length_drop, hj, ← Nat.sub_mul]; congr 1; omega
      · have : ((arr f xs j).toArray.toList.take (n * s) ++ ys.flatMap f ++ (arr f xs j).toArray.toList.drop (n * s + (ys.flatMap f).length)).toArray = (arr f (xs ++ ys) (j.drop (m * s))).toArray := by
          have e1 : (xs.flatMap f).length = n * s := by rw [Z37 hf, hn]
          simp only [arr, List.flatMap_append]
          rw [hnews]
          congr 1
          rw [← e1, List.take_left', List.drop_append]
          · simp [e1, List.append_assoc, List.drop_eq_nil_of_le (show (xs.flatMap f).length ≤ n * s + m * s by omega)]
          · rfl
        rw [← this]
        exact hi.setRow ht
  · have hold : (Builtin.firstCells ti.size n (.slice (sb ob) n c)).run C.P w.drew = .ok (xs.flatMap f).toArray w.drew := by rw [hsz]; exact hro.drew.first c
    have hg2 := run_append_grow_src (P := C.P) w t t ty e ti z hu hti hz' (sb ob) n c (xs.flatMap f) hold (.slice base m cy) m (ys.flatMap f) (by rw [hsz]; exact hs.src hu h1 cy) (by omega) (by omega) (by
      rw [hb']; exact growslice_fits (by omega) hroom)
    simp only [hg2, Result.andThen_ok]
    have hcap : n + m ≤ grownCap w (n + m) c e := by unfold grownCap Question.cut; simp only; omega
    refine kk (some w.heap.size) (grownCap w (n + m) c e) (Builtin.zeroCells z.cells (grownCap w (n + m) c e - (n + m))).toList hcap (by rw [Array.length_toList, size_zeroCells, hT.zsize]) (by simp) (Zi1 hmax) _ _ (hfit.put hd _) ?_
    have e2 : ((xs.flatMap f ++ ys.flatMap f).toArray ++ Builtin.zeroCells z.cells (grownCap w (n + m) c e - (n + m))) = (arr f (xs ++ ys) (Builtin.zeroCells z.cells (grownCap w (n + m) c e - (n + m))).toList).toArray := by
      simp only [arr, List.flatMap_append]
      apply Array.ext'
      simp [List.append_assoc]
    rw [e2]
    have h3 := (hi.perm ht).drew.alloc (Obj.cells (arr f (xs ++ ys) (Builtin.zeroCells z.cells (grownCap w (n + m) c e - (n + m))).toList).toArray e (0, 0))
    exact h3.pick (Z9k (S := [(ob, .cells (arr f xs j).toArray e (0, 0))]) (by
      refine List.Perm.cons _ ?_
      exact (List.perm_append_comm (l₁ := [(ob, Obj.cells (arr f xs j).toArray e (0, 0))]) (l₂ := R))))
end rules
end Go.Acq
namespace Go.Acq
open Go Go.RowKit Go.Proofs Go.Shelf
theorem Zh1 (xs : List Int) (i : Nat) : (xs.flatMap (intC .i64)).drop i = (xs.drop i).flatMap (intC .i64) := by
 induction xs generalizing i with
 | nil => simp
 | cons x xs ih => cases i with
  | zero => rfl
  | succ i => simpa [intC] using ih i
theorem Zl7 (xs : List Int) (i : Nat) : (xs.flatMap (intC .i64)).take i = (xs.take i).flatMap (intC .i64) := by
 induction xs generalizing i with
 | nil => simp
 | cons x xs ih => cases i with
  | zero => rfl
  | succ i => simpa [intC] using ih i
theorem Z6f (xs : List Int) : (xs.flatMap (intC .i64)).length = xs.length := by rw [Z37 (s := 1) (fun _ => rfl)]; omega
theorem Zit (xs : List Int) : ∀ v, v ∈ xs.flatMap (intC .i64) → v.oneCell' = true := by
 intro v hv
 obtain ⟨x, _, hx⟩ := List.mem_flatMap.1 hv
 have : v = .int .i64 x := by simpa [intC] using hx
 rw [this]; rfl
section
variable {P : Program} {ρ : Ren} {w w0 : World} {M : List Nat} {H R : Heap} {b : Nat} {T : TypeId} {cs : Array Value}
theorem Inv.setCells (P : Program) (h : Inv w0 M w H) (ht : Take (some b, .cells cs T (0, 0)) H R) {o : Nat} {vs : List Value} (hfit : o + vs.length ≤ cs.size) (h1 : ∀ u, u ∈ vs → u.oneCell' = true) :
    Inv w0 M (w.setCells b o vs) ((some b, .cells (cs.toList.take o ++ vs ++ cs.toList.drop (o + vs.length)).toArray T (0, 0)) :: R) := by
  rw [Zca (P := P) (h.own _ _ ht.mem) hfit h1]
  exact h.setRow ht
theorem Zil (h : Inv w0 M w H) (hm : (some b, .cells cs T (0, 0)) ∈ H) : w.shape? b = some (T, cs.size) := by
 have := h.own _ _ hm
 simp [World.shape?, this]
theorem Zkd (ys : List Int) (j : List Value) : (arr (intC .i64) ys j).toArray.size = ys.length + j.length := by
 rw [List.size_toArray, arr, List.length_append, Z6f]
theorem ins_list {α : Type} (A B D j U : List α) {o i m k : Nat} (hA : A.length = o) (hB : B.length = i) (hU : U.length = m) (hk : k = o + i) (hm : m ≤ j.length) :
    ((((A ++ B) ++ (D ++ j)).take (k + m) ++ D ++ ((A ++ B) ++ (D ++ j)).drop (k + m + D.length)).take k ++ U ++ (((A ++ B) ++ (D ++ j)).take (k + m) ++ D ++ ((A ++ B) ++ (D ++ j)).drop (k + m + D.length)).drop (k + U.length))
    = (A ++ B) ++ U ++ (D ++ j.drop m) := by
  have hAB : (A ++ B).length = k := by rw [List.length_append]; omega
  have h1 : ((A ++ B) ++ (D ++ j)).take (k + m) = (A ++ B) ++ (D ++ j).take m := by
    rw [List.take_append, List.take_of_length_le (by omega), hAB, Nat.add_sub_cancel_left]
  have h2 : ((A ++ B) ++ (D ++ j)).drop (k + m + D.length) = j.drop m := by
    rw [List.drop_append, List.drop_eq_nil_of_le (by omega), List.nil_append, hAB, show k + m + D.length - k = D.length + m by omega, List.drop_append, List.drop_eq_nil_of_le (by omega), List.nil_append, Nat.add_sub_cancel_left]
  have h3 : ((D ++ j).take m).length = m := by rw [List.length_take, List.length_append]; omega
  rw [h1, h2]
  generalize (D ++ j).take m = t at h3
  generalize j.drop m = j'
  generalize A ++ B = X at hAB ⊢
  have hY : X ++ t ++ D ++ j' = X ++ (t ++ (D ++ j')) := by simp only [List.append_assoc]
  rw [hY, List.take_left' hAB, List.drop_append, List.drop_eq_nil_of_le (by omega), List.nil_append, hAB, hU, Nat.add_sub_cancel_left, List.drop_left' h3]
theorem ins_grow {α : Type} (A D Z Z' U : List α) {p m : Nat} (hA : A.length = p) (hU : U.length = m) (hZ : Z.length = m + D.length) :
    ((A ++ Z ++ Z').take p ++ U ++ (A ++ Z ++ Z').drop (p + U.length)).take (p + m) ++ D ++ ((A ++ Z ++ Z').take p ++ U ++ (A ++ Z ++ Z').drop (p + U.length)).drop (p + m + D.length) = A ++ U ++ D ++ Z' := by
  have h1 : (A ++ Z ++ Z').take p = A := by rw [List.append_assoc, List.take_left' hA]
  have h2 : (A ++ Z ++ Z').drop (p + U.length) = (Z ++ Z').drop m := by
    rw [List.append_assoc, List.drop_append, List.drop_eq_nil_of_le (by omega), List.nil_append, hA, hU, Nat.add_sub_cancel_left]
  have hAU : (A ++ U).length = p + m := by rw [List.length_append]; omega
  rw [h1, h2, List.take_left' hAU, List.drop_append, List.drop_eq_nil_of_le (by omega), List.nil_append, hAU, Nat.add_sub_cancel_left, List.drop_drop, List.drop_left' hZ]
theorem Zn8 {ys : List Int} {j : List Value} {o i m : Nat} {us : List Int} (ho : o + i ≤ ys.length) (hm : us.length = m) (hj : m ≤ j.length) :
    (((arr (intC .i64) ys j).take (o + (i + m)) ++ ((ys.drop o).flatMap (intC .i64)).drop i ++ (arr (intC .i64) ys j).drop (o + (i + m) + (((ys.drop o).flatMap (intC .i64)).drop i).length)).take (o + i) ++ us.flatMap (intC .i64) ++
      ((arr (intC .i64) ys j).take (o + (i + m)) ++ ((ys.drop o).flatMap (intC .i64)).drop i ++ (arr (intC .i64) ys j).drop (o + (i + m) + (((ys.drop o).flatMap (intC .i64)).drop i).length)).drop (o + i + (us.flatMap (intC .i64)).length))
    = arr (intC .i64) (ys.take o ++ ((ys.drop o).take i ++ us ++ (ys.drop o).drop i)) (j.drop m) := by
  have hY : arr (intC .i64) ys j = ((ys.take o).flatMap (intC .i64) ++ ((ys.drop o).take i).flatMap (intC .i64)) ++ (((ys.drop o).drop i).flatMap (intC .i64) ++ j) := by
    show ys.flatMap (intC .i64) ++ j = _
    rw [← List.append_assoc, ← List.flatMap_append, ← List.flatMap_append, List.append_assoc, List.take_append_drop, List.take_append_drop]
  rw [Zh1, hY, ← Nat.add_assoc]
  have := ins_list ((ys.take o).flatMap (intC .i64)) (((ys.drop o).take i).flatMap (intC .i64)) (((ys.drop o).drop i).flatMap (intC .i64)) j (us.flatMap (intC .i64)) (o := o) (i := i) (m := m) (k := o + i)
    (by rw [Z6f, List.length_take]; omega) (by rw [Z6f, List.length_take, List.length_drop]; omega) (by rw [Z6f, hm]) rfl hj
  rw [this]
  simp only [arr, List.flatMap_append, List.append_assoc]
def InsP (T : TypeId) (r us : List Int) (b2 : Nat) (j2 : List Value) (v : Value) (N : Heap) : Prop :=
  ∃ (base' : Option Addr) (n' c' : Nat) (ob' : Option Nat) (N' C' : Nat) (ys' : List Int) (j' : List Value), v = .slice base' n' c' ∧
    N = [(ob', .cells (arr (intC .i64) ys' j').toArray T (0, 0)), (some b2, .cells (arr (intC .i64) us j2).toArray T (0, 0))] ∧ Qu ob' base' n' c' r ys' N' C' ∧ ys'.length = N' ∧ N' ≤ C' ∧ j'.length = (C' - N') * 1 ∧ (ob' = none → C' = 0) ∧ C' ≤ 9223372036854775807
theorem Zh3 {xs : List Int} {n : Nat} {base : Option Addr} (h : RO w (intC .i64) 1 base n xs) {a : Addr} (ha : base = some a) : ∀ j v, (xs.flatMap (intC .i64))[j]? = some v → w.cell? (a.add j) = some v := by
 intro j v hj
 have := h.cells j v hj
 rw [ha] at this
 exact this
theorem Zmg (L : Lays2.n21 P ρ) (w : World) {M : List Nat} {ob : Option Nat} {base : Option Addr} {n c N C : Nat} {xs ys : List Int} {j : List Value} {i : Int} {us : List Int} {b2 c2 : Nat} {j2 : List Value} {r : List Int}
    (hin : Inv w M w [(ob, .cells (arr (intC .i64) ys j).toArray (ρ.t 3) (0, 0)), (some b2, .cells (arr (intC .i64) us j2).toArray (ρ.t 3) (0, 0))])
    (hQ : Qu ob base n c xs ys N C) (hn : ys.length = N) (hc : N ≤ C) (hj : j.length = (C - N) * 1) (hz : ob = none → C = 0) (hC : C ≤ 9223372036854775807)
    (hi0 : 0 ≤ i) (hi1 : i ≤ (xs.length : Int)) (hm : 0 < us.length) (hap : apok (xs ++ us).length 8) (hr9 : r = xs.take i.toNat ++ us ++ xs.drop i.toNat) :
    Fnc P (ρ.f 21) #[.slice base n c, .int .i64 i, .slice (some ⟨b2, 0, none⟩) us.length c2] w M (InsP (ρ.t 3) r us b2 j2) := by
  subst hr9
  have hl := hQ.len hn
  have hle := hQ.le hc
  have hnil := hQ.nil hc hz
  have hR := hQ.rs hin (fun _ => rfl) (.head _) hn hc hz
  obtain ⟨p, rfl⟩ : ∃ p : Nat, i = (p : Int) := ⟨i.toNat, (Int.toNat_of_nonneg hi0).symm⟩
  rw [Int.toNat_natCast]
  rw [List.length_append] at hap
  obtain ⟨hap1, hap2⟩ := hap
  have hm2 : (some b2, Obj.cells (arr (intC .i64) us j2).toArray (ρ.t 3) (0, 0)) ∈ [(ob, Obj.cells (arr (intC .i64) ys j).toArray (ρ.t 3) (0, 0)), (some b2, Obj.cells (arr (intC .i64) us j2).toArray (ρ.t 3) (0, 0))] := .tail _ (.head _)
  have hvs : ∀ q v, (us.flatMap (intC .i64))[q]? = some v → w.cell? ⟨b2, 0 + q, none⟩ = some v := fun q v hq => by
    rw [Nat.zero_add, hin.cell_own hm2]
    rw [List.getElem?_toArray, arr, List.getElem?_append_left (List.getElem?_eq_some_iff.1 hq).1]; exact hq
  have hcl := Z6f xs
  have hvl := Z6f us
  have h1c := Zit xs
  have h1v := Zit us
  by_cases hend : p = n
  · subst hend
    by_cases hr : p + us.length ≤ c
    · -- there is room at the end
      obtain ⟨o, ho1, ho2, rfl, ho4⟩ := hQ.ex
      have hb := ho4 (by omega)
      cases ob with
      | none => have := hz rfl; omega
      | some b =>
        simp only [sb, Option.map_some, Addr.add_lit, Nat.zero_add] at hb
        subst hb
        have hhd : (some b, Obj.cells (arr (intC .i64) ys j).toArray (ρ.t 3) (0, 0)) ∈ [(some b, Obj.cells (arr (intC .i64) ys j).toArray (ρ.t 3) (0, 0)), (some b2, Obj.cells (arr (intC .i64) us j2).toArray (ρ.t 3) (0, 0))] := .head _
        have hsz := Zkd ys j
        refine Calls.mono (Any2.slices_Insert_int_end_room L b o p c b2 0 us.length c2 (us.flatMap (intC .i64)) w hm hr (by omega) hvl (fun q hq => ?_) (fun q _ => hin.frozen_own hhd _) hvs h1v) ?_
        · rw [hin.cell_own hhd, Array.getElem?_eq_getElem (by rw [hsz]; omega)]; rfl
        · rintro e w' ⟨rfl, rfl⟩
          have h5 := hin.setCells P (Take.head _ _) (o := o + p) (vs := us.flatMap (intC .i64)) (by rw [hsz, hvl]; omega) h1v
          refine ⟨_, _, ⟨some ⟨b, o, none⟩, p + us.length, c, some b, N + us.length, C, ys ++ us, j.drop us.length, rfl, rfl, ⟨o, by omega, by omega, ?_, fun _ => by simp [sb, Addr.add_lit]⟩, by rw [List.length_append]; omega, by omega, by rw [List.length_drop]; omega, (fun e => by cases e), hC⟩, rfl, ?_⟩
          · rw [List.take_of_length_le (by omega), List.drop_eq_nil_of_le (show (ys.drop o).length ≤ p by omega), List.append_nil, List.drop_append_of_le_length (by omega)]
          · have e1 : ((arr (intC .i64) ys j).toArray.toList.take (o + p) ++ us.flatMap (intC .i64) ++ (arr (intC .i64) ys j).toArray.toList.drop (o + p + (us.flatMap (intC .i64)).length)).toArray = (arr (intC .i64) (ys ++ us) (j.drop us.length)).toArray := by
              have e2 := Z6f ys
              simp only [arr, List.flatMap_append]
              rw [hvl, List.take_left' (by omega), List.drop_append, List.drop_eq_nil_of_le (by omega), List.nil_append, e2, show o + p + us.length - ys.length = us.length by omega]
            rw [← e1]; exact h5
    · -- a new row
      refine Calls.mono (Any2.slices_Insert_int_end_grow L base p c b2 0 us.length c2 (xs.flatMap (intC .i64)) (us.flatMap (intC .i64)) w hm hle (by omega) (by omega) (by omega) hvl hnil (fun a ha => Zh3 hR.ro ha) hvs h1v) ?_
      rintro e w' ⟨rfl, rfl⟩
      have hcap : p + us.length ≤ grownCap w (p + us.length) c (ρ.t 3) := by unfold grownCap Question.cut; simp only; omega
      refine ⟨_, _, ⟨_, p + us.length, grownCap w (p + us.length) c (ρ.t 3), some w.heap.size, p + us.length, grownCap w (p + us.length) c (ρ.t 3), xs ++ us, (Builtin.zeroCells (Value.int .i64 0).cells (grownCap w (p + us.length) c (ρ.t 3) - (p + us.length))).toList, rfl, rfl, ?_, by rw [List.length_append]; omega, hcap, by rw [Array.length_toList, size_zeroCells]; rfl, (fun e => by cases e), Zi1 (by omega)⟩, rfl, ?_⟩
      · rw [List.take_of_length_le (by omega), List.drop_eq_nil_of_le (by omega), List.append_nil]
        exact Qu.self (some w.heap.size) (xs ++ us) _ _
      · have e2 : ((xs.flatMap (intC .i64) ++ us.flatMap (intC .i64)).toArray ++ Builtin.zeroCells (Value.int .i64 0).cells (grownCap w (p + us.length) c (ρ.t 3) - (p + us.length))) = (arr (intC .i64) (xs ++ us) (Builtin.zeroCells (Value.int .i64 0).cells (grownCap w (p + us.length) c (ρ.t 3) - (p + us.length))).toList).toArray := by
          simp only [arr, List.flatMap_append]
          apply Array.ext'
          simp [List.append_assoc]
        rw [e2]
        exact (hin.drew.alloc _).pick (Z02 (Take.head _ _) (Z02 (Take.tail (Take.head _ _)) Z08))
  · have hpn : p < n := by omega
    obtain ⟨o, ho1, ho2, rfl, ho4⟩ := hQ.ex
    have hb := ho4 (by omega)
    cases ob with
    | none => have := hz rfl; omega
    | some b =>
      simp only [sb, Option.map_some, Addr.add_lit, Nat.zero_add] at hb
      subst hb
      have hhd : (some b, Obj.cells (arr (intC .i64) ys j).toArray (ρ.t 3) (0, 0)) ∈ [(some b, Obj.cells (arr (intC .i64) ys j).toArray (ρ.t 3) (0, 0)), (some b2, Obj.cells (arr (intC .i64) us j2).toArray (ρ.t 3) (0, 0))] := .head _
      have hsz := Zkd ys j
      have hcs : ∀ q v, ((ys.drop o).flatMap (intC .i64))[q]? = some v → w.cell? ⟨b, o + q, none⟩ = some v := fun q v hq => by
        have := Zh3 hR.ro rfl q v hq
        rwa [Addr.add_lit] at this
      have hbb : b2 ≠ b := by
        have := hin.apart
        simp only [List.filterMap_cons, List.filterMap_nil, List.nodup_cons, List.mem_singleton] at this
        exact fun e => this.1 e.symm
      by_cases hr : n + us.length ≤ c
      · refine Calls.mono (Any2.slices_Insert_int_shift L b o n c p b2 0 us.length c2 ((ys.drop o).flatMap (intC .i64)) (us.flatMap (intC .i64)) w hpn hm hr (by omega) hbb (by rw [Z6f]; exact hl) hvl hcs (fun q hq => ?_) (fun q _ => hin.frozen_own hhd _) hvs h1c h1v _ _ _ _ (Zil hin hm2) (Zil hin hhd) (by rw [hsz]; omega) (hin.frozen_own hm2 _) (hin.frozen_own hm2 _)) ?_
        · rw [hin.cell_own hhd, Array.getElem?_eq_getElem (by rw [hsz]; omega)]; rfl
        · rintro e w' ⟨rfl, rfl⟩
          have hdl : (((ys.drop o).flatMap (intC .i64)).drop p).length = n - p := by rw [List.length_drop, Z6f]; omega
          have h5 := hin.drew.setCells P (Take.head _ _) (o := o + (p + us.length)) (vs := ((ys.drop o).flatMap (intC .i64)).drop p) (by rw [hsz, hdl]; omega) (fun v hv => h1c v (List.mem_of_mem_drop hv))
          have hsz2 : (arr (intC .i64) ys j).toArray.toList.length = ys.length + j.length := by rw [Array.length_toList]; exact hsz
          have h6 := h5.setCells P (Take.head _ _) (o := o + p) (vs := us.flatMap (intC .i64)) (by
            rw [List.size_toArray, List.length_append, List.length_append, List.length_take, hdl, hvl, List.length_drop, hsz2]; omega) h1v
          refine ⟨_, _, ⟨some ⟨b, o, none⟩, n + us.length, c, some b, N + us.length, C, ys.take o ++ ((ys.drop o).take p ++ us ++ (ys.drop o).drop p), j.drop us.length, rfl, rfl, ⟨o, by omega, by omega, ?_, fun _ => by simp [sb, Addr.add_lit]⟩, ?_, by omega, by rw [List.length_drop]; omega, (fun e => by cases e), hC⟩, rfl, ?_⟩
          · rw [List.drop_left' (by rw [List.length_take]; omega)]
          · simp only [List.length_append, List.length_take, List.length_drop]; omega
          · rw [← Zn8 (by omega) rfl (by omega)]
            exact h6
      · refine Calls.mono (Any2.slices_Insert_int_grow L b o n c p b2 0 us.length c2 ((ys.drop o).flatMap (intC .i64)) (us.flatMap (intC .i64)) w hpn hm hle (by omega) (by omega) (by rw [Z6f]; exact hl) hvl hcs hvs h1c h1v) ?_
        rintro e w' ⟨rfl, rfl⟩
        have hcap : n + us.length ≤ grownCap w (n + us.length) c (ρ.t 3) := by unfold grownCap Question.cut; simp only; omega
        obtain ⟨G, hG⟩ : ∃ G, G = grownCap w (n + us.length) c (ρ.t 3) := ⟨_, rfl⟩
        have hGm : G ≤ 9223372036854775807 := by rw [hG]; exact Zi1 (by omega)
        rw [← hG] at hcap ⊢
        have hzl : ∀ k, (Builtin.zeroCells (Value.int .i64 0).cells k).toList.length = k := fun k => by rw [Array.length_toList, size_zeroCells]; exact Nat.mul_one k
        have hdl : (((ys.drop o).flatMap (intC .i64)).drop p).length = n - p := by rw [List.length_drop, Z6f]; omega
        have htl : (((ys.drop o).flatMap (intC .i64)).take p).length = p := by rw [List.length_take, Z6f]; omega
        have h0 := hin.alloc (.cells ((((ys.drop o).flatMap (intC .i64)).take p).toArray ++ Builtin.zeroCells (Value.int .i64 0).cells (n + us.length - p) ++ Builtin.zeroCells (Value.int .i64 0).cells (G - (n + us.length))) (ρ.t 3))
        have hsz0 : ((((ys.drop o).flatMap (intC .i64)).take p).toArray ++ Builtin.zeroCells (Value.int .i64 0).cells (n + us.length - p) ++ Builtin.zeroCells (Value.int .i64 0).cells (G - (n + us.length))).size = p + (n + us.length - p) + (G - (n + us.length)) := by
          rw [Array.size_append, Array.size_append, List.size_toArray, htl, size_zeroCells, size_zeroCells]
          show p + _ * 1 + _ * 1 = _
          rw [Nat.mul_one, Nat.mul_one]
        have h1 := h0.drew.setCells P (Take.head _ _) (o := p) (vs := us.flatMap (intC .i64)) (by rw [hsz0, hvl]; omega) h1v
        have h2 := h1.drew.setCells P (Take.head _ _) (o := p + us.length) (vs := ((ys.drop o).flatMap (intC .i64)).drop p) (by
          have hs0 : ((((ys.drop o).flatMap (intC .i64)).take p).toArray ++ Builtin.zeroCells (Value.int .i64 0).cells (n + us.length - p) ++ Builtin.zeroCells (Value.int .i64 0).cells (G - (n + us.length))).toList.length = p + (n + us.length - p) + (G - (n + us.length)) := by rw [Array.length_toList]; exact hsz0
          rw [List.size_toArray, List.length_append, List.length_append, List.length_take, hdl, hvl, List.length_drop, hs0]; omega) (fun v hv => h1c v (List.mem_of_mem_drop hv))
        refine ⟨_, _, ⟨_, n + us.length, G, some w.heap.size, n + us.length, G, (ys.drop o).take p ++ us ++ (ys.drop o).drop p, (Builtin.zeroCells (Value.int .i64 0).cells (G - (n + us.length))).toList, rfl, rfl, Qu.self (some w.heap.size) _ _ _, ?_, hcap, by rw [hzl]; omega, (fun e => by cases e), hGm⟩, rfl, ?_⟩
        · simp only [List.length_append, List.length_take, List.length_drop]; omega
        · have key := ins_grow (((ys.drop o).flatMap (intC .i64)).take p) (((ys.drop o).flatMap (intC .i64)).drop p) (Builtin.zeroCells (Value.int .i64 0).cells (n + us.length - p)).toList (Builtin.zeroCells (Value.int .i64 0).cells (G - (n + us.length))).toList (us.flatMap (intC .i64)) (p := p) (m := us.length) htl hvl (by rw [hzl, hdl]; omega)
          have e1 : (arr (intC .i64) ((ys.drop o).take p ++ us ++ (ys.drop o).drop p) (Builtin.zeroCells (Value.int .i64 0).cells (G - (n + us.length))).toList) = ((ys.drop o).flatMap (intC .i64)).take p ++ us.flatMap (intC .i64) ++ ((ys.drop o).flatMap (intC .i64)).drop p ++ (Builtin.zeroCells (Value.int .i64 0).cells (G - (n + us.length))).toList := by
            rw [Zl7, Zh1]; simp only [arr, List.flatMap_append]
          rw [e1, ← key]
          have e3 : ((((ys.drop o).flatMap (intC .i64)).take p).toArray ++ Builtin.zeroCells (Value.int .i64 0).cells (n + us.length - p) ++ Builtin.zeroCells (Value.int .i64 0).cells (G - (n + us.length))).toList = ((ys.drop o).flatMap (intC .i64)).take p ++ (Builtin.zeroCells (Value.int .i64 0).cells (n + us.length - p)).toList ++ (Builtin.zeroCells (Value.int .i64 0).cells (G - (n + us.length))).toList := by simp
          rw [e3] at h2
          exact h2.pick (Z02 (Take.head _ _) (Z02 (Take.tail (Take.head _ _)) Z08))
end
end Go.Acq
namespace Go.Acq
open Go Go.RowKit
set_option linter.unusedSimpArgs false
set_option linter.unusedVariables false
def rdH : List (Nat × Nat × Heap) → Nat → Heap
  | [], _ => []
  | (j, _, R) :: l, i => cond (Nat.beq j i) R (rdH l i)
def rdK : List (Nat × Nat × Heap) → Nat → Option Nat
  | [], _ => none
  | (j, k, _) :: l, i => cond (Nat.beq j i) (some k) (rdK l i)
def RdOk (HR : Nat → List Value → Heap → Prop) : List (Nat × Nat × Heap) → Prop
  | [] => True
  | (_, k, R) :: l => (∀ r, Nat.ble r k = true → ∀ vl hb, HR r vl hb → ∃ rest, List.Perm hb (R ++ rest)) ∧ RdOk HR l
theorem rd1 {p : Option Nat × Obj} {H R : Heap} (h : Take p H R) : ∃ rest, List.Perm H ([p] ++ rest) := ⟨R, h⟩
def goodR (ops : Array Oper) (S : List Sp) (rd : List (Nat × Nat × Heap)) : Bool :=
  rd.all fun p => (List.range S.length).any fun q => Z6m S q && Nat.beq (Zcc S q) p.2.1 && Zak ops ops.size q p.1
theorem RdOk.get {HR : Nat → List Value → Heap → Prop} : ∀ {rd : List (Nat × Nat × Heap)}, RdOk HR rd → ∀ i r vl hb, (∀ k, rdK rd i = some k → r ≤ k) → HR r vl hb → ∃ rest, List.Perm hb (rdH rd i ++ rest)
 | [], _, i, r, vl, hb, _, _ => ⟨hb, List.Perm.refl _⟩
 | (j, k, R) :: l, ⟨h1, h2⟩, i, r, vl, hb, hk, hh => by
  simp only [rdH]
  cases hb' : Nat.beq j i with
  | true =>
   exact h1 r (Nat.ble_eq_true_of_le (hk k (by simp only [rdK, hb', cond_true]))) vl hb hh
  | false => exact RdOk.get h2 i r vl hb (fun k' h => hk k' (by simp only [rdK, hb', cond_false]; exact h)) hh
theorem goodR.get {ops : Array Oper} {S : List Sp} : ∀ {rd : List (Nat × Nat × Heap)}, goodR ops S rd = true → ∀ i k, rdK rd i = some k → ∃ q, q < S.length ∧ Z6m S q = true ∧ Zcc S q = k ∧ Zak ops ops.size q i = true
 | [], _, i, k, h => by cases h
 | (j, k', R) :: l, hg, i, k, h => by
  simp only [goodR, List.all_cons, Bool.and_eq_true] at hg
  simp only [rdK] at h
  cases hb' : Nat.beq j i with
  | true =>
   rw [hb'] at h
   injection h with h
   subst h
   have := Nat.eq_of_beq_eq_true hb'
   subst this
   obtain ⟨q, hq, h2⟩ := List.any_eq_true.1 hg.1
   simp only [Bool.and_eq_true] at h2
   exact ⟨q, List.mem_range.1 hq, h2.1.1, Nat.eq_of_beq_eq_true h2.1.2, h2.2⟩
  | false => rw [hb'] at h; exact goodR.get hg.2 i k h
section
variable {C : Cx} {ops : Array Oper} {Q : Exit → Act → World → Prop} {E : Env} {H : Heap}
def ObsG3 (C : Cx) (ops : Array Oper) (Q : Exit → Act → World → Prop) (S : List Sp) (HR : Nat → List Value → Heap → Prop) (hd : List (List Nat)) (rd : List (Nat × Nat × Heap)) (W : Env) (Hc : Heap) : List Nat → Prop
  | [] => True
  | i :: l => (cond (Z6m S i) (ObE2 C ops Q S HR hd W Hc i) (ObQ C ops Q S W (rdH rd i ++ Hc) i)) ∧ ObsG3 C ops Q S HR hd rd W Hc l
theorem ObsG3.get {S : List Sp} {HR : Nat → List Value → Heap → Prop} {hd : List (List Nat)} {rd : List (Nat × Nat × Heap)} {W : Env} {Hc : Heap} : ∀ {l : List Nat}, ObsG3 C ops Q S HR hd rd W Hc l → ∀ i, i ∈ l → (cond (Z6m S i) (ObE2 C ops Q S HR hd W Hc i) (ObQ C ops Q S W (rdH rd i ++ Hc) i))
 | [], _, i, h => by cases h
 | j :: l, ⟨h1, h2⟩, i, h => by
  rcases List.mem_cons.1 h with rfl | h
  · exact h1
  · exact ObsG3.get h2 i h
theorem T.drawG3 {id : Nat} (S : List Sp) (HR : Nat → List Value → Heap → Prop) (hd : List (List Nat)) (rd : List (Nat × Nat × Heap)) (hb0 Hc : Heap)
    (hm : C.P.follows .mixedOrders = true) (hb : Zej ops = true) (ht : Zfc ops S.length = true) (hgood : Zfl ops S hd = true) (hms : Nat.ble S.length ops.size = true)
    (hn : Zbf (Z6p ops (List.range S.length)) = true) (hgr : goodR ops S rd = true) (hro : RdOk HR rd) (h0 : HR 0 [] hb0) (hH : Pick (hb0 ++ Hc) H)
    (obs : ObsG3 C ops Q S HR hd rd (wo (Z6p ops (List.range S.length)) E) Hc (List.range S.length))
    (k : ∀ (vs : Nat → Value) (es : Nat → Heap) (hb : Heap), Zd6 S vs es (List.range S.length) → HR ((List.range S.length).filter (Z6m S)).length ((hd.getD ((List.range S.length).filter (Z6m S)).length []).map vs) hb →
      TO C ops Q (List.range' S.length (ops.size - S.length)) (Z3b ops vs (List.range S.length) ++ wo (Z6p ops (List.range S.length)) E) (hb ++ (Hc ++ Z3j es ((List.range S.length).filter fun j => !Z3r S j)))) :
    T C (.region id ops true) Q E H := by
  intro a w hf hi
  have hms' := Nat.le_of_ble_eq_true hms
  have hnd := Z60 hn
  simp only [Zfl, Bool.and_eq_true] at hgood
  obtain ⟨hg, hd0⟩ := hgood
  have hg' : ∀ i, i < S.length → _ := fun i hi => List.all_eq_true.1 hg i (List.mem_range.2 hi)
  have hd0' : hd.getD 0 [] = [] := by simpa using hd0
  let W := wo (Z6p ops (List.range S.length)) E
  have hW : ∀ t v, Z43 W t = some v → Z43 E t = some v ∧ ∀ j, j < S.length → Z2s ops j ≠ some t := fun t v h => by
    obtain ⟨h1, h2⟩ := Zdh E _ t v h
    exact ⟨h2, fun j hj hs => h1 (mem_slotsG.2 ⟨j, List.mem_range.2 hj, hs⟩)⟩
  let rk : (Nat → Bool) → Nat := fun done => ((List.range S.length).filter (fun i => Z6m S i && done i)).length
  refine Z9b (m := S.length) (Jp := fun done a w => ∃ (vs : Nat → Value) (es : Nat → Heap) (hb : Heap) (Es : Env),
      Fits C.n C.D Es a ∧ (∀ j d, j < S.length → done j = true → Z2s ops j = some d → Z43 Es d = some (vs j)) ∧ (∀ t v, Z43 W t = some v → Z43 Es t = some v) ∧
      (∀ j, j < S.length → done j = true → Zf2 S j ((Z20 S j).map vs) (vs j) (es j)) ∧ (∀ j, j ∈ hd.getD (rk done) [] → j < S.length ∧ done j = true) ∧
      HR (rk done) ((hd.getD (rk done) []).map vs) hb ∧ Inv C.w0 C.M w (hb ++ (Hc ++ Z2n es (Z3w S done) (List.range S.length))))
    hm hb ht hms' ?_ ?_ ?_
  · rintro done i o a w hil ho hdi hcl hafter _ ⟨vs, es, hb, Es, hfit, hfacts, hbase, hrels, hhd, hHR, hinv⟩
    have hgi := hg' i hil
    simp only [Bool.and_eq_true] at hgi
    obtain ⟨⟨⟨⟨hdeps, hdnd⟩, heat⟩, heate⟩, heffs⟩ := hgi
    have hdone : ∀ j, Zak ops ops.size i j = true → done j = true := fun j hj => Z44 hcl _ i j hj (fun o' ho' => by rw [ho] at ho'; injection ho' with ho'; subst ho'; exact hafter)
    have hdd : ∀ j, j ∈ Z20 S i → j < S.length ∧ done j = true := fun j hj => by
      have := List.all_eq_true.1 hdeps j hj
      simp only [Bool.and_eq_true] at this
      exact ⟨by simpa using this.1, hdone j this.2⟩
    have hreld : Zd6 S vs es (Z20 S i) := Zbu fun j hj => hrels j (hdd j hj).1 (hdd j hj).2
    have heat' : ∀ q, q < S.length → ∀ j, j ∈ Za5 S q → j < q ∧ j ∈ Z20 S q ∧ ∀ p, p < S.length → p ≠ q → j ∉ Za5 S p ∧ (j ∈ Z20 S p → Zak ops ops.size q p = true) := by
      intro q hq j hj
      have h1 := hg' q hq
      simp only [Bool.and_eq_true] at h1
      have h2 := List.all_eq_true.1 h1.1.1.2 j hj
      simp only [Bool.and_eq_true] at h2
      refine ⟨by simpa using h2.1.1, any_beq.1 h2.1.2, fun p hp hpq => ?_⟩
      have h3 := List.all_eq_true.1 h2.2 p (List.mem_range.2 hp)
      simp only [Bool.or_eq_true, Bool.and_eq_true, Bool.not_eq_true'] at h3
      rcases h3 with h3 | ⟨h3, h4⟩
      · exact absurd (Nat.eq_of_beq_eq_true h3) hpq
      · refine ⟨fun hm => (by rw [any_beq.2 hm] at h3; cases h3), fun hm => ?_⟩
        rcases h4 with h4 | h4
        · rw [any_beq.2 hm] at h4; cases h4
        · exact h4
    have hcl' : ∀ q, q < S.length → done q = true → ∀ p, Zak ops ops.size q p = true → done p = true := fun q hq hdq p hqp =>
      Z44 hcl _ q p hqp (fun o' ho' => hcl q o' ho' hdq)
    have hlive : ∀ j, j ∈ Z20 S i → Z3w S done j = true := by
      intro j hj
      unfold Z3w
      rw [(hdd j hj).2, Bool.true_and, Bool.not_eq_true', Bool.eq_false_iff]
      intro he
      obtain ⟨q, hq, h2⟩ := List.any_eq_true.1 he
      simp only [Bool.and_eq_true] at h2
      have hqS := List.mem_range.1 hq
      have hqi : q ≠ i := by rintro rfl; rw [hdi] at h2; cases h2.1
      have h3 := ((heat' q hqS j (any_beq.1 h2.2)).2.2 i hil (fun e => hqi e.symm)).2 hj
      have := hcl' q hqS h2.1 i h3
      rw [hdi] at this; cases this
    have hiD : i ∉ Z20 S i := fun hm => by
      have := (hdd i hm).2
      rw [hdi] at this; cases this
    have hstepL : ∀ j, j ≠ i → Z3w S (fun q => if q = i then true else done q) j = (Z3w S done j && !(Za5 S i).any (Nat.beq j)) := by
      intro j hji
      unfold Z3w
      simp only [if_neg hji]
      have : Z9r S (fun q => if q = i then true else done q) j = (Z9r S done j || (Za5 S i).any (Nat.beq j)) := by
        rw [Bool.eq_iff_iff]
        simp only [Z9r, List.any_eq_true, Bool.or_eq_true, Bool.and_eq_true]
        constructor
        · rintro ⟨q, hq, h1, h2⟩
          by_cases e : q = i
          · subst e; exact .inr h2
          · rw [if_neg e] at h1; exact .inl ⟨q, hq, h1, h2⟩
        · rintro (⟨q, hq, h1, h2⟩ | h2)
          · exact ⟨q, hq, by rw [h1]; simp, h2⟩
          · exact ⟨i, List.mem_range.2 hil, by simp, h2⟩
      rw [this]
      cases done j <;> cases Z9r S done j <;> cases (Za5 S i).any (Nat.beq j) <;> rfl
    have hlivei : Z3w S (fun q => if q = i then true else done q) i = true := by
      unfold Z3w
      simp only [if_true]
      rw [Bool.true_and, Bool.not_eq_true', Bool.eq_false_iff]
      intro he
      obtain ⟨q, hq, h2⟩ := List.any_eq_true.1 he
      simp only [Bool.and_eq_true] at h2
      have hqS := List.mem_range.1 hq
      obtain ⟨h3, h4, h5⟩ := heat' q hqS i (any_beq.1 h2.2)
      by_cases e : q = i
      · subst e; omega
      · have hdq : done q = true := by have := h2.1; rwa [if_neg e] at this
        have h6 := hg' q hqS
        simp only [Bool.and_eq_true] at h6
        have h7 := List.all_eq_true.1 h6.1.1.1.1 i h4
        simp only [Bool.and_eq_true] at h7
        have := hcl' q hqS hdq i h7.2
        rw [hdi] at this; cases this
    have hpermE : ∀ e' : Heap, ∃ Hx, List.Perm (Z2n es (Z3w S done) (List.range S.length)) (Z3j es (Z20 S i) ++ Hx) ∧
        List.Perm (Z2n (fun j => if j = i then e' else es j) (Z3w S (fun q => if q = i then true else done q)) (List.range S.length)) (e' ++ (Z3j es (Z8f S i) ++ Hx)) := fun e' =>
      Zi4 e' List.nodup_range (List.mem_range.2 hil) hiD (Z60 hdnd) (fun j hj => ⟨List.mem_range.2 (hdd j hj).1, hlive j hj⟩) (by unfold Z3w; rw [hdi]; rfl) hlivei hstepL (fun j hj => (heat' i hil j hj).2.1)
    obtain ⟨Hx, hHx, hHx'⟩ : ∃ Hx, List.Perm (Z2n es (Z3w S done) (List.range S.length)) (Z3j es (Z20 S i) ++ Hx) ∧
        ∀ e' : Heap, List.Perm (Z2n (fun j => if j = i then e' else es j) (Z3w S (fun q => if q = i then true else done q)) (List.range S.length)) (e' ++ (Z3j es (Z8f S i) ++ Hx)) := by
      obtain ⟨Hx, h1, _⟩ := hpermE []
      refine ⟨Hx, h1, fun e' => ?_⟩
      obtain ⟨Hy, h2, h3⟩ := hpermE e'
      exact h3.trans (List.Perm.append_left _ (List.Perm.append_left _ ((List.perm_append_left_iff _).1 (h2.symm.trans h1))))
    have hsub : ∀ t v, Z43 (Z3b ops vs (Z20 S i) ++ (W ++ Es)) t = some v → Z43 Es t = some v := by
      intro t v h
      rw [Z29, Z29] at h
      cases h1 : Z43 (Z3b ops vs (Z20 S i)) t with
      | some u =>
        rw [h1] at h; simp at h; subst h
        obtain ⟨j, hj, hs, rfl⟩ := Z83 (Za4 h1)
        exact hfacts j t (hdd j hj).1 (hdd j hj).2 hs
      | none =>
        rw [h1] at h
        simp only [Option.none_or] at h
        cases h2 : Z43 W t with
        | some u => rw [h2] at h; simp at h; subst h; exact hbase t u h2
        | none => rw [h2] at h; simpa using h
    have hsub2 : ∀ t v, Z43 Es t = some v → Z43 (Z3b ops vs (Z20 S i) ++ (W ++ Es)) t = some v := by
      intro t v h
      cases h1 : Z43 (Z3b ops vs (Z20 S i) ++ (W ++ Es)) t with
      | some u => rw [← hsub t u h1, h]
      | none =>
        rw [Z29, Z29, h] at h1
        cases h2 : Z43 (Z3b ops vs (Z20 S i)) t <;> cases h3 : Z43 W t <;> simp [h2, h3] at h1
    have hslot : Z2s ops i = o.dst := by simp [Z2s, ho]
    have hfin : ∀ (v : Value) (e' hb' : Heap) (a' : Act) (w' : World), Zf2 S i ((Z20 S i).map vs) v e' → (∀ j, j ∈ hd.getD (rk (fun q => if q = i then true else done q)) [] → j < S.length ∧ (if j = i then true else done j) = true) →
        HR (rk (fun q => if q = i then true else done q)) ((hd.getD (rk (fun q => if q = i then true else done q)) []).map (fun j => if j = i then v else vs j)) hb' →
        Fits C.n C.D (Zfg (Z2s ops i) v (Z3b ops vs (Z20 S i) ++ (W ++ Es))) a' → Inv C.w0 C.M w' (hb' ++ (Hc ++ (e' ++ (Z3j es (Z8f S i) ++ Hx)))) →
        ∃ (vs : Nat → Value) (es : Nat → Heap) (hb : Heap) (Es : Env), Fits C.n C.D Es a' ∧ (∀ j d, j < S.length → (if j = i then true else done j) = true → Z2s ops j = some d → Z43 Es d = some (vs j)) ∧ (∀ t v, Z43 W t = some v → Z43 Es t = some v) ∧
          (∀ j, j < S.length → (if j = i then true else done j) = true → Zf2 S j ((Z20 S j).map vs) (vs j) (es j)) ∧ (∀ j, j ∈ hd.getD (rk (fun q => if q = i then true else done q)) [] → j < S.length ∧ (if j = i then true else done j) = true) ∧
          HR (rk (fun q => if q = i then true else done q)) ((hd.getD (rk (fun q => if q = i then true else done q)) []).map vs) hb ∧ Inv C.w0 C.M w' (hb ++ (Hc ++ Z2n es (Z3w S (fun q => if q = i then true else done q)) (List.range S.length))) := by
      intro v e' hb' a' w' hrel hhd' hHR' hfit' hinv'
      refine ⟨fun j => if j = i then v else vs j, fun j => if j = i then e' else es j, hb', Zfg (Z2s ops i) v (Z3b ops vs (Z20 S i) ++ (W ++ Es)), hfit', fun j d hj hdj hs => ?_, fun t u h => ?_, fun j hj hdj => ?_, hhd', hHR', ?_⟩
      · show Z43 _ d = some (if j = i then v else vs j)
        by_cases e : j = i
        · subst e; rw [hs, if_pos rfl]; simp [Zfg, Z2c]
        · rw [if_neg e]
          have hdj' : done j = true := by simpa [e] using hdj
          have h1 := hsub2 _ _ (hfacts j d hj hdj' hs)
          cases hsi : Z2s ops i with
          | none => exact h1
          | some di =>
            simp only [Zfg, Z2c]
            rw [if_neg]
            · exact h1
            · rintro rfl
              exact e (Zbd hnd j i di (List.mem_range.2 hj) (List.mem_range.2 hil) hs hsi)
      · have h1 := hsub2 _ _ (hbase t u h)
        cases hsi : Z2s ops i with
        | none => exact h1
        | some di =>
          simp only [Zfg, Z2c]
          rw [if_neg]
          · exact h1
          · rintro rfl
            exact (hW _ _ h).2 i hil hsi
      · have hmapdeps : ∀ q, q < S.length → (if q = i then true else done q) = true → (Z20 S q).map (fun j => if j = i then v else vs j) = (Z20 S q).map vs := by
          intro q hq hdq
          apply List.map_congr_left
          intro r hr
          have hrq := hg' q hq
          simp only [Bool.and_eq_true] at hrq
          have hrr := List.all_eq_true.1 hrq.1.1.1.1 r hr
          simp only [Bool.and_eq_true] at hrr
          have hne : r ≠ i := by
            rintro rfl
            by_cases e : q = r
            · subst e
              have := hdone q hrr.2
              rw [hdi] at this; cases this
            · have hdq' : done q = true := by simpa [e] using hdq
              have : done r = true := by
                obtain ⟨oq, hoq⟩ : ∃ oq, ops[q]? = some oq := ⟨ops[q]'(by omega), Array.getElem?_eq_getElem (by omega)⟩
                exact Z44 hcl _ q r hrr.2 (fun o' ho' => hcl q o' ho' hdq')
              rw [hdi] at this; cases this
          rw [if_neg hne]
        rw [hmapdeps j hj hdj]
        by_cases e : j = i
        · subst e; simpa using hrel
        · simp only [if_neg e]
          exact hrels j hj (by simpa [e] using hdj)
      · exact hinv'.perm (List.Perm.append_left _ (List.Perm.append_left _ (hHx' e').symm))
    have hrk : Z6m S i = false → rk (fun q => if q = i then true else done q) = rk done := by
      intro he
      show ((List.range S.length).filter _).length = _
      congr 1
      apply List.filter_congr
      intro j _
      by_cases e : j = i
      · subst e; simp [he]
      · simp [e]
    cases he : Z6m S i with
    | false =>
      have hob := obs.get i (List.mem_range.2 hil)
      rw [he] at hob
      simp only [cond_false] at hob
      have hrkle : ∀ k, rdK rd i = some k → rk done ≤ k := by
        intro k hk
        obtain ⟨q, hq, heq, hrq, hreach⟩ := goodR.get hgr i k hk
        subst hrq
        have hdq : done q = false := by
          cases hdq : done q with
          | false => rfl
          | true => have := hcl' q hq hdq i hreach; rw [hdi] at this; cases this
        show ((List.range S.length).filter (fun i => Z6m S i && done i)).length ≤ ((List.range q).filter (Z6m S)).length
        have hsplit : List.range S.length = List.range q ++ List.range' q (S.length - q) := by
          rw [List.range_eq_range', List.range_eq_range']
          have := List.range'_append_1 (s := 0) (m := q) (n := S.length - q)
          rw [Nat.zero_add] at this
          rw [this]
          congr 1; omega
        have h2 : (List.range' q (S.length - q)).filter (fun j => Z6m S j && done j) = [] := by
          rw [List.filter_eq_nil_iff]
          intro j hj
          have hjr := List.mem_range'_1.1 hj
          cases hej : Z6m S j with
          | false => simp
          | true =>
            cases hdj : done j with
            | false => simp
            | true =>
              exfalso
              by_cases e : j = q
              · subst e; rw [hdq] at hdj; cases hdj
              · have hgj := hg' j (by omega)
                simp only [Bool.and_eq_true] at hgj
                have h3 := hgj.2
                rw [hej] at h3
                simp only [Bool.not_true, Bool.false_or, Bool.and_eq_true] at h3
                have h4 := List.all_eq_true.1 h3.1 q (List.mem_range.2 (by omega))
                rw [heq] at h4
                simp only [Bool.not_true, Bool.false_or] at h4
                have := hcl' j (by omega) hdj q h4
                rw [hdq] at this; cases this
        rw [hsplit, List.filter_append, h2, List.append_nil]
        have : ∀ l : List Nat, (l.filter (fun i => Z6m S i && done i)).length ≤ (l.filter (Z6m S)).length := by
          intro l
          induction l with
          | nil => simp
          | cons x l ih =>
            rw [List.filter_cons, List.filter_cons]
            cases h1 : Z6m S x <;> cases h2 : done x <;> simp <;> omega
        exact this _
      obtain ⟨rest, hrest⟩ := hro.get i (rk done) _ hb hrkle hHR
      have hh := hob vs es Es (Hx ++ rest) hreld a w (hfit.weak hsub) (hinv.perm (by
        refine (List.Perm.append hrest (List.Perm.append_left Hc hHx)).trans ?_
        rw [List.append_assoc, List.append_assoc]
        refine List.Perm.append_left _ ?_
        refine List.perm_append_comm.trans ?_
        rw [List.append_assoc, List.append_assoc]))
      refine wpOpIn_mono ?_ (Zgj hh)
      rintro a' w' ⟨v, e', hrel, hfit', hinv'⟩
      refine hfin v e' hb a' w' hrel ?_ ?_ hfit' (hinv'.perm ?_)
      · rw [hrk he]
        intro j hj
        obtain ⟨h1, h2⟩ := hhd j hj
        exact ⟨h1, by rw [h2]; simp⟩
      · rw [hrk he]
        have : (hd.getD (rk done) []).map (fun j => if j = i then v else vs j) = (hd.getD (rk done) []).map vs := by
          apply List.map_congr_left
          intro j hj
          rw [if_neg]
          rintro rfl
          have := (hhd j hj).2
          rw [hdi] at this; cases this
        rw [this]
        exact hHR
      · -- e' ++ ((R ++ Hc) ++ (ents ++ (Hx ++ rest)))  ~  hb ++ (Hc ++ (e' ++ (ents ++ Hx)))
        generalize Z3j es (Z8f S i) = A
        refine List.Perm.trans ?_ (List.Perm.append_right _ hrest.symm)
        generalize rdH rd i = R
        have e1 : e' ++ ((R ++ Hc) ++ (A ++ (Hx ++ rest))) = ((e' ++ (R ++ Hc)) ++ (A ++ Hx)) ++ rest := by simp only [List.append_assoc]
        have e2 : (R ++ rest) ++ (Hc ++ (e' ++ (A ++ Hx))) = R ++ (rest ++ (Hc ++ (e' ++ (A ++ Hx)))) := by simp only [List.append_assoc]
        rw [e1, e2]
        have p1 : List.Perm (e' ++ (R ++ Hc)) (R ++ (Hc ++ e')) := by
          refine List.perm_append_comm.trans ?_
          rw [List.append_assoc]
        refine (List.Perm.append_right rest (List.Perm.append_right (A ++ Hx) p1)).trans ?_
        have e3 : ((R ++ (Hc ++ e')) ++ (A ++ Hx)) ++ rest = R ++ ((Hc ++ (e' ++ (A ++ Hx))) ++ rest) := by simp only [List.append_assoc]
        rw [e3]
        exact List.Perm.append_left R List.perm_append_comm
    | true =>
      have hob := obs.get i (List.mem_range.2 hil)
      rw [he] at hob
      simp only [cond_true] at hob
      rw [he] at heffs
      simp only [Bool.not_true, Bool.false_or, Bool.and_eq_true] at heffs
      obtain ⟨hchain, hnext⟩ := heffs
      have hrki : rk done = Zcc S i := by
        show ((List.range S.length).filter _).length = ((List.range i).filter (Z6m S)).length
        have hsplit : List.range S.length = List.range i ++ List.range' i (S.length - i) := by
          rw [List.range_eq_range', List.range_eq_range']
          have := List.range'_append_1 (s := 0) (m := i) (n := S.length - i)
          rw [Nat.zero_add] at this
          rw [this]
          congr 1; omega
        rw [hsplit, List.filter_append]
        have h1 : (List.range i).filter (fun j => Z6m S j && done j) = (List.range i).filter (Z6m S) := by
          apply List.filter_congr
          intro j hj
          have := List.all_eq_true.1 hchain j hj
          simp only [Bool.or_eq_true, Bool.not_eq_true'] at this
          rcases this with h | h
          · simp [h]
          · simp [hdone j h]
        have h2 : (List.range' i (S.length - i)).filter (fun j => Z6m S j && done j) = [] := by
          rw [List.filter_eq_nil_iff]
          intro j hj
          have hjr := List.mem_range'_1.1 hj
          cases hej : Z6m S j with
          | false => simp
          | true =>
            cases hdj : done j with
            | false => simp
            | true =>
              exfalso
              by_cases e : j = i
              · subst e; rw [hdi] at hdj; cases hdj
              · have hgj := hg' j (by omega)
                simp only [Bool.and_eq_true] at hgj
                have h3 := hgj.2
                rw [hej] at h3
                simp only [Bool.not_true, Bool.false_or, Bool.and_eq_true] at h3
                have h4 := List.all_eq_true.1 h3.1 i (List.mem_range.2 (by omega))
                rw [he] at h4
                simp only [Bool.not_true, Bool.false_or] at h4
                have : done i = true := Z44 hcl _ j i h4 (fun o' ho' => hcl j o' ho' hdj)
                rw [hdi] at this; cases this
        rw [h1, h2, List.append_nil]
      have hrki' : rk (fun q => if q = i then true else done q) = Zcc S i + 1 := by
        rw [← hrki]
        show ((List.range S.length).filter _).length = ((List.range S.length).filter _).length + 1
        have : ∀ l : List Nat, l.Nodup → i ∈ l → (l.filter (fun j => Z6m S j && (if j = i then true else done j))).length = (l.filter (fun j => Z6m S j && done j)).length + 1 := by
          intro l
          induction l with
          | nil => intro _ h; cases h
          | cons j l ih =>
            intro hn hm
            simp only [List.nodup_cons] at hn
            by_cases e : j = i
            · subst e
              have hc : l.filter (fun q => Z6m S q && (if q = j then true else done q)) = l.filter (fun q => Z6m S q && done q) := by
                apply List.filter_congr
                intro q hq
                have : q ≠ j := by rintro rfl; exact hn.1 hq
                simp [this]
              rw [List.filter_cons_of_pos (by simp [he]), List.filter_cons_of_neg (by simp [hdi]), hc, List.length_cons]
            · have hm' : i ∈ l := by rcases List.mem_cons.1 hm with h | h; (exact absurd h.symm e); exact h
              have := ih hn.2 hm'
              simp only [List.filter_cons, e, if_false]
              split
              · simp only [List.length_cons]; omega
              · exact this
        exact this _ List.nodup_range (List.mem_range.2 hil)
      rw [hrki] at hHR
      have hh := hob vs es Es Hx hb hreld hHR a w (hfit.weak hsub) (hinv.perm (List.Perm.append_left _ (List.Perm.append_left _ hHx)))
      refine wpOpIn_mono ?_ (Zgj hh)
      rintro a' w' ⟨v, hb', e', hrel, hHR', hfit', hinv'⟩
      have hrest : Z8f S i = Z20 S i := by
        have h0 : Za5 S i = [] := by
          rw [he] at heate; simpa using heate
        unfold Z8f; rw [h0]; simp
      refine hfin v e' hb' a' w' hrel ?_ ?_ hfit' (by rw [hrest]; exact hinv')
      · rw [hrki']
        intro j hj
        have := List.all_eq_true.1 hnext j hj
        simp only [Bool.or_eq_true, Bool.and_eq_true] at this
        rcases this with h | ⟨h1, h2⟩
        · have := Nat.eq_of_beq_eq_true h; subst this; exact ⟨hil, by simp⟩
        · exact ⟨by simpa using h1, by rw [hdone j h2]; simp⟩
      · rw [hrki']
        have : (fun j => _root_.cond (Nat.beq j i) v (vs j)) = (fun j => if j = i then v else vs j) := by
          funext j
          by_cases e : j = i
          · subst e
            have : Nat.beq j j = true := by simp
            rw [this, if_pos rfl]; rfl
          · rw [if_neg e]
            have : Nat.beq j i = false := by
              cases hb : Nat.beq j i
              · rfl
              · exact absurd (Nat.eq_of_beq_eq_true hb) e
            rw [this]; rfl
        rw [← this]
        exact hHR'
  · rintro done a w hall ⟨vs, es, hb, Es, hfit, hfacts, hbase, hrels, hhd, hHR, hinv⟩
    have hrk : rk done = ((List.range S.length).filter (Z6m S)).length := by
      show ((List.range S.length).filter _).length = _
      congr 1
      apply List.filter_congr
      intro j hj
      simp [hall j (List.mem_range.1 hj)]
    rw [hrk] at hHR
    refine k vs es hb (Zbu fun j hj => hrels j (List.mem_range.1 hj) (hall j (List.mem_range.1 hj))) hHR a w (hfit.weak fun t v h => ?_) ?_
    · rw [Z29] at h
      cases h1 : Z43 (Z3b ops vs (List.range S.length)) t with
      | some u =>
        rw [h1] at h; simp at h; subst h
        obtain ⟨j, hj, hs, rfl⟩ := Z83 (Za4 h1)
        have hj' := List.mem_range.1 hj
        exact hfacts j t hj' (hall j hj') hs
      | none => rw [h1] at h; exact hbase t v (by simpa using h)
    · have h1 : Z2n es (Z3w S done) (List.range S.length) = Z3j es ((List.range S.length).filter fun j => !Z3r S j) := by
        have key : ∀ l : List Nat, (∀ j, j ∈ l → j < S.length) → Z2n es (Z3w S done) l = Z3j es (l.filter fun j => !Z3r S j) := by
          intro l
          induction l with
          | nil => intro _; rfl
          | cons j l ih =>
            intro h
            have ih := ih fun q hq => h q (.tail _ hq)
            have hj : Z3w S done j = !Z3r S j := by
              unfold Z3w Z9r Z3r
              rw [hall j (h j (.head _)), Bool.true_and]
              congr 1
              rw [Bool.eq_iff_iff]
              simp only [List.any_eq_true, Bool.and_eq_true]
              constructor
              · rintro ⟨q, hq, _, h2⟩; exact ⟨q, hq, h2⟩
              · rintro ⟨q, hq, h2⟩; exact ⟨q, hq, hall q (List.mem_range.1 hq), h2⟩
            unfold Z2n at ih ⊢
            rw [List.flatMap_cons, ih, hj, List.filter_cons]
            cases (!Z3r S j) <;> simp [Z3j]
        exact key _ fun j hj => List.mem_range.1 hj
      rw [← h1]
      exact hinv
  · have hrk0 : rk (fun _ => false) = 0 := by
      show ((List.range S.length).filter _).length = 0
      simp
    refine ⟨fun _ => undef, fun _ => [], hb0, E, hf, fun j d _ h => by simp at h, fun t v h => (hW t v h).1, fun j _ h => by simp at h, ?_, ?_, ?_⟩
    · rw [hrk0, hd0']; intro j hj; cases hj
    · rw [hrk0, hd0']; exact h0
    · have : Z2n (fun _ => []) (Z3w S fun _ => false) (List.range S.length) = [] := by simp [Z2n]
      rw [this, List.append_nil]
      exact (hi.pick hH).ofHeap rfl rfl rfl rfl
theorem T.drawL3 {id : Nat} (S : List Sp) (sl : List Nat) (m : Nat) (HR : Nat → List Value → Heap → Prop) (hd : List (List Nat)) (rd : List (Nat × Nat × Heap)) (hb0 Hc : Heap)
    (hm : C.P.follows .mixedOrders = true) (hsm : S.length = m) (hsl : Z6p ops (List.range m) = sl) (hb : Zej ops = true) (ht : Zfc ops m = true) (hgood : Zfl ops S hd = true) (hms : Nat.ble m ops.size = true)
    (hn : Zbf sl = true) (hgr : goodR ops S rd = true) (hro : RdOk HR rd) (h0 : HR 0 [] hb0) (hH : Pick (hb0 ++ Hc) H)
    (obs : ObsG3 C ops Q S HR hd rd (wo sl E) Hc (List.range m))
    (k : ∀ (vs : Nat → Value) (es : Nat → Heap) (hb : Heap), Zd6 S vs es (List.range m) → HR ((List.range m).filter (Z6m S)).length ((hd.getD ((List.range m).filter (Z6m S)).length []).map vs) hb →
      TO C ops Q (List.range' m (ops.size - m)) (Z3b ops vs (List.range m) ++ wo sl E) (hb ++ (Hc ++ Z3j es ((List.range m).filter fun j => !Z3r S j)))) :
    T C (.region id ops true) Q E H := by
  subst hsm; subst hsl
  exact T.drawG3 S HR hd rd hb0 Hc hm hb ht hgood hms hn hgr hro h0 hH obs k
end
end Go.Acq
