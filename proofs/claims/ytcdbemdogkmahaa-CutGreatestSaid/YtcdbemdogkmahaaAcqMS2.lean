/- Plain models of functions: acequialaw01.Four, acequialaw02.awake, acequialow.Among, acequialow.Bools, acequialow.Ints, acequialow.Longs, acequialow.Some, acequialow.Within, api.Arc], csr.Flow, csr.Flow$1, csr.Len, csr.Make, csr.Make$1, csr.Res, csr.Tail, csr.counted, net.Check, net.Sum, net.of, net.of$1, net.of$1$1, net.rules. (Printed by sx.py.) -/
import Derived.Test.YtcdbemdogkmahaaAcqMaps
namespace Go.Acq
open Go
set_option linter.unusedVariables false
structure Net where
  N : Int
  S : Int
  T : Int
  Arcs : List Arc
  deriving DecidableEq
instance : Inhabited Net := ⟨⟨default, default, default, default⟩⟩
structure Csr where
  N : Int
  S : Int
  T : Int
  First : List Int
  Head : List Int
  Rev : List Int
  Cap : List Int
  Arc : List Int
  Back : List Bool
  deriving DecidableEq
instance : Inhabited Csr := ⟨⟨default, default, default, default, default, default, default, default, default⟩⟩
/-- acequia/acequialow.Among -/
def m_acequialow_Among (x0 : Int) (n1 : Int) : Option (Int) :=
  if n1 < 1 then
  (some 0)
  else
  gd (n1 ≠ 0) <|
  gd (i64ok ((x0.tmod n1) + n1)) <|
  gd (n1 ≠ 0) <|
  some (((x0.tmod n1) + n1).tmod n1)
/-- acequia/acequialow.Some -/
def m_acequialow_Some_j3 (n0 : Net) (arcs2 : Int) (r6 : Int) (Arcs20 : List Arc) (x30 : Int) (c38 : Int) : Option ((List Arc × Int) ⊕ (List Arc)) :=
  Option.bind (m_acequialow_Among (((n0.Arcs.take (min (n0.Arcs.length : Int) arcs2).toNat).getD x30.toNat default).fr) (2 + r6)) fun r39 =>
  Option.bind (m_acequialow_Among (((n0.Arcs.take (min (n0.Arcs.length : Int) arcs2).toNat).getD x30.toNat default).to) (2 + r6)) fun r41 =>
  gd (apok (Arcs20 ++ ([(Arc.mk r39 r41 (c38.tmod 1125899906842624))])).length 24) <|
  gd (i64ok (x30 + 1)) <|
  some (.inl ((Arcs20 ++ ([(Arc.mk r39 r41 (c38.tmod 1125899906842624))])), (x30 + 1)))
def m_acequialow_Some_s2 (n0 : Net) (arcs2 : Int) (r6 : Int) (Arcs20 : List Arc) (x30 : Int) : Option ((List Arc × Int) ⊕ (List Arc)) :=
  if x30 < ((n0.Arcs.take (min (n0.Arcs.length : Int) arcs2).toNat).length : Int) then
  (gd (inb x30 (n0.Arcs.take (min (n0.Arcs.length : Int) arcs2).toNat).length) <|
  if (((n0.Arcs.take (min (n0.Arcs.length : Int) arcs2).toNat).getD x30.toNat default).cap) < 0 then
  (gd (i64ok ((((n0.Arcs.take (min (n0.Arcs.length : Int) arcs2).toNat).getD x30.toNat default).cap) + 1)) <|
  gd (i64ok (-((((n0.Arcs.take (min (n0.Arcs.length : Int) arcs2).toNat).getD x30.toNat default).cap) + 1))) <|
  m_acequialow_Some_j3 n0 arcs2 r6 Arcs20 x30 (-((((n0.Arcs.take (min (n0.Arcs.length : Int) arcs2).toNat).getD x30.toNat default).cap) + 1)))
  else
  m_acequialow_Some_j3 n0 arcs2 r6 Arcs20 x30 (((n0.Arcs.take (min (n0.Arcs.length : Int) arcs2).toNat).getD x30.toNat default).cap))
  else
  some (.inr Arcs20)
def m_acequialow_Some_j4 (r6 : Int) (r11 : Int) (T18 : Int) (Arcs54 : List Arc) : Option (Net) :=
  some (Net.mk (2 + r6) r11 T18 Arcs54)
def m_acequialow_Some_j1 (n0 : Net) (arcs2 : Int) (r6 : Int) (r11 : Int) (T18 : Int) : Option (Net) :=
  gd (0 ≤ (min (n0.Arcs.length : Int) arcs2) ∧ (min (n0.Arcs.length : Int) arcs2) ≤ (n0.Arcs.length : Int)) <|
  Option.bind (loopM (fun s => m_acequialow_Some_s2 n0 arcs2 r6 s.1 s.2) FUEL ([], 0)) fun p2_0_0 => m_acequialow_Some_j4 r6 r11 T18 p2_0_0
def m_acequialow_Some (n0 : Net) (verts1 : Int) (arcs2 : Int) : Option (Net) :=
  gd (i64ok (verts1 - 1)) <|
  Option.bind (m_acequialow_Among n0.N (verts1 - 1)) fun r6 =>
  gd (i64ok (2 + r6)) <|
  Option.bind (m_acequialow_Among n0.S (2 + r6)) fun r11 =>
  Option.bind (m_acequialow_Among n0.T (2 + r6)) fun r13 =>
  if r11 = r13 then
  (gd (i64ok (r11 + 1)) <|
  gd ((2 + r6) ≠ 0) <|
  m_acequialow_Some_j1 n0 arcs2 r6 r11 ((r11 + 1).tmod (2 + r6)))
  else
  m_acequialow_Some_j1 n0 arcs2 r6 r11 r13
/-- acequia/net.of -/
def m_net_of_rules_4  : Option (Unit) :=
  some ()
/-- acequia/net.of -/
def m_net_of_rules_5  : Option (Unit) :=
  some ()
/-- acequia/net.rules -/
def m_net_rules  : Option (Unit) :=
  Option.bind m_net_of_rules_4 fun _ =>
  Option.bind m_net_of_rules_5 fun _ =>
  some ()
/-- acequia/net.rules$1 -/
def m_net_rules_1 (n0 : Net) : Option (Bool) :=
  if 2 ≤ n0.N then
  (some (decide (n0.N ≤ 4096)))
  else
  some false
/-- acequia/net.rules$2 -/
def m_net_rules_2 (n0 : Net) : Option (Bool) :=
  some (decide ((n0.Arcs.length : Int) ≤ 16384))
/-- acequia/net.vertex -/
def m_net_vertex (n0 : Net) (v1 : Int) : Option (Bool) :=
  if 0 ≤ v1 then
  (some (decide (v1 < n0.N)))
  else
  some false
/-- acequia/net.rules$3 -/
def m_net_rules_3 (n0 : Net) : Option (Bool) :=
  Option.bind (m_net_vertex n0 n0.S) fun r3 =>
  if r3 = true then
  (Option.bind (m_net_vertex n0 n0.T) fun r6 =>
  if r6 = true then
  (some (decide (n0.S ≠ n0.T)))
  else
  some false)
  else
  some false
/-- acequia/net.rules$4 -/
def m_net_rules_4 (n0 : Net) (a1 : Arc) : Option (Bool) :=
  Option.bind (m_net_vertex n0 a1.fr) fun r5 =>
  if r5 = true then
  (Option.bind (m_net_vertex n0 a1.to) fun r8 =>
  some r8)
  else
  some false
/-- acequia/net.of$1$1 -/
def m_net_of_1_1_rules_4 (a0 : Arc) (c2 : Net) : Option (Bool) :=
  Option.bind (m_net_rules_4 c2 a0) fun r3 =>
  some (!r3)
/-- slices.IndexFunc[[]acequia/api.Arc,acequia/api.Arc] -/
def m_slices_IndexFunc_Arc_of_1_1_rules_4_s1 (s0 : List Arc) (f1_1 : Net) (x1 : Int) : Option ((Int) ⊕ (Int ⊕ Unit)) :=
  if x1 < (s0.length : Int) then
  (gd (inb x1 s0.length) <|
  Option.bind (m_net_of_1_1_rules_4 (s0.getD x1.toNat default) f1_1) fun r4 =>
  if r4 = true then
  (some (.inr (.inl x1)))
  else
  gd (i64ok (x1 + 1)) <|
  some (.inl (x1 + 1)))
  else
  some (.inr (.inr ()))
def m_slices_IndexFunc_Arc_of_1_1_rules_4_j2  : Option (Int) :=
  some (-1)
def m_slices_IndexFunc_Arc_of_1_1_rules_4 (s0 : List Arc) (f1_1 : Net) : Option (Int) :=
  Option.bind (loopM (fun s => m_slices_IndexFunc_Arc_of_1_1_rules_4_s1 s0 f1_1 s) FUEL 0) fun o => match o with | .inl p1_0_0 => (some p1_0_0) | .inr () => m_slices_IndexFunc_Arc_of_1_1_rules_4_j2
/-- slices.ContainsFunc[[]acequia/api.Arc,acequia/api.Arc] -/
def m_slices_ContainsFunc_Arc_of_1_1_rules_4 (s0 : List Arc) (f1_1 : Net) : Option (Bool) :=
  Option.bind (m_slices_IndexFunc_Arc_of_1_1_rules_4 s0 f1_1) fun r1 =>
  some (decide (0 ≤ r1))
/-- acequia/net.of$1 -/
def m_net_of_1_rules_4 (n0 : Net) : Option (Bool) :=
  Option.bind (m_slices_ContainsFunc_Arc_of_1_1_rules_4 n0.Arcs n0) fun r3 =>
  some (!r3)
/-- acequia/net.rules$5 -/
def m_net_rules_5 (n0 : Net) (a1 : Arc) : Option (Bool) :=
  some (decide (0 ≤ a1.cap))
/-- acequia/net.of$1$1 -/
def m_net_of_1_1_rules_5 (a0 : Arc) (c2 : Net) : Option (Bool) :=
  Option.bind (m_net_rules_5 c2 a0) fun r3 =>
  some (!r3)
/-- slices.IndexFunc[[]acequia/api.Arc,acequia/api.Arc] -/
def m_slices_IndexFunc_Arc_of_1_1_rules_5_s1 (s0 : List Arc) (f1_1 : Net) (x1 : Int) : Option ((Int) ⊕ (Int ⊕ Unit)) :=
  if x1 < (s0.length : Int) then
  (gd (inb x1 s0.length) <|
  Option.bind (m_net_of_1_1_rules_5 (s0.getD x1.toNat default) f1_1) fun r4 =>
  if r4 = true then
  (some (.inr (.inl x1)))
  else
  gd (i64ok (x1 + 1)) <|
  some (.inl (x1 + 1)))
  else
  some (.inr (.inr ()))
def m_slices_IndexFunc_Arc_of_1_1_rules_5_j2  : Option (Int) :=
  some (-1)
def m_slices_IndexFunc_Arc_of_1_1_rules_5 (s0 : List Arc) (f1_1 : Net) : Option (Int) :=
  Option.bind (loopM (fun s => m_slices_IndexFunc_Arc_of_1_1_rules_5_s1 s0 f1_1 s) FUEL 0) fun o => match o with | .inl p1_0_0 => (some p1_0_0) | .inr () => m_slices_IndexFunc_Arc_of_1_1_rules_5_j2
/-- slices.ContainsFunc[[]acequia/api.Arc,acequia/api.Arc] -/
def m_slices_ContainsFunc_Arc_of_1_1_rules_5 (s0 : List Arc) (f1_1 : Net) : Option (Bool) :=
  Option.bind (m_slices_IndexFunc_Arc_of_1_1_rules_5 s0 f1_1) fun r1 =>
  some (decide (0 ≤ r1))
/-- acequia/net.of$1 -/
def m_net_of_1_rules_5 (n0 : Net) : Option (Bool) :=
  Option.bind (m_slices_ContainsFunc_Arc_of_1_1_rules_5 n0.Arcs n0) fun r3 =>
  some (!r3)
/-- acequia/net.Sum -/
def m_net_Sum_j2 (n0 : Net) (left3 : Int) (x4 : Int) (x10 : Bool) : Option ((Int × Int) ⊕ ((Int × Bool) ⊕ Int)) :=
  if x10 = true then
  (some (.inr (.inl (0, false))))
  else
  gd (i64ok (left3 - ((n0.Arcs.getD x4.toNat default).cap))) <|
  gd (i64ok (x4 + 1)) <|
  some (.inl ((left3 - ((n0.Arcs.getD x4.toNat default).cap)), (x4 + 1)))
def m_net_Sum_s1 (n0 : Net) (left3 : Int) (x4 : Int) : Option ((Int × Int) ⊕ ((Int × Bool) ⊕ Int)) :=
  if x4 < (n0.Arcs.length : Int) then
  (gd (inb x4 n0.Arcs.length) <|
  if ((n0.Arcs.getD x4.toNat default).cap) < 0 then
  (m_net_Sum_j2 n0 left3 x4 true)
  else
  m_net_Sum_j2 n0 left3 x4 (decide (left3 < ((n0.Arcs.getD x4.toNat default).cap))))
  else
  some (.inr (.inr left3))
def m_net_Sum_j3 (left14 : Int) : Option (Int × Bool) :=
  gd (i64ok (4611686018427387904 - left14)) <|
  some ((4611686018427387904 - left14), true)
def m_net_Sum (n0 : Net) : Option (Int × Bool) :=
  Option.bind (loopM (fun s => m_net_Sum_s1 n0 s.1 s.2) FUEL (4611686018427387904, 0)) fun o => match o with | .inl (p1_0_0, p1_0_1) => (some (p1_0_0, p1_0_1)) | .inr p1_1_0 => (m_net_Sum_j3 p1_1_0)
/-- acequia/net.rules$6 -/
def m_net_rules_6 (n0 : Net) : Option (Bool) :=
  Option.bind (m_net_Sum n0) fun (r3, r4) =>
  some r4
/-- acequia/net.Check -/
def m_net_Check_j1  : Option (Int) :=
  some 0
def m_net_Check (n0 : Net) : Option (Int) :=
  Option.bind m_net_rules fun _ =>
  Option.bind (m_net_rules_1 n0) fun r10 =>
  if (!r10) = true then
  (some 10)
  else
  Option.bind (m_net_rules_2 n0) fun r15 =>
  if (!r15) = true then
  (some 11)
  else
  Option.bind (m_net_rules_3 n0) fun r20 =>
  if (!r20) = true then
  (some 12)
  else
  Option.bind (m_net_of_1_rules_4 n0) fun r25 =>
  if (!r25) = true then
  (some 13)
  else
  Option.bind (m_net_of_1_rules_5 n0) fun r30 =>
  if (!r30) = true then
  (some 14)
  else
  Option.bind (m_net_rules_6 n0) fun r35 =>
  if (!r35) = true then
  (some 15)
  else
  m_net_Check_j1
/-- acequia/csr.counted -/
def m_csr_counted_s1 (n0 : Net) (xs7 : List Int) (x9 : Int) : Option ((List Int × Int) ⊕ (List Int)) :=
  if x9 < (n0.Arcs.length : Int) then
  (gd (inb x9 n0.Arcs.length) <|
  if ((n0.Arcs.getD x9.toNat default).fr) ≠ ((n0.Arcs.getD x9.toNat default).to) then
  (gd (i64ok (((n0.Arcs.getD x9.toNat default).fr) + 1)) <|
  gd (inb (((n0.Arcs.getD x9.toNat default).fr) + 1) xs7.length) <|
  gd (i64ok ((xs7.getD (((n0.Arcs.getD x9.toNat default).fr) + 1).toNat 0) + 1)) <|
  gd (inb (((n0.Arcs.getD x9.toNat default).fr) + 1) xs7.length) <|
  gd (i64ok (((n0.Arcs.getD x9.toNat default).to) + 1)) <|
  gd (inb (((n0.Arcs.getD x9.toNat default).to) + 1) (xs7.set (((n0.Arcs.getD x9.toNat default).fr) + 1).toNat ((xs7.getD (((n0.Arcs.getD x9.toNat default).fr) + 1).toNat 0) + 1)).length) <|
  gd (i64ok (((xs7.set (((n0.Arcs.getD x9.toNat default).fr) + 1).toNat ((xs7.getD (((n0.Arcs.getD x9.toNat default).fr) + 1).toNat 0) + 1)).getD (((n0.Arcs.getD x9.toNat default).to) + 1).toNat 0) + 1)) <|
  gd (inb (((n0.Arcs.getD x9.toNat default).to) + 1) (xs7.set (((n0.Arcs.getD x9.toNat default).fr) + 1).toNat ((xs7.getD (((n0.Arcs.getD x9.toNat default).fr) + 1).toNat 0) + 1)).length) <|
  gd (i64ok (x9 + 1)) <|
  some (.inl (((xs7.set (((n0.Arcs.getD x9.toNat default).fr) + 1).toNat ((xs7.getD (((n0.Arcs.getD x9.toNat default).fr) + 1).toNat 0) + 1)).set (((n0.Arcs.getD x9.toNat default).to) + 1).toNat (((xs7.set (((n0.Arcs.getD x9.toNat default).fr) + 1).toNat ((xs7.getD (((n0.Arcs.getD x9.toNat default).fr) + 1).toNat 0) + 1)).getD (((n0.Arcs.getD x9.toNat default).to) + 1).toNat 0) + 1)), (x9 + 1))))
  else
  gd (i64ok (x9 + 1)) <|
  some (.inl (xs7, (x9 + 1))))
  else
  some (.inr xs7)
def m_csr_counted_s3 (n0 : Net) (xs27 : List Int) (x29 : Int) : Option ((List Int × Int) ⊕ (List Int)) :=
  if x29 < n0.N then
  (gd (i64ok (x29 + 1)) <|
  gd (inb (x29 + 1) xs27.length) <|
  gd (inb x29 xs27.length) <|
  gd (i64ok ((xs27.getD (x29 + 1).toNat 0) + (xs27.getD x29.toNat 0))) <|
  gd (inb (x29 + 1) xs27.length) <|
  gd (i64ok (x29 + 1)) <|
  some (.inl ((xs27.set (x29 + 1).toNat ((xs27.getD (x29 + 1).toNat 0) + (xs27.getD x29.toNat 0))), (x29 + 1))))
  else
  some (.inr xs27)
def m_csr_counted_j4 (xs37 : List Int) : Option (List Int) :=
  some xs37
def m_csr_counted_j2 (n0 : Net) (xs25 : List Int) : Option (List Int) :=
  Option.bind (loopM (fun s => m_csr_counted_s3 n0 s.1 s.2) FUEL (xs25, 0)) fun p3_0_0 => m_csr_counted_j4 p3_0_0
def m_csr_counted (n0 : Net) : Option (List Int) :=
  gd (i64ok (n0.N + 1)) <|
  gd (mkok (n0.N + 1)) <|
  Option.bind (loopM (fun s => m_csr_counted_s1 n0 s.1 s.2) FUEL ((List.replicate ((n0.N + 1).toNat) (0 : Int)), 0)) fun p1_0_0 => m_csr_counted_j2 n0 p1_0_0
/-- slices.Clone[[]int,int] -/
def m_slices_Clone_int (s0 : List Int) : Option (List Int) :=
  gd (apok s0.length 8) <|
  some s0
/-- acequia/csr.Make$1 -/
def m_csr_Make_1 (from0 : Int) (to1 : Int) (most2 : Int) (arc3 : Int) (back4 : Bool) (c5 : List Int) (c6 : Csr) : Option (Int × List Int × Csr) :=
  gd (inb from0 c5.length) <|
  gd (inb from0 c5.length) <|
  gd (i64ok ((c5.getD from0.toNat 0) + 1)) <|
  gd (inb from0 c5.length) <|
  gd (inb (c5.getD from0.toNat 0) c6.Head.length) <|
  gd (inb (c5.getD from0.toNat 0) c6.Cap.length) <|
  gd (inb (c5.getD from0.toNat 0) c6.Arc.length) <|
  gd (inb (c5.getD from0.toNat 0) c6.Back.length) <|
  some ((c5.getD from0.toNat 0), (c5.set from0.toNat ((c5.getD from0.toNat 0) + 1)), (Csr.mk c6.N c6.S c6.T c6.First (c6.Head.set (c5.getD from0.toNat 0).toNat to1) c6.Rev (c6.Cap.set (c5.getD from0.toNat 0).toNat most2) (c6.Arc.set (c5.getD from0.toNat 0).toNat arc3) (c6.Back.set (c5.getD from0.toNat 0).toNat back4)))
/-- acequia/csr.Make -/
def m_csr_Make_s1 (n0 : Net) (r8 : List Int) (xs50 : List Int) (xs52 : List Int) (xs54 : List Int) (xs56 : List Int) (xs58 : List Bool) (xs60 : List Int) (x62 : Int) : Option ((List Int × List Int × List Int × List Int × List Bool × List Int × Int) ⊕ (List Int × List Int × List Int × List Int × List Bool)) :=
  if x62 < (n0.Arcs.length : Int) then
  (gd (inb x62 n0.Arcs.length) <|
  if ((n0.Arcs.getD x62.toNat default).fr) = ((n0.Arcs.getD x62.toNat default).to) then
  (gd (i64ok (x62 + 1)) <|
  some (.inl (xs50, xs52, xs54, xs56, xs58, xs60, (x62 + 1))))
  else
  Option.bind (m_csr_Make_1 ((n0.Arcs.getD x62.toNat default).fr) ((n0.Arcs.getD x62.toNat default).to) ((n0.Arcs.getD x62.toNat default).cap) x62 false xs60 (Csr.mk n0.N n0.S n0.T r8 xs50 xs52 xs54 xs56 xs58)) fun (r69, r70, r71) =>
  Option.bind (m_csr_Make_1 ((n0.Arcs.getD x62.toNat default).to) ((n0.Arcs.getD x62.toNat default).fr) 0 x62 true r70 (Csr.mk n0.N n0.S n0.T r8 r71.Head xs52 r71.Cap r71.Arc r71.Back)) fun (r78, r79, r80) =>
  gd (inb r69 xs52.length) <|
  gd (inb r78 (xs52.set r69.toNat r78).length) <|
  gd (i64ok (x62 + 1)) <|
  some (.inl (r80.Head, ((xs52.set r69.toNat r78).set r78.toNat r69), r80.Cap, r80.Arc, r80.Back, r79, (x62 + 1))))
  else
  some (.inr (xs50, xs52, xs54, xs56, xs58))
def m_csr_Make_j2 (n0 : Net) (r8 : List Int) (xs90 : List Int) (xs92 : List Int) (xs94 : List Int) (xs96 : List Int) (xs98 : List Bool) : Option (Csr × Int) :=
  some ((Csr.mk n0.N n0.S n0.T r8 xs90 xs92 xs94 xs96 xs98), 0)
def m_csr_Make (n0 : Net) : Option (Csr × Int) :=
  Option.bind (m_net_Check n0) fun r5 =>
  if r5 ≠ 0 then
  (some ((Csr.mk 0 0 0 ([]) ([]) ([]) ([]) ([]) ([])), r5))
  else
  Option.bind (m_csr_counted n0) fun r8 =>
  gd (inb n0.N r8.length) <|
  gd (mkok (r8.getD n0.N.toNat 0)) <|
  gd (mkok (r8.getD n0.N.toNat 0)) <|
  gd (mkok (r8.getD n0.N.toNat 0)) <|
  gd (mkok (r8.getD n0.N.toNat 0)) <|
  gd (mkok (r8.getD n0.N.toNat 0)) <|
  Option.bind (m_slices_Clone_int r8) fun r37 =>
  Option.bind (loopM (fun s => m_csr_Make_s1 n0 r8 s.1 s.2.1 s.2.2.1 s.2.2.2.1 s.2.2.2.2.1 s.2.2.2.2.2.1 s.2.2.2.2.2.2) FUEL ((List.replicate ((r8.getD n0.N.toNat 0).toNat) (0 : Int)), (List.replicate ((r8.getD n0.N.toNat 0).toNat) (0 : Int)), (List.replicate ((r8.getD n0.N.toNat 0).toNat) (0 : Int)), (List.replicate ((r8.getD n0.N.toNat 0).toNat) (0 : Int)), (List.replicate ((r8.getD n0.N.toNat 0).toNat) (false : Bool)), r37, 0)) fun (p1_0_0, p1_0_1, p1_0_2, p1_0_3, p1_0_4) => m_csr_Make_j2 n0 r8 p1_0_0 p1_0_1 p1_0_2 p1_0_3 p1_0_4
/-- acequia/csr.Len -/
def m_csr_Len (c0 : Csr) : Option (Int) :=
  some (c0.Head.length : Int)
/-- acequia/csr.Res -/
def m_csr_Res_j2 (c0 : Csr) (f1 : List Int) (xs8 : List Int) (x10 : Int) (x23 : Bool) : Option ((List Int × Int) ⊕ ((List Int × Int) ⊕ (List Int))) :=
  if x23 = true then
  (some (.inr (.inl ([], 20))))
  else
  gd (inb x10 c0.Cap.length) <|
  gd (inb (c0.Arc.getD x10.toNat 0) f1.length) <|
  gd (i64ok ((c0.Cap.getD x10.toNat 0) - (f1.getD (c0.Arc.getD x10.toNat 0).toNat 0))) <|
  gd (inb x10 xs8.length) <|
  gd (i64ok (x10 + 1)) <|
  some (.inl ((xs8.set x10.toNat ((c0.Cap.getD x10.toNat 0) - (f1.getD (c0.Arc.getD x10.toNat 0).toNat 0))), (x10 + 1)))
def m_csr_Res_s1 (c0 : Csr) (f1 : List Int) (r3 : Int) (xs8 : List Int) (x10 : Int) : Option ((List Int × Int) ⊕ ((List Int × Int) ⊕ (List Int))) :=
  if x10 < ((List.replicate r3.toNat (0 : Int)).length : Int) then
  (gd (inb x10 c0.Arc.length) <|
  if (f1.length : Int) ≤ (c0.Arc.getD x10.toNat 0) then
  (some (.inr (.inl ([], 20))))
  else
  gd (inb x10 c0.Back.length) <|
  if (c0.Back.getD x10.toNat false) = true then
  (gd (inb (c0.Arc.getD x10.toNat 0) f1.length) <|
  gd (inb x10 xs8.length) <|
  gd (i64ok (x10 + 1)) <|
  some (.inl ((xs8.set x10.toNat (f1.getD (c0.Arc.getD x10.toNat 0).toNat 0)), (x10 + 1))))
  else
  gd (inb (c0.Arc.getD x10.toNat 0) f1.length) <|
  if (f1.getD (c0.Arc.getD x10.toNat 0).toNat 0) < 0 then
  (m_csr_Res_j2 c0 f1 xs8 x10 true)
  else
  gd (inb (c0.Arc.getD x10.toNat 0) f1.length) <|
  gd (inb x10 c0.Cap.length) <|
  m_csr_Res_j2 c0 f1 xs8 x10 (decide ((c0.Cap.getD x10.toNat 0) < (f1.getD (c0.Arc.getD x10.toNat 0).toNat 0))))
  else
  some (.inr (.inr xs8))
def m_csr_Res_j3 (xs30 : List Int) : Option (List Int × Int) :=
  some (xs30, 0)
def m_csr_Res (c0 : Csr) (f1 : List Int) : Option (List Int × Int) :=
  Option.bind (m_csr_Len c0) fun r3 =>
  gd (mkok r3) <|
  Option.bind (loopM (fun s => m_csr_Res_s1 c0 f1 r3 s.1 s.2) FUEL ((List.replicate r3.toNat (0 : Int)), 0)) fun o => match o with | .inl (p1_0_0, p1_0_1) => (some (p1_0_0, p1_0_1)) | .inr p1_1_0 => (m_csr_Res_j3 p1_1_0)
/-- acequia/acequialow.Bools -/
def m_acequialow_Bools_s1 (a0 : List Bool) (b1 : List Bool) (x2 : Int) : Option ((Int) ⊕ (Bool ⊕ Unit)) :=
  if x2 < (a0.length : Int) then
  (gd (inb x2 a0.length) <|
  gd (inb x2 b1.length) <|
  if (!((a0.getD x2.toNat false) == (b1.getD x2.toNat false))) = true then
  (some (.inr (.inl false)))
  else
  gd (i64ok (x2 + 1)) <|
  some (.inl (x2 + 1)))
  else
  some (.inr (.inr ()))
def m_acequialow_Bools_j2  : Option (Bool) :=
  some true
def m_acequialow_Bools (a0 : List Bool) (b1 : List Bool) : Option (Bool) :=
  if (a0.length : Int) ≠ (b1.length : Int) then
  (some false)
  else
  Option.bind (loopM (fun s => m_acequialow_Bools_s1 a0 b1 s) FUEL 0) fun o => match o with | .inl p1_0_0 => (some p1_0_0) | .inr () => m_acequialow_Bools_j2
/-- acequia/acequialaw01.Four -/
def m_acequialaw01_Four  : Option (Net) :=
  some (Net.mk 4 0 3 ([(Arc.mk 0 1 5), (Arc.mk 0 2 4), (Arc.mk 1 3 3), (Arc.mk 2 3 6), (Arc.mk 1 2 2)]))
end Go.Acq
