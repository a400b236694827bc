/- Plain models of functions: acequialaw03.awake, acequialaw03.hops, flow.Excess, flow.Pre, flow.Pre$1, flow.Right, flow.Right$1, flow.Room, flow.Send, flow.Value, flow.Within, flow.all, flow.along, slices.Clone[[]int64,int64], slices.Contains[[]int,int], slices.Index[[]int,int]. (Printed by sx.py.) -/
import Derived.Test.YtcdbemdogkmahaaAcqMS2
namespace Go.Acq
open Go
set_option linter.unusedVariables false
structure Hop where
  Arc : Int
  Back : Bool
  deriving DecidableEq
instance : Inhabited Hop := ⟨⟨default, default⟩⟩
def hopC (x : Hop) : List Value := [.int .i64 x.Arc, .bool x.Back]
/-- acequia/flow.Within -/
def m_flow_Within_s1 (n0 : Net) (f1 : List Int) (x7 : Int) : Option ((Int) ⊕ (Bool ⊕ Unit)) :=
  if x7 < (n0.Arcs.length : Int) then
  (gd (inb x7 n0.Arcs.length) <|
  gd (inb x7 f1.length) <|
  if (f1.getD x7.toNat 0) < 0 then
  (some (.inr (.inl false)))
  else
  gd (inb x7 f1.length) <|
  if ((n0.Arcs.getD x7.toNat default).cap) < (f1.getD x7.toNat 0) then
  (some (.inr (.inl false)))
  else
  gd (i64ok (x7 + 1)) <|
  some (.inl (x7 + 1)))
  else
  some (.inr (.inr ()))
def m_flow_Within_j2  : Option (Bool) :=
  some true
def m_flow_Within (n0 : Net) (f1 : List Int) : Option (Bool) :=
  Option.bind (m_net_Check n0) fun r3 =>
  if r3 ≠ 0 then
  (some false)
  else
  if (f1.length : Int) ≠ (n0.Arcs.length : Int) then
  (some false)
  else
  Option.bind (loopM (fun s => m_flow_Within_s1 n0 f1 s) FUEL 0) fun o => match o with | .inl p1_0_0 => (some p1_0_0) | .inr () => m_flow_Within_j2
/-- acequia/flow.along -/
def m_flow_along_j4 (x7 : Int) (mp21 : List (Int × Int)) (to23 : Int) (x25 : Bool) : Option (((List (Int × Int)) × Int × Int) ⊕ (((List (Int × Int)) × Bool) ⊕ (List (Int × Int)))) :=
  if x25 = true then
  (some (.inr (.inl ([], false))))
  else
  gd (i64ok (x7 + 1)) <|
  some (.inl (mp21, to23, (x7 + 1)))
def m_flow_along_j3 (last6 : Int) (x7 : Int) (mp21 : List (Int × Int)) (from22 : Int) (to23 : Int) : Option (((List (Int × Int)) × Int × Int) ⊕ (((List (Int × Int)) × Bool) ⊕ (List (Int × Int)))) :=
  if 0 ≤ last6 then
  (m_flow_along_j4 x7 mp21 to23 (decide (from22 ≠ last6)))
  else
  m_flow_along_j4 x7 mp21 to23 false
def m_flow_along_j2 (n0 : Net) (l1 : List Hop) (mp5 : List (Int × Int)) (last6 : Int) (x7 : Int) (x13 : Bool) : Option (((List (Int × Int)) × Int × Int) ⊕ (((List (Int × Int)) × Bool) ⊕ (List (Int × Int)))) :=
  if x13 = true then
  (some (.inr (.inl ([], false))))
  else
  gd (inb ((l1.getD x7.toNat default).Arc) n0.Arcs.length) <|
  gd (i64ok ((getM 0 ((l1.getD x7.toNat default).Arc) mp5) + 1)) <|
  if (l1.getD x7.toNat default).Back = true then
  (gd (i64ok ((getM 0 ((l1.getD x7.toNat default).Arc) (putM ((l1.getD x7.toNat default).Arc) ((getM 0 ((l1.getD x7.toNat default).Arc) mp5) + 1) mp5)) - 2)) <|
  m_flow_along_j3 last6 x7 (putM ((l1.getD x7.toNat default).Arc) ((getM 0 ((l1.getD x7.toNat default).Arc) (putM ((l1.getD x7.toNat default).Arc) ((getM 0 ((l1.getD x7.toNat default).Arc) mp5) + 1) mp5)) - 2) (putM ((l1.getD x7.toNat default).Arc) ((getM 0 ((l1.getD x7.toNat default).Arc) mp5) + 1) mp5)) ((n0.Arcs.getD ((l1.getD x7.toNat default).Arc).toNat default).to) ((n0.Arcs.getD ((l1.getD x7.toNat default).Arc).toNat default).fr))
  else
  m_flow_along_j3 last6 x7 (putM ((l1.getD x7.toNat default).Arc) ((getM 0 ((l1.getD x7.toNat default).Arc) mp5) + 1) mp5) ((n0.Arcs.getD ((l1.getD x7.toNat default).Arc).toNat default).fr) ((n0.Arcs.getD ((l1.getD x7.toNat default).Arc).toNat default).to)
def m_flow_along_s1 (n0 : Net) (l1 : List Hop) (mp5 : List (Int × Int)) (last6 : Int) (x7 : Int) : Option (((List (Int × Int)) × Int × Int) ⊕ (((List (Int × Int)) × Bool) ⊕ (List (Int × Int)))) :=
  if x7 < (l1.length : Int) then
  (gd (inb x7 l1.length) <|
  if ((l1.getD x7.toNat default).Arc) < 0 then
  (m_flow_along_j2 n0 l1 mp5 last6 x7 true)
  else
  m_flow_along_j2 n0 l1 mp5 last6 x7 (decide ((n0.Arcs.length : Int) ≤ ((l1.getD x7.toNat default).Arc))))
  else
  some (.inr (.inr mp5))
def m_flow_along_j5 (mp28 : List (Int × Int)) : Option ((List (Int × Int)) × Bool) :=
  some (mp28, true)
def m_flow_along (n0 : Net) (l1 : List Hop) : Option ((List (Int × Int)) × Bool) :=
  Option.bind (loopM (fun s => m_flow_along_s1 n0 l1 s.1 s.2.1 s.2.2) FUEL (([] : List (Int × Int)), (-1), 0)) fun o => match o with | .inl (p1_0_0, p1_0_1) => (some (p1_0_0, p1_0_1)) | .inr p1_1_0 => (m_flow_along_j5 p1_1_0)
/-- acequia/flow.Room -/
def m_flow_Room_s1 (n0 : Net) (f1 : List Int) (r6 : List (Int × Int)) (room15 : Int) (seen16 : List Nat) (c_1 : Option Nat) : Option ((Int × List Nat) ⊕ (Int)) :=
  chooseM c_1 (some (.inr room15)) fun j17 =>
  if 0 < ((r6.getD j17 (default : Int × Int)).2) then
  (gd (inb ((r6.getD j17 (default : Int × Int)).1) n0.Arcs.length) <|
  gd (inb ((r6.getD j17 (default : Int × Int)).1) f1.length) <|
  gd (i64ok (((n0.Arcs.getD ((r6.getD j17 (default : Int × Int)).1).toNat default).cap) - (f1.getD ((r6.getD j17 (default : Int × Int)).1).toNat 0))) <|
  gd (((r6.getD j17 (default : Int × Int)).2) ≠ 0 ∧ i64ok ((((n0.Arcs.getD ((r6.getD j17 (default : Int × Int)).1).toNat default).cap) - (f1.getD ((r6.getD j17 (default : Int × Int)).1).toNat 0)).tdiv ((r6.getD j17 (default : Int × Int)).2))) <|
  some (.inl ((min room15 ((((n0.Arcs.getD ((r6.getD j17 (default : Int × Int)).1).toNat default).cap) - (f1.getD ((r6.getD j17 (default : Int × Int)).1).toNat 0)).tdiv ((r6.getD j17 (default : Int × Int)).2))), (seen16 ++ [j17]))))
  else
  if ((r6.getD j17 (default : Int × Int)).2) < 0 then
  (gd (inb ((r6.getD j17 (default : Int × Int)).1) f1.length) <|
  gd (i64ok (-((r6.getD j17 (default : Int × Int)).2))) <|
  gd ((-((r6.getD j17 (default : Int × Int)).2)) ≠ 0 ∧ i64ok ((f1.getD ((r6.getD j17 (default : Int × Int)).1).toNat 0).tdiv (-((r6.getD j17 (default : Int × Int)).2)))) <|
  some (.inl ((min room15 ((f1.getD ((r6.getD j17 (default : Int × Int)).1).toNat 0).tdiv (-((r6.getD j17 (default : Int × Int)).2)))), (seen16 ++ [j17]))))
  else
  some (.inl (room15, (seen16 ++ [j17])))
def m_flow_Room_j2 (room28 : Int) : Option (Int × Int) :=
  some (room28, 0)
def m_flow_Room (n0 : Net) (f1 : List Int) (l2 : List Hop) : Option (Int × Int) :=
  Option.bind (m_flow_Within n0 f1) fun r3 =>
  if (!r3) = true then
  (some (0, 20))
  else
  Option.bind (m_flow_along n0 l2) fun (r6, r7) =>
  if (!r7) = true then
  (some (0, 13))
  else
  Option.bind (loopA (fun s => altsM r6.length s.2) (fun s c => m_flow_Room_s1 n0 f1 r6 s.1 s.2 c) FUEL (4611686018427387904, ([] : List Nat))) fun p1_0_0 => m_flow_Room_j2 p1_0_0
/-- slices.Clone[[]int64,int64] -/
def m_slices_Clone_int64 (s0 : List Int) : Option (List Int) :=
  gd (apok s0.length 8) <|
  some s0
/-- acequia/flow.Send -/
def m_flow_Send_s2 (d3 : Int) (r21 : List (Int × Int)) (xs29 : List Int) (seen31 : List Nat) (c_2 : Option Nat) : Option ((List Int × List Nat) ⊕ (List Int)) :=
  chooseM c_2 (some (.inr xs29)) fun j32 =>
  gd (inb ((r21.getD j32 (default : Int × Int)).1) xs29.length) <|
  gd (i64ok (d3 * ((r21.getD j32 (default : Int × Int)).2))) <|
  gd (i64ok ((xs29.getD ((r21.getD j32 (default : Int × Int)).1).toNat 0) + (d3 * ((r21.getD j32 (default : Int × Int)).2)))) <|
  gd (inb ((r21.getD j32 (default : Int × Int)).1) xs29.length) <|
  some (.inl ((xs29.set ((r21.getD j32 (default : Int × Int)).1).toNat ((xs29.getD ((r21.getD j32 (default : Int × Int)).1).toNat 0) + (d3 * ((r21.getD j32 (default : Int × Int)).2)))), (seen31 ++ [j32])))
def m_flow_Send_j3 (xs38 : List Int) : Option (List Int × Int) :=
  some (xs38, 0)
def m_flow_Send_j1 (n0 : Net) (f1 : List Int) (l2 : List Hop) (d3 : Int) (x8 : Bool) : Option (List Int × Int) :=
  if x8 = true then
  (some ([], 2))
  else
  Option.bind (m_slices_Clone_int64 f1) fun r10 =>
  Option.bind (m_flow_along n0 l2) fun (r21, r22) =>
  Option.bind (loopA (fun s => altsM r21.length s.2) (fun s c => m_flow_Send_s2 d3 r21 s.1 s.2 c) FUEL (r10, ([] : List Nat))) fun p2_0_0 => m_flow_Send_j3 p2_0_0
def m_flow_Send (n0 : Net) (f1 : List Int) (l2 : List Hop) (d3 : Int) : Option (List Int × Int) :=
  Option.bind (m_flow_Room n0 f1 l2) fun (r3, r4) =>
  if r4 ≠ 0 then
  (some ([], r4))
  else
  if d3 < 0 then
  (m_flow_Send_j1 n0 f1 l2 d3 true)
  else
  m_flow_Send_j1 n0 f1 l2 d3 (decide (r3 < d3))
/-- acequia/flow.Excess -/
def m_flow_Excess_s1 (n0 : Net) (f1 : List Int) (xs9 : List Int) (x11 : Int) : Option ((List Int × Int) ⊕ (List Int)) :=
  if x11 < (n0.Arcs.length : Int) then
  (gd (inb x11 n0.Arcs.length) <|
  gd (inb ((n0.Arcs.getD x11.toNat default).fr) xs9.length) <|
  gd (inb x11 f1.length) <|
  gd (i64ok ((xs9.getD ((n0.Arcs.getD x11.toNat default).fr).toNat 0) - (f1.getD x11.toNat 0))) <|
  gd (inb ((n0.Arcs.getD x11.toNat default).fr) xs9.length) <|
  gd (inb ((n0.Arcs.getD x11.toNat default).to) (xs9.set ((n0.Arcs.getD x11.toNat default).fr).toNat ((xs9.getD ((n0.Arcs.getD x11.toNat default).fr).toNat 0) - (f1.getD x11.toNat 0))).length) <|
  gd (inb x11 f1.length) <|
  gd (i64ok (((xs9.set ((n0.Arcs.getD x11.toNat default).fr).toNat ((xs9.getD ((n0.Arcs.getD x11.toNat default).fr).toNat 0) - (f1.getD x11.toNat 0))).getD ((n0.Arcs.getD x11.toNat default).to).toNat 0) + (f1.getD x11.toNat 0))) <|
  gd (inb ((n0.Arcs.getD x11.toNat default).to) (xs9.set ((n0.Arcs.getD x11.toNat default).fr).toNat ((xs9.getD ((n0.Arcs.getD x11.toNat default).fr).toNat 0) - (f1.getD x11.toNat 0))).length) <|
  gd (i64ok (x11 + 1)) <|
  some (.inl (((xs9.set ((n0.Arcs.getD x11.toNat default).fr).toNat ((xs9.getD ((n0.Arcs.getD x11.toNat default).fr).toNat 0) - (f1.getD x11.toNat 0))).set ((n0.Arcs.getD x11.toNat default).to).toNat (((xs9.set ((n0.Arcs.getD x11.toNat default).fr).toNat ((xs9.getD ((n0.Arcs.getD x11.toNat default).fr).toNat 0) - (f1.getD x11.toNat 0))).getD ((n0.Arcs.getD x11.toNat default).to).toNat 0) + (f1.getD x11.toNat 0))), (x11 + 1))))
  else
  some (.inr xs9)
def m_flow_Excess_j2 (xs25 : List Int) : Option (List Int × Int) :=
  some (xs25, 0)
def m_flow_Excess (n0 : Net) (f1 : List Int) : Option (List Int × Int) :=
  Option.bind (m_flow_Within n0 f1) fun r3 =>
  if (!r3) = true then
  (some ([], 20))
  else
  gd (mkok n0.N) <|
  Option.bind (loopM (fun s => m_flow_Excess_s1 n0 f1 s.1 s.2) FUEL ((List.replicate n0.N.toNat (0 : Int)), 0)) fun p1_0_0 => m_flow_Excess_j2 p1_0_0
/-- slices.Index[[]int,int] -/
def m_slices_Index_int_s1 (s0 : List Int) (v1 : Int) (x1 : Int) : Option ((Int) ⊕ (Int ⊕ Unit)) :=
  if x1 < (s0.length : Int) then
  (gd (inb x1 s0.length) <|
  if v1 = (s0.getD x1.toNat 0) then
  (some (.inr (.inl x1)))
  else
  gd (i64ok (x1 + 1)) <|
  some (.inl (x1 + 1)))
  else
  some (.inr (.inr ()))
def m_slices_Index_int_j2  : Option (Int) :=
  some (-1)
def m_slices_Index_int (s0 : List Int) (v1 : Int) : Option (Int) :=
  Option.bind (loopM (fun s => m_slices_Index_int_s1 s0 v1 s) FUEL 0) fun o => match o with | .inl p1_0_0 => (some p1_0_0) | .inr () => m_slices_Index_int_j2
/-- slices.Contains[[]int,int] -/
def m_slices_Contains_int (s0 : List Int) (v1 : Int) : Option (Bool) :=
  Option.bind (m_slices_Index_int s0 v1) fun r1 =>
  some (decide (0 ≤ r1))
/-- acequia/flow.Right$1 -/
def m_flow_Right_1 (x0 : Int) : Option (Bool) :=
  some (decide (x0 = 0))
/-- acequia/flow.all -/
def m_flow_all_Right_1_s1 (but3 : List Int) (r3 : List Int) (x15 : Int) : Option ((Int) ⊕ (Bool ⊕ Unit)) :=
  if x15 < (r3.length : Int) then
  (gd (inb x15 r3.length) <|
  Option.bind (m_flow_Right_1 (r3.getD x15.toNat 0)) fun r18 =>
  if (!r18) = true then
  (Option.bind (m_slices_Contains_int but3 x15) fun r21 =>
  if (!r21) = true then
  (some (.inr (.inl false)))
  else
  gd (i64ok (x15 + 1)) <|
  some (.inl (x15 + 1)))
  else
  gd (i64ok (x15 + 1)) <|
  some (.inl (x15 + 1)))
  else
  some (.inr (.inr ()))
def m_flow_all_Right_1_j2 (r4 : Int) : Option (Bool) :=
  some (decide (r4 = 0))
def m_flow_all_Right_1 (n0 : Net) (f1 : List Int) (but3 : List Int) : Option (Bool) :=
  Option.bind (m_flow_Excess n0 f1) fun (r3, r4) =>
  Option.bind (loopM (fun s => m_flow_all_Right_1_s1 but3 r3 s) FUEL 0) fun o => match o with | .inl p1_0_0 => (some p1_0_0) | .inr () => (m_flow_all_Right_1_j2 r4)
/-- acequia/flow.Right -/
def m_flow_Right (n0 : Net) (f1 : List Int) : Option (Bool) :=
  Option.bind (m_flow_all_Right_1 n0 f1 ([n0.S, n0.T])) fun r5 =>
  some r5
/-- acequia/flow.Value -/
def m_flow_Value (n0 : Net) (f1 : List Int) : Option (Int × Int) :=
  Option.bind (m_flow_Right n0 f1) fun r3 =>
  if (!r3) = true then
  (some (0, 20))
  else
  Option.bind (m_flow_Excess n0 f1) fun (r6, r7) =>
  gd (inb n0.T r6.length) <|
  some ((r6.getD n0.T.toNat 0), r7)
end Go.Acq
