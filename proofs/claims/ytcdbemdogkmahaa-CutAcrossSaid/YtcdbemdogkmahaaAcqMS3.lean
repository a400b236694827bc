/- Plain models of functions: acequialaw03.awake, acequialaw03.hops, flow.Excess, flow.Pre, flow.Pre$1, flow.Right, flow.Right$1, flow.Room, flow.Send, flow.Value, flow.Within, flow.all, flow.along, slices.Clone[[]int64,int64], slices.Contains[[]int,int], slices.Index[[]int,int]. (Printed by sx.py.) -/
import Derived.Test.YtcdbemdogkmahaaAcqMS2
namespace Go.Acq
open Go
set_option linter.unusedVariables false
structure Hop where
  Arc : Int
  Back : Bool
  deriving DecidableEq
instance : Inhabited Hop := ⟨⟨default, default⟩⟩
/-- acequia/flow.Within -/
def m_flow_Within_s1 (n0 : Net) (f1 : List Int) (x7 : Int) : Option ((Int) ⊕ (Bool ⊕ Unit)) :=
  if x7 < (n0.Arcs.length : Int) then
  (gd (inb x7 n0.Arcs.length) <|
  gd (inb x7 f1.length) <|
  if (f1.getD x7.toNat 0) < 0 then
  (some (.inr (.inl false)))
  else
  gd (inb x7 f1.length) <|
  if ((n0.Arcs.getD x7.toNat default).cap) < (f1.getD x7.toNat 0) then
  (some (.inr (.inl false)))
  else
  gd (i64ok (x7 + 1)) <|
  some (.inl (x7 + 1)))
  else
  some (.inr (.inr ()))
def m_flow_Within_j2  : Option (Bool) :=
  some true
def m_flow_Within (n0 : Net) (f1 : List Int) : Option (Bool) :=
  Option.bind (m_net_Check n0) fun r3 =>
  if r3 ≠ 0 then
  (some false)
  else
  if (f1.length : Int) ≠ (n0.Arcs.length : Int) then
  (some false)
  else
  Option.bind (loopM (fun s => m_flow_Within_s1 n0 f1 s) FUEL 0) fun o => match o with | .inl p1_0_0 => (some p1_0_0) | .inr () => m_flow_Within_j2
/-- acequia/flow.Excess -/
def m_flow_Excess_s1 (n0 : Net) (f1 : List Int) (xs9 : List Int) (x11 : Int) : Option ((List Int × Int) ⊕ (List Int)) :=
  if x11 < (n0.Arcs.length : Int) then
  (gd (inb x11 n0.Arcs.length) <|
  gd (inb ((n0.Arcs.getD x11.toNat default).fr) xs9.length) <|
  gd (inb x11 f1.length) <|
  gd (i64ok ((xs9.getD ((n0.Arcs.getD x11.toNat default).fr).toNat 0) - (f1.getD x11.toNat 0))) <|
  gd (inb ((n0.Arcs.getD x11.toNat default).fr) xs9.length) <|
  gd (inb ((n0.Arcs.getD x11.toNat default).to) (xs9.set ((n0.Arcs.getD x11.toNat default).fr).toNat ((xs9.getD ((n0.Arcs.getD x11.toNat default).fr).toNat 0) - (f1.getD x11.toNat 0))).length) <|
  gd (inb x11 f1.length) <|
  gd (i64ok (((xs9.set ((n0.Arcs.getD x11.toNat default).fr).toNat ((xs9.getD ((n0.Arcs.getD x11.toNat default).fr).toNat 0) - (f1.getD x11.toNat 0))).getD ((n0.Arcs.getD x11.toNat default).to).toNat 0) + (f1.getD x11.toNat 0))) <|
  gd (inb ((n0.Arcs.getD x11.toNat default).to) (xs9.set ((n0.Arcs.getD x11.toNat default).fr).toNat ((xs9.getD ((n0.Arcs.getD x11.toNat default).fr).toNat 0) - (f1.getD x11.toNat 0))).length) <|
  gd (i64ok (x11 + 1)) <|
  some (.inl (((xs9.set ((n0.Arcs.getD x11.toNat default).fr).toNat ((xs9.getD ((n0.Arcs.getD x11.toNat default).fr).toNat 0) - (f1.getD x11.toNat 0))).set ((n0.Arcs.getD x11.toNat default).to).toNat (((xs9.set ((n0.Arcs.getD x11.toNat default).fr).toNat ((xs9.getD ((n0.Arcs.getD x11.toNat default).fr).toNat 0) - (f1.getD x11.toNat 0))).getD ((n0.Arcs.getD x11.toNat default).to).toNat 0) + (f1.getD x11.toNat 0))), (x11 + 1))))
  else
  some (.inr xs9)
def m_flow_Excess_j2 (xs25 : List Int) : Option (List Int × Int) :=
  some (xs25, 0)
def m_flow_Excess (n0 : Net) (f1 : List Int) : Option (List Int × Int) :=
  Option.bind (m_flow_Within n0 f1) fun r3 =>
  if (!r3) = true then
  (some ([], 20))
  else
  gd (mkok n0.N) <|
  Option.bind (loopM (fun s => m_flow_Excess_s1 n0 f1 s.1 s.2) FUEL ((List.replicate n0.N.toNat (0 : Int)), 0)) fun p1_0_0 => m_flow_Excess_j2 p1_0_0
/-- slices.Index[[]int,int] -/
def m_slices_Index_int_s1 (s0 : List Int) (v1 : Int) (x1 : Int) : Option ((Int) ⊕ (Int ⊕ Unit)) :=
  if x1 < (s0.length : Int) then
  (gd (inb x1 s0.length) <|
  if v1 = (s0.getD x1.toNat 0) then
  (some (.inr (.inl x1)))
  else
  gd (i64ok (x1 + 1)) <|
  some (.inl (x1 + 1)))
  else
  some (.inr (.inr ()))
def m_slices_Index_int_j2  : Option (Int) :=
  some (-1)
def m_slices_Index_int (s0 : List Int) (v1 : Int) : Option (Int) :=
  Option.bind (loopM (fun s => m_slices_Index_int_s1 s0 v1 s) FUEL 0) fun o => match o with | .inl p1_0_0 => (some p1_0_0) | .inr () => m_slices_Index_int_j2
/-- slices.Contains[[]int,int] -/
def m_slices_Contains_int (s0 : List Int) (v1 : Int) : Option (Bool) :=
  Option.bind (m_slices_Index_int s0 v1) fun r1 =>
  some (decide (0 ≤ r1))
/-- acequia/flow.Right$1 -/
def m_flow_Right_1 (x0 : Int) : Option (Bool) :=
  some (decide (x0 = 0))
/-- acequia/flow.all -/
def m_flow_all_Right_1_s1 (but3 : List Int) (r3 : List Int) (x15 : Int) : Option ((Int) ⊕ (Bool ⊕ Unit)) :=
  if x15 < (r3.length : Int) then
  (gd (inb x15 r3.length) <|
  Option.bind (m_flow_Right_1 (r3.getD x15.toNat 0)) fun r18 =>
  if (!r18) = true then
  (Option.bind (m_slices_Contains_int but3 x15) fun r21 =>
  if (!r21) = true then
  (some (.inr (.inl false)))
  else
  gd (i64ok (x15 + 1)) <|
  some (.inl (x15 + 1)))
  else
  gd (i64ok (x15 + 1)) <|
  some (.inl (x15 + 1)))
  else
  some (.inr (.inr ()))
def m_flow_all_Right_1_j2 (r4 : Int) : Option (Bool) :=
  some (decide (r4 = 0))
def m_flow_all_Right_1 (n0 : Net) (f1 : List Int) (but3 : List Int) : Option (Bool) :=
  Option.bind (m_flow_Excess n0 f1) fun (r3, r4) =>
  Option.bind (loopM (fun s => m_flow_all_Right_1_s1 but3 r3 s) FUEL 0) fun o => match o with | .inl p1_0_0 => (some p1_0_0) | .inr () => (m_flow_all_Right_1_j2 r4)
/-- acequia/flow.Right -/
def m_flow_Right (n0 : Net) (f1 : List Int) : Option (Bool) :=
  Option.bind (m_flow_all_Right_1 n0 f1 ([n0.S, n0.T])) fun r5 =>
  some r5
/-- acequia/flow.Value -/
def m_flow_Value (n0 : Net) (f1 : List Int) : Option (Int × Int) :=
  Option.bind (m_flow_Right n0 f1) fun r3 =>
  if (!r3) = true then
  (some (0, 20))
  else
  Option.bind (m_flow_Excess n0 f1) fun (r6, r7) =>
  gd (inb n0.T r6.length) <|
  some ((r6.getD n0.T.toNat 0), r7)
end Go.Acq
