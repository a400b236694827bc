/- Plain models of functions: acequialaw03.FlowTurns, api.Arc], net.Copy, net.Turn. (Printed by sx.py.) -/
import Derived.Test.YtcdbemdogkmahaaAcqMS3
namespace Go.Acq
open Go
set_option linter.unusedVariables false

/-- slices.Clone[[]acequia/api.Arc,acequia/api.Arc] -/
def m_slices_Clone_Arc (s0 : List Arc) : Option (List Arc) :=
  gd (apok s0.length 24) <|
  some s0
/-- acequia/net.Copy -/
def m_net_Copy (n0 : Net) : Option (Net) :=
  Option.bind (m_slices_Clone_Arc n0.Arcs) fun r5 =>
  some (Net.mk n0.N n0.S n0.T r5)
/-- acequia/net.Turn -/
def m_net_Turn_s1 (n0 : Net) (xs18 : List Arc) (x20 : Int) : Option ((List Arc × Int) ⊕ (List Arc)) :=
  if x20 < (n0.Arcs.length : Int) then
  (gd (inb x20 n0.Arcs.length) <|
  gd (inb x20 xs18.length) <|
  gd (i64ok (x20 + 1)) <|
  some (.inl ((xs18.set x20.toNat (Arc.mk ((n0.Arcs.getD x20.toNat default).to) ((n0.Arcs.getD x20.toNat default).fr) ((n0.Arcs.getD x20.toNat default).cap))), (x20 + 1))))
  else
  some (.inr xs18)
def m_net_Turn_j2 (n0 : Net) (r5 : Net) (xs27 : List Arc) : Option (Net) :=
  some (Net.mk r5.N n0.T n0.S xs27)
def m_net_Turn (n0 : Net) : Option (Net) :=
  Option.bind (m_net_Copy n0) fun r5 =>
  Option.bind (loopM (fun s => m_net_Turn_s1 n0 s.1 s.2) FUEL (r5.Arcs, 0)) fun p1_0_0 => m_net_Turn_j2 n0 r5 p1_0_0
/-- acequia/acequialaw03.FlowTurns -/
def m_acequialaw03_FlowTurns_s1 (r38 : List Int) (r50 : List Int) (x65 : Int) : Option ((Int) ⊕ (Bool ⊕ Unit)) :=
  if x65 < (r38.length : Int) then
  (gd (inb x65 r38.length) <|
  gd (inb x65 r50.length) <|
  gd (i64ok (-(r50.getD x65.toNat 0))) <|
  if (r38.getD x65.toNat 0) ≠ (-(r50.getD x65.toNat 0)) then
  (some (.inr (.inl false)))
  else
  gd (i64ok (x65 + 1)) <|
  some (.inl (x65 + 1)))
  else
  some (.inr (.inr ()))
def m_acequialaw03_FlowTurns_s3 (moves2 : List (List Int)) (r3 : Net) (f77 : List Int) (x87 : Int) : Option ((List Int × Int) ⊕ (Bool ⊕ (List Int))) :=
  if x87 < ((moves2.take (min (moves2.length : Int) 10).toNat).length : Int) then
  (gd (inb x87 (moves2.take (min (moves2.length : Int) 10).toNat).length) <|
  gd (0 ≤ (min (((moves2.take (min (moves2.length : Int) 10).toNat).getD x87.toNat []).length : Int) 20) ∧ (min (((moves2.take (min (moves2.length : Int) 10).toNat).getD x87.toNat []).length : Int) 20) ≤ (((moves2.take (min (moves2.length : Int) 10).toNat).getD x87.toNat []).length : Int)) <|
  Option.bind (m_acequialaw03_hops r3 r3.S (((moves2.take (min (moves2.length : Int) 10).toNat).getD x87.toNat []).take (min (((moves2.take (min (moves2.length : Int) 10).toNat).getD x87.toNat []).length : Int) 20).toNat)) fun (r91, r92) =>
  if r92 ≠ r3.T then
  (gd (i64ok (x87 + 1)) <|
  some (.inl (f77, (x87 + 1))))
  else
  Option.bind (m_flow_Room r3 f77 r91) fun (r105, r106) =>
  Option.bind (m_flow_Send r3 f77 r91 (min r105 1125899906842624)) fun (r108, r109) =>
  if r109 ≠ 0 then
  (some (.inr (.inl false)))
  else
  gd (i64ok (x87 + 1)) <|
  some (.inl (r108, (x87 + 1))))
  else
  some (.inr (.inr f77))
def m_acequialaw03_FlowTurns_j4 (r3 : Net) (r14 : Net) (f122 : List Int) : Option (Bool) :=
  Option.bind (m_flow_Value r3 f122) fun (r132, r133) =>
  Option.bind (m_flow_Value r14 f122) fun (r135, r136) =>
  if r133 = 0 then
  (if r136 = 0 then
  (if r132 = r135 then
  (if 0 ≤ r132 then
  (Option.bind m_acequialaw03_awake fun r142 =>
  some r142)
  else
  some false)
  else
  some false)
  else
  some false)
  else
  some false
def m_acequialaw03_FlowTurns_j2 (moves2 : List (List Int)) (r3 : Net) (r14 : Net) : Option (Bool) :=
  gd (mkok (r3.Arcs.length : Int)) <|
  gd (0 ≤ (min (moves2.length : Int) 10) ∧ (min (moves2.length : Int) 10) ≤ (moves2.length : Int)) <|
  Option.bind (loopM (fun s => m_acequialaw03_FlowTurns_s3 moves2 r3 s.1 s.2) FUEL ((List.replicate ((r3.Arcs.length : Int).toNat) (0 : Int)), 0)) fun o => match o with | .inl p3_0_0 => (some p3_0_0) | .inr p3_1_0 => (m_acequialaw03_FlowTurns_j4 r3 r14 p3_1_0)
def m_acequialaw03_FlowTurns (n0 : Net) (l1 : List Int) (moves2 : List (List Int)) : Option (Bool) :=
  Option.bind (m_acequialow_Some n0 40 80) fun r3 =>
  Option.bind (m_net_Turn r3) fun r14 =>
  Option.bind (m_acequialow_Within r3 l1) fun r27 =>
  Option.bind (m_flow_Excess r3 r27) fun (r38, r39) =>
  Option.bind (m_flow_Excess r14 r27) fun (r50, r51) =>
  if r39 ≠ 0 then
  (some false)
  else
  if r51 ≠ 0 then
  (some false)
  else
  if (r38.length : Int) ≠ (r50.length : Int) then
  (some false)
  else
  Option.bind (loopM (fun s => m_acequialaw03_FlowTurns_s1 r38 r50 s) FUEL 0) fun o => match o with | .inl p1_0_0 => (some p1_0_0) | .inr () => (m_acequialaw03_FlowTurns_j2 moves2 r3 r14)
end Go.Acq
