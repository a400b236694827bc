/- Plain models of functions: acequialaw03.awake, acequialaw03.hops, flow.Excess, flow.Pre, flow.Pre$1, flow.Right, flow.Right$1, flow.Room, flow.Send, flow.Value, flow.Within, flow.all, flow.along, slices.Clone[[]int64,int64], slices.Contains[[]int,int], slices.Index[[]int,int]. (Printed by sx.py.) -/
import Derived.Test.YtcdbemdogkmahaaAcqMS2
namespace Go.Acq
open Go
set_option linter.unusedVariables false
structure Hop where
  Arc : Int
  Back : Bool
  deriving DecidableEq
instance : Inhabited Hop := ⟨⟨default, default⟩⟩
/-- acequia/flow.Within -/
def m_flow_Within_s1 (n0 : Net) (f1 : List Int) (x7 : Int) : Option ((Int) ⊕ (Bool ⊕ Unit)) :=
  if x7 < (n0.Arcs.length : Int) then
  (gd (inb x7 n0.Arcs.length) <|
  gd (inb x7 f1.length) <|
  if (f1.getD x7.toNat 0) < 0 then
  (some (.inr (.inl false)))
  else
  gd (inb x7 f1.length) <|
  if ((n0.Arcs.getD x7.toNat default).cap) < (f1.getD x7.toNat 0) then
  (some (.inr (.inl false)))
  else
  gd (i64ok (x7 + 1)) <|
  some (.inl (x7 + 1)))
  else
  some (.inr (.inr ()))
def m_flow_Within_j2  : Option (Bool) :=
  some true
def m_flow_Within (n0 : Net) (f1 : List Int) : Option (Bool) :=
  Option.bind (m_net_Check n0) fun r3 =>
  if r3 ≠ 0 then
  (some false)
  else
  if (f1.length : Int) ≠ (n0.Arcs.length : Int) then
  (some false)
  else
  Option.bind (loopM (fun s => m_flow_Within_s1 n0 f1 s) FUEL 0) fun o => match o with | .inl p1_0_0 => (some p1_0_0) | .inr () => m_flow_Within_j2
end Go.Acq
