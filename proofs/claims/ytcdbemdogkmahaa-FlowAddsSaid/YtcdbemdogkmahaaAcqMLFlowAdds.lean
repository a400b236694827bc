/- Plain models of functions: acequialaw03.FlowAdds, api.Arc], net.Copy. (Printed by sx.py.) -/
import Derived.Test.YtcdbemdogkmahaaAcqMS3
namespace Go.Acq
open Go
set_option linter.unusedVariables false

/-- slices.Clone[[]acequia/api.Arc,acequia/api.Arc] -/
def m_slices_Clone_Arc (s0 : List Arc) : Option (List Arc) :=
  gd (apok s0.length 24) <|
  some s0
/-- acequia/net.Copy -/
def m_net_Copy (n0 : Net) : Option (Net) :=
  Option.bind (m_slices_Clone_Arc n0.Arcs) fun r5 =>
  some (Net.mk n0.N n0.S n0.T r5)
/-- acequia/acequialaw03.FlowAdds -/
def m_acequialaw03_FlowAdds_s1 (r14 : Net) (xs27 : List Arc) (x29 : Int) : Option ((List Arc × Int) ⊕ (List Arc)) :=
  if x29 < (r14.Arcs.length : Int) then
  (gd (inb x29 xs27.length) <|
  gd ((2 : Int) ≠ 0 ∧ i64ok (((xs27.getD x29.toNat default).cap).tdiv 2)) <|
  gd (inb x29 xs27.length) <|
  gd (i64ok (x29 + 1)) <|
  some (.inl ((xs27.set x29.toNat (Arc.mk ((xs27.getD x29.toNat default).fr) ((xs27.getD x29.toNat default).to) (((xs27.getD x29.toNat default).cap).tdiv 2))), (x29 + 1))))
  else
  some (.inr xs27)
def m_acequialaw03_FlowAdds_s3 (r37 : List Int) (r48 : List Int) (both59 : List Int) (x69 : Int) : Option ((List Int × Int) ⊕ (List Int)) :=
  if x69 < (r37.length : Int) then
  (gd (inb x69 r37.length) <|
  gd (inb x69 r48.length) <|
  gd (i64ok ((r37.getD x69.toNat 0) + (r48.getD x69.toNat 0))) <|
  gd (apok (both59 ++ ([((r37.getD x69.toNat 0) + (r48.getD x69.toNat 0))])).length 8) <|
  gd (i64ok (x69 + 1)) <|
  some (.inl ((both59 ++ ([((r37.getD x69.toNat 0) + (r48.getD x69.toNat 0))])), (x69 + 1))))
  else
  some (.inr both59)
def m_acequialaw03_FlowAdds_s5 (r95 : List Int) (r107 : List Int) (r119 : List Int) (x136 : Int) : Option ((Int) ⊕ (Bool ⊕ Unit)) :=
  if x136 < (r119.length : Int) then
  (gd (inb x136 r119.length) <|
  gd (inb x136 r95.length) <|
  gd (inb x136 r107.length) <|
  gd (i64ok ((r95.getD x136.toNat 0) + (r107.getD x136.toNat 0))) <|
  if (r119.getD x136.toNat 0) ≠ ((r95.getD x136.toNat 0) + (r107.getD x136.toNat 0)) then
  (some (.inr (.inl false)))
  else
  gd (i64ok (x136 + 1)) <|
  some (.inl (x136 + 1)))
  else
  some (.inr (.inr ()))
def m_acequialaw03_FlowAdds_j6 (r3 : Net) (r37 : List Int) (r48 : List Int) (both85 : List Int) : Option (Bool) :=
  Option.bind (m_flow_Right r3 r37) fun r145 =>
  if (!r145) = true then
  (Option.bind (m_flow_Pre r3 r37) fun r148 =>
  if (!r148) = true then
  (Option.bind m_acequialaw03_awake fun r151 =>
  some r151)
  else
  Option.bind (m_flow_Pre r3 r48) fun r153 =>
  if (!r153) = true then
  (Option.bind m_acequialaw03_awake fun r156 =>
  some r156)
  else
  Option.bind (m_flow_Pre r3 both85) fun r158 =>
  if r158 = true then
  (Option.bind m_acequialaw03_awake fun r161 =>
  some r161)
  else
  some false)
  else
  Option.bind (m_flow_Right r3 both85) fun r163 =>
  Option.bind (m_flow_Right r3 r48) fun r165 =>
  if (r163 == r165) = true then
  (Option.bind (m_flow_Pre r3 r37) fun r168 =>
  if (!r168) = true then
  (Option.bind m_acequialaw03_awake fun r171 =>
  some r171)
  else
  Option.bind (m_flow_Pre r3 r48) fun r173 =>
  if (!r173) = true then
  (Option.bind m_acequialaw03_awake fun r176 =>
  some r176)
  else
  Option.bind (m_flow_Pre r3 both85) fun r178 =>
  if r178 = true then
  (Option.bind m_acequialaw03_awake fun r181 =>
  some r181)
  else
  some false)
  else
  some false
def m_acequialaw03_FlowAdds_j4 (r3 : Net) (r37 : List Int) (r48 : List Int) (both85 : List Int) : Option (Bool) :=
  Option.bind (m_flow_Excess r3 r37) fun (r95, r96) =>
  Option.bind (m_flow_Excess r3 r48) fun (r107, r108) =>
  Option.bind (m_flow_Excess r3 both85) fun (r119, r120) =>
  if r96 ≠ 0 then
  (some false)
  else
  if r108 ≠ 0 then
  (some false)
  else
  if r120 ≠ 0 then
  (some false)
  else
  if (r95.length : Int) ≠ (r119.length : Int) then
  (some false)
  else
  if (r107.length : Int) ≠ (r119.length : Int) then
  (some false)
  else
  Option.bind (loopM (fun s => m_acequialaw03_FlowAdds_s5 r95 r107 r119 s) FUEL 0) fun o => match o with | .inl p5_0_0 => (some p5_0_0) | .inr () => (m_acequialaw03_FlowAdds_j6 r3 r37 r48 both85)
def m_acequialaw03_FlowAdds_j2 (l1 : List Int) (m2 : List Int) (r3 : Net) (r14 : Net) (xs35 : List Arc) : Option (Bool) :=
  Option.bind (m_acequialow_Within (Net.mk r14.N r14.S r14.T xs35) l1) fun r37 =>
  Option.bind (m_acequialow_Within (Net.mk r14.N r14.S r14.T xs35) m2) fun r48 =>
  Option.bind (loopM (fun s => m_acequialaw03_FlowAdds_s3 r37 r48 s.1 s.2) FUEL ([], 0)) fun p3_0_0 => m_acequialaw03_FlowAdds_j4 r3 r37 r48 p3_0_0
def m_acequialaw03_FlowAdds (n0 : Net) (l1 : List Int) (m2 : List Int) : Option (Bool) :=
  Option.bind (m_acequialow_Some n0 40 80) fun r3 =>
  Option.bind (m_net_Copy r3) fun r14 =>
  Option.bind (loopM (fun s => m_acequialaw03_FlowAdds_s1 r14 s.1 s.2) FUEL (r14.Arcs, 0)) fun p1_0_0 => m_acequialaw03_FlowAdds_j2 l1 m2 r3 r14 p1_0_0
end Go.Acq
