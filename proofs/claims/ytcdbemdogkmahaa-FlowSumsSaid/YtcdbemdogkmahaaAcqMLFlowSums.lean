/- Plain models of functions: acequialaw03.FlowSums. (Printed by sx.py.) -/
import Derived.Test.YtcdbemdogkmahaaAcqMS3
namespace Go.Acq
open Go
set_option linter.unusedVariables false

/-- acequia/acequialaw03.FlowSums -/
def m_acequialaw03_FlowSums_j2 (r3 : Net) (r25 : List Int) (sum42 : Int) (right44 : Bool) (x45 : Int) (pre51 : Bool) : Option ((Int × Bool × Bool × Int) ⊕ (Int × Bool × Bool)) :=
  if right44 = true then
  (if (r25.getD x45.toNat 0) = 0 then
  (gd (i64ok (x45 + 1)) <|
  some (.inl ((sum42 + (r25.getD x45.toNat 0)), pre51, true, (x45 + 1))))
  else
  if x45 = r3.S then
  (gd (i64ok (x45 + 1)) <|
  some (.inl ((sum42 + (r25.getD x45.toNat 0)), pre51, true, (x45 + 1))))
  else
  gd (i64ok (x45 + 1)) <|
  some (.inl ((sum42 + (r25.getD x45.toNat 0)), pre51, (decide (x45 = r3.T)), (x45 + 1))))
  else
  gd (i64ok (x45 + 1)) <|
  some (.inl ((sum42 + (r25.getD x45.toNat 0)), pre51, false, (x45 + 1)))
def m_acequialaw03_FlowSums_s1 (r3 : Net) (r25 : List Int) (sum42 : Int) (pre43 : Bool) (right44 : Bool) (x45 : Int) : Option ((Int × Bool × Bool × Int) ⊕ (Int × Bool × Bool)) :=
  if x45 < (r25.length : Int) then
  (gd (inb x45 r25.length) <|
  gd (i64ok (sum42 + (r25.getD x45.toNat 0))) <|
  if pre43 = true then
  (if 0 ≤ (r25.getD x45.toNat 0) then
  (m_acequialaw03_FlowSums_j2 r3 r25 sum42 right44 x45 true)
  else
  m_acequialaw03_FlowSums_j2 r3 r25 sum42 right44 x45 (decide (x45 = r3.S)))
  else
  m_acequialaw03_FlowSums_j2 r3 r25 sum42 right44 x45 false)
  else
  some (.inr (sum42, pre43, right44))
def m_acequialaw03_FlowSums_j3 (r3 : Net) (r14 : List Int) (r25 : List Int) (sum59 : Int) (pre60 : Bool) (right61 : Bool) : Option (Bool) :=
  Option.bind (m_flow_Value r3 r14) fun (r62, r63) =>
  if sum59 ≠ 0 then
  (some false)
  else
  Option.bind (m_flow_Pre r3 r14) fun r66 =>
  if (!(r66 == pre60)) = true then
  (some false)
  else
  Option.bind (m_flow_Right r3 r14) fun r69 =>
  if (!(r69 == right61)) = true then
  (some false)
  else
  if (!((decide (r63 = 0)) == right61)) = true then
  (some false)
  else
  if right61 = true then
  (gd (inb r3.T r25.length) <|
  if r62 ≠ (r25.getD r3.T.toNat 0) then
  (some false)
  else
  gd (inb r3.S r25.length) <|
  gd (i64ok (-(r25.getD r3.S.toNat 0))) <|
  if r62 ≠ (-(r25.getD r3.S.toNat 0)) then
  (some false)
  else
  if (!(pre60 == (decide (0 ≤ r62)))) = true then
  (some false)
  else
  if right61 = true then
  (Option.bind m_acequialaw03_awake fun r81 =>
  some r81)
  else
  if r62 = 0 then
  (if r63 = 20 then
  (Option.bind m_acequialaw03_awake fun r85 =>
  some r85)
  else
  some false)
  else
  some false)
  else
  if right61 = true then
  (Option.bind m_acequialaw03_awake fun r88 =>
  some r88)
  else
  if r62 = 0 then
  (if r63 = 20 then
  (Option.bind m_acequialaw03_awake fun r92 =>
  some r92)
  else
  some false)
  else
  some false
def m_acequialaw03_FlowSums (n0 : Net) (l1 : List Int) : Option (Bool) :=
  Option.bind (m_acequialow_Some n0 40 80) fun r3 =>
  Option.bind (m_acequialow_Within r3 l1) fun r14 =>
  Option.bind (m_flow_Excess r3 r14) fun (r25, r26) =>
  if r26 ≠ 0 then
  (some false)
  else
  if (r25.length : Int) ≠ r3.N then
  (some false)
  else
  Option.bind (m_flow_Within r3 r14) fun r39 =>
  if (!r39) = true then
  (some false)
  else
  Option.bind (loopM (fun s => m_acequialaw03_FlowSums_s1 r3 r25 s.1 s.2.1 s.2.2.1 s.2.2.2) FUEL (0, true, true, 0)) fun (p1_0_0, p1_0_1, p1_0_2) => m_acequialaw03_FlowSums_j3 r3 r14 r25 p1_0_0 p1_0_1 p1_0_2
end Go.Acq
