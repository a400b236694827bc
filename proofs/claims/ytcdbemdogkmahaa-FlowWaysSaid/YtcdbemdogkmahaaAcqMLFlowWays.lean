/- Plain models of functions: acequialaw03.FlowWays. (Printed by sx.py.) -/
import Derived.Test.YtcdbemdogkmahaaAcqMS3
namespace Go.Acq
open Go
set_option linter.unusedVariables false

/-- acequia/acequialaw03.FlowWays -/
def m_acequialaw03_FlowWays_s1 (r28 : List Hop) (both51 : List Hop) (i61 : Int) : Option ((List Hop × Int) ⊕ (List Hop)) :=
  if 0 ≤ i61 then
  (gd (inb i61 r28.length) <|
  gd (inb i61 r28.length) <|
  gd (apok (both51 ++ ([(Hop.mk ((r28.getD i61.toNat default).Arc) (!(r28.getD i61.toNat default).Back))])).length 16) <|
  gd (i64ok (i61 - 1)) <|
  some (.inl ((both51 ++ ([(Hop.mk ((r28.getD i61.toNat default).Arc) (!(r28.getD i61.toNat default).Back))])), (i61 - 1))))
  else
  some (.inr both51)
def m_acequialaw03_FlowWays_j3 (arc4 : Int) (r3 : Net) (r14 : List Int) (r28 : List Hop) (fits111 : Bool) : Option (Bool) :=
  gd (apok r28.length 16) <|
  gd (apok (r28 ++ ([(Hop.mk arc4 false)])).length 16) <|
  Option.bind (m_flow_Room r3 r14 (r28 ++ ([(Hop.mk arc4 false)]))) fun (r132, r133) =>
  if (!((decide (r133 = 0)) == fits111)) = true then
  (some false)
  else
  if (!fits111) = true then
  (if r133 ≠ 13 then
  (some false)
  else
  if (r14.length : Int) = 0 then
  (Option.bind m_acequialaw03_awake fun r139 =>
  some r139)
  else
  gd (inb 0 r3.Arcs.length) <|
  gd (i64ok (((r3.Arcs.getD (0 : Int).toNat default).cap) + 1)) <|
  gd (inb 0 r14.length) <|
  Option.bind (m_flow_Room r3 (r14.set (0 : Int).toNat (((r3.Arcs.getD (0 : Int).toNat default).cap) + 1)) r28) fun (r144, r145) =>
  Option.bind (m_flow_Send r3 (r14.set (0 : Int).toNat (((r3.Arcs.getD (0 : Int).toNat default).cap) + 1)) r28 0) fun (r147, r148) =>
  if r145 = 20 then
  (if r148 = 20 then
  (Option.bind (m_flow_Pre r3 (r14.set (0 : Int).toNat (((r3.Arcs.getD (0 : Int).toNat default).cap) + 1))) fun r161 =>
  if (!r161) = true then
  (Option.bind m_acequialaw03_awake fun r164 =>
  some r164)
  else
  some false)
  else
  some false)
  else
  some false)
  else
  if (r14.length : Int) = 0 then
  (Option.bind m_acequialaw03_awake fun r167 =>
  some r167)
  else
  gd (inb 0 r3.Arcs.length) <|
  gd (i64ok (((r3.Arcs.getD (0 : Int).toNat default).cap) + 1)) <|
  gd (inb 0 r14.length) <|
  Option.bind (m_flow_Room r3 (r14.set (0 : Int).toNat (((r3.Arcs.getD (0 : Int).toNat default).cap) + 1)) r28) fun (r172, r173) =>
  Option.bind (m_flow_Send r3 (r14.set (0 : Int).toNat (((r3.Arcs.getD (0 : Int).toNat default).cap) + 1)) r28 0) fun (r175, r176) =>
  if r173 = 20 then
  (if r176 = 20 then
  (Option.bind (m_flow_Pre r3 (r14.set (0 : Int).toNat (((r3.Arcs.getD (0 : Int).toNat default).cap) + 1))) fun r189 =>
  if (!r189) = true then
  (Option.bind m_acequialaw03_awake fun r192 =>
  some r192)
  else
  some false)
  else
  some false)
  else
  some false
def m_acequialaw03_FlowWays_j2 (arc4 : Int) (r3 : Net) (r14 : List Int) (r28 : List Hop) (r29 : Int) (both76 : List Hop) : Option (Bool) :=
  Option.bind (m_flow_Room r3 r14 both76) fun (r86, r87) =>
  Option.bind (m_flow_Send r3 r14 both76 r86) fun (r89, r90) =>
  if r87 ≠ 0 then
  (some false)
  else
  if r86 ≠ 4611686018427387904 then
  (some false)
  else
  if r90 ≠ 0 then
  (some false)
  else
  Option.bind (m_acequialow_Longs r89 r14) fun r104 =>
  if (!r104) = true then
  (some false)
  else
  if 0 ≤ arc4 then
  (if arc4 < (r3.Arcs.length : Int) then
  (if (r28.length : Int) = 0 then
  (m_acequialaw03_FlowWays_j3 arc4 r3 r14 r28 true)
  else
  gd (inb arc4 r3.Arcs.length) <|
  m_acequialaw03_FlowWays_j3 arc4 r3 r14 r28 (decide (((r3.Arcs.getD arc4.toNat default).fr) = r29)))
  else
  m_acequialaw03_FlowWays_j3 arc4 r3 r14 r28 false)
  else
  m_acequialaw03_FlowWays_j3 arc4 r3 r14 r28 false
def m_acequialaw03_FlowWays (n0 : Net) (l1 : List Int) (from2 : Int) (moves3 : List Int) (arc4 : Int) : Option (Bool) :=
  Option.bind (m_acequialow_Some n0 40 80) fun r3 =>
  Option.bind (m_acequialow_Within r3 l1) fun r14 =>
  gd (i64ok from2) <|
  gd (r3.N ≠ 0) <|
  gd (0 ≤ (min (moves3.length : Int) 20) ∧ (min (moves3.length : Int) 20) ≤ (moves3.length : Int)) <|
  Option.bind (m_acequialaw03_hops r3 (from2.tmod r3.N) (moves3.take (min (moves3.length : Int) 20).toNat)) fun (r28, r29) =>
  gd (apok r28.length 16) <|
  gd (i64ok ((r28.length : Int) - 1)) <|
  Option.bind (loopM (fun s => m_acequialaw03_FlowWays_s1 r28 s.1 s.2) FUEL (r28, ((r28.length : Int) - 1))) fun p1_0_0 => m_acequialaw03_FlowWays_j2 arc4 r3 r14 r28 r29 p1_0_0
end Go.Acq
