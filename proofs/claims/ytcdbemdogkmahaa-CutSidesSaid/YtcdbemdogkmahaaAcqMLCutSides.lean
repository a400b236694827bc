/- Plain models of functions: acequialaw04.CutSides. (Printed by sx.py.) -/
import Derived.Test.YtcdbemdogkmahaaAcqMS4
namespace Go.Acq
open Go
set_option linter.unusedVariables false
/-- acequia/acequialaw04.CutSides -/
def m_acequialaw04_CutSides_j1 (r3 : Net) (c48 : List Bool) : Option (Bool) :=
  Option.bind (m_cut_Cap r3 c48) fun (r58, r59) =>
  Option.bind (m_cut_Across r3 (List.replicate ((r3.Arcs.length : Int).toNat) (0 : Int)) c48) fun (r61, r62) =>
  Option.bind (m_cut_Right r3 c48) fun r64 =>
  if r64 = true then
  (some false)
  else
  if r59 ≠ 2 then
  (some false)
  else
  if r62 ≠ 2 then
  (some false)
  else
  Option.bind (m_cut_Tight r3 (List.replicate ((r3.Arcs.length : Int).toNat) (0 : Int)) c48) fun r69 =>
  if r69 = true then
  (some false)
  else
  gd (apok ((List.replicate ((r3.Arcs.length : Int).toNat) (0 : Int)) ++ ([0])).length 8) <|
  Option.bind (m_cut_From r3 ((List.replicate ((r3.Arcs.length : Int).toNat) (0 : Int)) ++ ([0]))) fun (r82, r83) =>
  gd (apok ((List.replicate ((r3.Arcs.length : Int).toNat) (0 : Int)) ++ ([0])).length 8) <|
  Option.bind (m_cut_To r3 ((List.replicate ((r3.Arcs.length : Int).toNat) (0 : Int)) ++ ([0]))) fun (r104, r105) =>
  if r83 = 20 then
  (if r105 = 20 then
  (Option.bind m_acequialaw04_awake fun r118 =>
  some r118)
  else
  some false)
  else
  some false
def m_acequialaw04_CutSides (n0 : Net) (s1 : List Bool) (which2 : Int) : Option (Bool) :=
  Option.bind (m_acequialow_Some n0 30 60) fun r3 =>
  Option.bind (m_acequialaw04_side r3 s1) fun r14 =>
  gd (mkok (r3.Arcs.length : Int)) <|
  Option.bind (m_cut_Right r3 r14) fun r28 =>
  if (!r28) = true then
  (some false)
  else
  if (which2.tmod 4) = 0 then
  (gd (i64ok (r3.N - 1)) <|
  gd (0 ≤ (r3.N - 1) ∧ (r3.N - 1) ≤ (r14.length : Int)) <|
  m_acequialaw04_CutSides_j1 r3 (r14.take (r3.N - 1).toNat))
  else
  if (which2.tmod 4) = 1 then
  (gd (apok (r14 ++ ([false])).length 1) <|
  m_acequialaw04_CutSides_j1 r3 (r14 ++ ([false])))
  else
  if (which2.tmod 4) = 2 then
  (gd (inb r3.S r14.length) <|
  m_acequialaw04_CutSides_j1 r3 (r14.set r3.S.toNat false))
  else
  gd (inb r3.T r14.length) <|
  m_acequialaw04_CutSides_j1 r3 (r14.set r3.T.toNat true)
end Go.Acq
