/- Plain models of functions: acequialaw04.CutPairs. (Printed by sx.py.) -/
import Derived.Test.YtcdbemdogkmahaaAcqMS4
namespace Go.Acq
open Go
set_option linter.unusedVariables false
/-- acequia/acequialaw04.CutPairs -/
def m_acequialaw04_CutPairs_j6 (r14 : List Bool) (r25 : List Bool) (b83 : Bool) : Option (Bool) :=
  if b83 = true then
  (some false)
  else
  Option.bind (m_cut_And r14 r14) fun r85 =>
  Option.bind (m_acequialow_Bools r85 r14) fun r96 =>
  if r96 = true then
  (Option.bind (m_cut_Or r14 r25) fun r99 =>
  Option.bind (m_cut_Or r25 r14) fun r110 =>
  Option.bind (m_acequialow_Bools r99 r110) fun r121 =>
  if r121 = true then
  (Option.bind m_acequialaw04_awake fun r124 =>
  some r124)
  else
  some false)
  else
  some false
def m_acequialaw04_CutPairs_j5 (r14 : List Bool) (r25 : List Bool) (r67 : Int) (b81 : Bool) : Option (Bool) :=
  if b81 = true then
  (m_acequialaw04_CutPairs_j6 r14 r25 true)
  else
  m_acequialaw04_CutPairs_j6 r14 r25 (decide (r67 < 0))
def m_acequialaw04_CutPairs_j4 (r14 : List Bool) (r25 : List Bool) (r53 : Int) (r67 : Int) (b79 : Bool) : Option (Bool) :=
  if b79 = true then
  (m_acequialaw04_CutPairs_j5 r14 r25 r67 true)
  else
  m_acequialaw04_CutPairs_j5 r14 r25 r67 (decide (r53 < 0))
def m_acequialaw04_CutPairs_j3 (r14 : List Bool) (r25 : List Bool) (r36 : Int) (r39 : Int) (r53 : Int) (r67 : Int) (b75 : Bool) : Option (Bool) :=
  if b75 = true then
  (m_acequialaw04_CutPairs_j4 r14 r25 r53 r67 true)
  else
  gd (i64ok (r53 + r67)) <|
  gd (i64ok (r36 + r39)) <|
  m_acequialaw04_CutPairs_j4 r14 r25 r53 r67 (decide ((r36 + r39) < (r53 + r67)))
def m_acequialaw04_CutPairs_j2 (r14 : List Bool) (r25 : List Bool) (r36 : Int) (r39 : Int) (r53 : Int) (r67 : Int) (r68 : Int) (b73 : Bool) : Option (Bool) :=
  if b73 = true then
  (m_acequialaw04_CutPairs_j3 r14 r25 r36 r39 r53 r67 true)
  else
  m_acequialaw04_CutPairs_j3 r14 r25 r36 r39 r53 r67 (decide (r68 ≠ 0))
def m_acequialaw04_CutPairs_j1 (r14 : List Bool) (r25 : List Bool) (r36 : Int) (r39 : Int) (r53 : Int) (r54 : Int) (r67 : Int) (r68 : Int) (b71 : Bool) : Option (Bool) :=
  if b71 = true then
  (m_acequialaw04_CutPairs_j2 r14 r25 r36 r39 r53 r67 r68 true)
  else
  m_acequialaw04_CutPairs_j2 r14 r25 r36 r39 r53 r67 r68 (decide (r54 ≠ 0))
def m_acequialaw04_CutPairs (n0 : Net) (s1 : List Bool) (t2 : List Bool) : Option (Bool) :=
  Option.bind (m_acequialow_Some n0 30 60) fun r3 =>
  Option.bind (m_acequialaw04_side r3 s1) fun r14 =>
  Option.bind (m_acequialaw04_side r3 t2) fun r25 =>
  Option.bind (m_cut_Cap r3 r14) fun (r36, r37) =>
  Option.bind (m_cut_Cap r3 r25) fun (r39, r40) =>
  Option.bind (m_cut_And r14 r25) fun r42 =>
  Option.bind (m_cut_Cap r3 r42) fun (r53, r54) =>
  Option.bind (m_cut_Or r14 r25) fun r56 =>
  Option.bind (m_cut_Cap r3 r56) fun (r67, r68) =>
  if r37 ≠ 0 then
  (m_acequialaw04_CutPairs_j1 r14 r25 r36 r39 r53 r54 r67 r68 true)
  else
  m_acequialaw04_CutPairs_j1 r14 r25 r36 r39 r53 r54 r67 r68 (decide (r40 ≠ 0))
end Go.Acq
