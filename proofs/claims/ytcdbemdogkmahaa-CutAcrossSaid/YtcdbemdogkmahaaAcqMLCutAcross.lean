/- Plain models of functions: acequialaw04.CutAcross. (Printed by sx.py.) -/
import Derived.Test.YtcdbemdogkmahaaAcqMS4
namespace Go.Acq
open Go
set_option linter.unusedVariables false
/-- acequia/acequialaw04.CutAcross -/
def m_acequialaw04_CutAcross_s5 (r25 : List Bool) (r42 : List Int) (sum65 : Int) (x66 : Int) : Option ((Int × Int) ⊕ (Int)) :=
  if x66 < (r25.length : Int) then
  (gd (inb x66 r25.length) <|
  if (!(r25.getD x66.toNat false)) = true then
  (gd (inb x66 r42.length) <|
  gd (i64ok (sum65 + (r42.getD x66.toNat 0))) <|
  gd (i64ok (x66 + 1)) <|
  some (.inl ((sum65 + (r42.getD x66.toNat 0)), (x66 + 1))))
  else
  gd (i64ok (x66 + 1)) <|
  some (.inl (sum65, (x66 + 1))))
  else
  some (.inr sum65)
def m_acequialaw04_CutAcross_j6 (r3 : Net) (r14 : List Int) (r25 : List Bool) (r36 : Int) (r39 : Int) (sum74 : Int) : Option (Bool) :=
  if r36 ≠ sum74 then
  (some false)
  else
  if r39 < r36 then
  (some false)
  else
  Option.bind (m_cut_Tight r3 r14 r25) fun r77 =>
  if (!((decide (r36 = r39)) == r77)) = true then
  (some false)
  else
  Option.bind (m_flow_Value r3 r14) fun (r80, r81) =>
  if r81 = 0 then
  (if r80 ≠ r36 then
  (some false)
  else
  Option.bind m_acequialaw04_awake fun r85 =>
  some r85)
  else
  Option.bind m_acequialaw04_awake fun r87 =>
  some r87
def m_acequialaw04_CutAcross_j4 (r3 : Net) (r14 : List Int) (r25 : List Bool) (r36 : Int) (r39 : Int) (r42 : List Int) (b63 : Bool) : Option (Bool) :=
  if b63 = true then
  (some false)
  else
  Option.bind (loopM (fun s => m_acequialaw04_CutAcross_s5 r25 r42 s.1 s.2) FUEL (0, 0)) fun p5_0_0 => m_acequialaw04_CutAcross_j6 r3 r14 r25 r36 r39 p5_0_0
def m_acequialaw04_CutAcross_j3 (r3 : Net) (r14 : List Int) (r25 : List Bool) (r36 : Int) (r39 : Int) (r42 : List Int) (b61 : Bool) : Option (Bool) :=
  if b61 = true then
  (m_acequialaw04_CutAcross_j4 r3 r14 r25 r36 r39 r42 true)
  else
  m_acequialaw04_CutAcross_j4 r3 r14 r25 r36 r39 r42 (decide ((r42.length : Int) ≠ r3.N))
def m_acequialaw04_CutAcross_j2 (r3 : Net) (r14 : List Int) (r25 : List Bool) (r36 : Int) (r39 : Int) (r42 : List Int) (b57 : Bool) : Option (Bool) :=
  if b57 = true then
  (m_acequialaw04_CutAcross_j3 r3 r14 r25 r36 r39 r42 true)
  else
  Option.bind (m_cut_Right r3 r25) fun r59 =>
  m_acequialaw04_CutAcross_j3 r3 r14 r25 r36 r39 r42 (!r59)
def m_acequialaw04_CutAcross_j1 (r3 : Net) (r14 : List Int) (r25 : List Bool) (r36 : Int) (r39 : Int) (r42 : List Int) (r43 : Int) (b55 : Bool) : Option (Bool) :=
  if b55 = true then
  (m_acequialaw04_CutAcross_j2 r3 r14 r25 r36 r39 r42 true)
  else
  m_acequialaw04_CutAcross_j2 r3 r14 r25 r36 r39 r42 (decide (r43 ≠ 0))
def m_acequialaw04_CutAcross (n0 : Net) (l1 : List Int) (s2 : List Bool) : Option (Bool) :=
  Option.bind (m_acequialow_Some n0 30 60) fun r3 =>
  Option.bind (m_acequialow_Within r3 l1) fun r14 =>
  Option.bind (m_acequialaw04_side r3 s2) fun r25 =>
  Option.bind (m_cut_Across r3 r14 r25) fun (r36, r37) =>
  Option.bind (m_cut_Cap r3 r25) fun (r39, r40) =>
  Option.bind (m_flow_Excess r3 r14) fun (r42, r43) =>
  if r37 ≠ 0 then
  (m_acequialaw04_CutAcross_j1 r3 r14 r25 r36 r39 r42 r43 true)
  else
  m_acequialaw04_CutAcross_j1 r3 r14 r25 r36 r39 r42 r43 (decide (r40 ≠ 0))
end Go.Acq
