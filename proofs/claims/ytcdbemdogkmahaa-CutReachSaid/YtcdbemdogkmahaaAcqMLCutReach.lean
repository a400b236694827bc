/- Plain models of functions: acequialaw04.CutReach. (Printed by sx.py.) -/
import Derived.Test.YtcdbemdogkmahaaAcqMS4
namespace Go.Acq
open Go
set_option linter.unusedVariables false
/-- acequia/acequialaw04.CutReach -/
def m_acequialaw04_CutReach_s7 (r25 : List Bool) (r37 : List Bool) (both72 : Bool) (x73 : Int) : Option ((Bool × Int) ⊕ (Bool)) :=
  if x73 < (r25.length : Int) then
  (if both72 = true then
  (gd (i64ok (x73 + 1)) <|
  some (.inl (true, (x73 + 1))))
  else
  gd (inb x73 r25.length) <|
  if (r25.getD x73.toNat false) = true then
  (gd (inb x73 r37.length) <|
  gd (i64ok (x73 + 1)) <|
  some (.inl ((!(r37.getD x73.toNat false)), (x73 + 1))))
  else
  gd (i64ok (x73 + 1)) <|
  some (.inl (false, (x73 + 1))))
  else
  some (.inr both72)
def m_acequialaw04_CutReach_j14 (r3 : Net) (r37 : List Bool) (x83 : Int) (b107 : Bool) : Option ((Int) ⊕ (Bool ⊕ Unit)) :=
  if b107 = true then
  (some (.inr (.inl false)))
  else
  gd (inb ((r3.Arcs.getD x83.toNat default).fr) r37.length) <|
  if (!(r37.getD ((r3.Arcs.getD x83.toNat default).fr).toNat false)) = true then
  (gd (inb ((r3.Arcs.getD x83.toNat default).to) r37.length) <|
  if (r37.getD ((r3.Arcs.getD x83.toNat default).to).toNat false) = true then
  (some (.inr (.inl false)))
  else
  gd (i64ok (x83 + 1)) <|
  some (.inl (x83 + 1)))
  else
  gd (i64ok (x83 + 1)) <|
  some (.inl (x83 + 1))
def m_acequialaw04_CutReach_j13 (r3 : Net) (r14 : List Int) (r25 : List Bool) (r37 : List Bool) (x83 : Int) (b100 : Bool) : Option ((Int) ⊕ (Bool ⊕ Unit)) :=
  if b100 = true then
  (some (.inr (.inl false)))
  else
  gd (inb x83 r14.length) <|
  if 0 < (r14.getD x83.toNat 0) then
  (gd (inb ((r3.Arcs.getD x83.toNat default).to) r25.length) <|
  if (r25.getD ((r3.Arcs.getD x83.toNat default).to).toNat false) = true then
  (gd (inb ((r3.Arcs.getD x83.toNat default).fr) r25.length) <|
  m_acequialaw04_CutReach_j14 r3 r37 x83 (!(r25.getD ((r3.Arcs.getD x83.toNat default).fr).toNat false)))
  else
  m_acequialaw04_CutReach_j14 r3 r37 x83 false)
  else
  gd (i64ok (x83 + 1)) <|
  some (.inl (x83 + 1))
def m_acequialaw04_CutReach_j12 (r3 : Net) (r14 : List Int) (r25 : List Bool) (r37 : List Bool) (x83 : Int) (b99 : Bool) : Option ((Int) ⊕ (Bool ⊕ Unit)) :=
  m_acequialaw04_CutReach_j13 r3 r14 r25 r37 x83 b99
def m_acequialaw04_CutReach_j11 (r3 : Net) (r14 : List Int) (r25 : List Bool) (r37 : List Bool) (x83 : Int) (b98 : Bool) : Option ((Int) ⊕ (Bool ⊕ Unit)) :=
  m_acequialaw04_CutReach_j12 r3 r14 r25 r37 x83 b98
def m_acequialaw04_CutReach_j10 (r3 : Net) (r14 : List Int) (r25 : List Bool) (r37 : List Bool) (x83 : Int) (b93 : Bool) : Option ((Int) ⊕ (Bool ⊕ Unit)) :=
  if b93 = true then
  (m_acequialaw04_CutReach_j12 r3 r14 r25 r37 x83 true)
  else
  gd (inb ((r3.Arcs.getD x83.toNat default).to) r37.length) <|
  if (!(r37.getD ((r3.Arcs.getD x83.toNat default).to).toNat false)) = true then
  (gd (inb ((r3.Arcs.getD x83.toNat default).fr) r37.length) <|
  m_acequialaw04_CutReach_j11 r3 r14 r25 r37 x83 (r37.getD ((r3.Arcs.getD x83.toNat default).fr).toNat false))
  else
  m_acequialaw04_CutReach_j11 r3 r14 r25 r37 x83 false
def m_acequialaw04_CutReach_s9 (r3 : Net) (r14 : List Int) (r25 : List Bool) (r37 : List Bool) (x83 : Int) : Option ((Int) ⊕ (Bool ⊕ Unit)) :=
  if x83 < (r3.Arcs.length : Int) then
  (gd (inb x83 r3.Arcs.length) <|
  gd (inb x83 r14.length) <|
  if (r14.getD x83.toNat 0) < ((r3.Arcs.getD x83.toNat default).cap) then
  (gd (inb ((r3.Arcs.getD x83.toNat default).fr) r25.length) <|
  if (r25.getD ((r3.Arcs.getD x83.toNat default).fr).toNat false) = true then
  (gd (inb ((r3.Arcs.getD x83.toNat default).to) r25.length) <|
  m_acequialaw04_CutReach_j10 r3 r14 r25 r37 x83 (!(r25.getD ((r3.Arcs.getD x83.toNat default).to).toNat false)))
  else
  m_acequialaw04_CutReach_j10 r3 r14 r25 r37 x83 false)
  else
  m_acequialaw04_CutReach_j13 r3 r14 r25 r37 x83 false)
  else
  some (.inr (.inr ()))
def m_acequialaw04_CutReach_j15 (r3 : Net) (r25 : List Bool) (both82 : Bool) : Option (Bool) :=
  gd (inb r3.T r25.length) <|
  if (both82 == (r25.getD r3.T.toNat false)) = true then
  (Option.bind m_acequialaw04_awake fun r119 =>
  some r119)
  else
  some false
def m_acequialaw04_CutReach_j8 (r3 : Net) (r14 : List Int) (r25 : List Bool) (r37 : List Bool) (both82 : Bool) : Option (Bool) :=
  Option.bind (loopM (fun s => m_acequialaw04_CutReach_s9 r3 r14 r25 r37 s) FUEL 0) fun o => match o with | .inl p9_0_0 => (some p9_0_0) | .inr () => (m_acequialaw04_CutReach_j15 r3 r25 both82)
def m_acequialaw04_CutReach_j6 (r3 : Net) (r14 : List Int) (r25 : List Bool) (r37 : List Bool) (b66 : Bool) : Option (Bool) :=
  if b66 = true then
  (some false)
  else
  Option.bind (m_cut_Right r3 r25) fun r68 =>
  gd (inb r3.T r25.length) <|
  if (!(r68 == (!(r25.getD r3.T.toNat false)))) = true then
  (some false)
  else
  Option.bind (loopM (fun s => m_acequialaw04_CutReach_s7 r25 r37 s.1 s.2) FUEL (false, 0)) fun p7_0_0 => m_acequialaw04_CutReach_j8 r3 r14 r25 r37 p7_0_0
def m_acequialaw04_CutReach_j5 (r3 : Net) (r14 : List Int) (r25 : List Bool) (r37 : List Bool) (b60 : Bool) : Option (Bool) :=
  if b60 = true then
  (m_acequialaw04_CutReach_j6 r3 r14 r25 r37 true)
  else
  Option.bind (m_cut_Right r3 r25) fun r62 =>
  Option.bind (m_cut_Right r3 r37) fun r64 =>
  m_acequialaw04_CutReach_j6 r3 r14 r25 r37 (!(r62 == r64))
def m_acequialaw04_CutReach_j4 (r3 : Net) (r14 : List Int) (r25 : List Bool) (r37 : List Bool) (b57 : Bool) : Option (Bool) :=
  if b57 = true then
  (m_acequialaw04_CutReach_j5 r3 r14 r25 r37 true)
  else
  gd (inb r3.T r37.length) <|
  m_acequialaw04_CutReach_j5 r3 r14 r25 r37 (r37.getD r3.T.toNat false)
def m_acequialaw04_CutReach_j3 (r3 : Net) (r14 : List Int) (r25 : List Bool) (r37 : List Bool) (b54 : Bool) : Option (Bool) :=
  if b54 = true then
  (m_acequialaw04_CutReach_j4 r3 r14 r25 r37 true)
  else
  gd (inb r3.S r25.length) <|
  m_acequialaw04_CutReach_j4 r3 r14 r25 r37 (!(r25.getD r3.S.toNat false))
def m_acequialaw04_CutReach_j2 (r3 : Net) (r14 : List Int) (r25 : List Bool) (r37 : List Bool) (b52 : Bool) : Option (Bool) :=
  if b52 = true then
  (m_acequialaw04_CutReach_j3 r3 r14 r25 r37 true)
  else
  m_acequialaw04_CutReach_j3 r3 r14 r25 r37 (decide ((r37.length : Int) ≠ r3.N))
def m_acequialaw04_CutReach_j1 (r3 : Net) (r14 : List Int) (r25 : List Bool) (r37 : List Bool) (b50 : Bool) : Option (Bool) :=
  if b50 = true then
  (m_acequialaw04_CutReach_j2 r3 r14 r25 r37 true)
  else
  m_acequialaw04_CutReach_j2 r3 r14 r25 r37 (decide ((r25.length : Int) ≠ r3.N))
def m_acequialaw04_CutReach (n0 : Net) (l1 : List Int) : Option (Bool) :=
  Option.bind (m_acequialow_Some n0 30 60) fun r3 =>
  Option.bind (m_acequialow_Within r3 l1) fun r14 =>
  Option.bind (m_cut_From r3 r14) fun (r25, r26) =>
  Option.bind (m_cut_To r3 r14) fun (r37, r38) =>
  if r26 ≠ 0 then
  (m_acequialaw04_CutReach_j1 r3 r14 r25 r37 true)
  else
  m_acequialaw04_CutReach_j1 r3 r14 r25 r37 (decide (r38 ≠ 0))
end Go.Acq
