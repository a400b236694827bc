/- Plain models of functions: acequialaw02.CsrBack. (Printed by sx.py.) -/
import Derived.Test.YtcdbemdogkmahaaAcqMS2
namespace Go.Acq
open Go
set_option linter.unusedVariables false

/-- acequia/acequialaw02.CsrBack -/
def m_acequialaw02_CsrBack_s1 (r3 : Net) (r25 : Csr) (r84 : List Int) (x101 : Int) : Option ((Int) ⊕ (Bool ⊕ Unit)) :=
  if x101 < (r84.length : Int) then
  (gd (inb x101 r84.length) <|
  if (r84.getD x101.toNat 0) < 0 then
  (some (.inr (.inl false)))
  else
  gd (inb x101 r25.Rev.length) <|
  gd (inb (r25.Rev.getD x101.toNat 0) r84.length) <|
  gd (inb x101 r25.Arc.length) <|
  gd (inb (r25.Arc.getD x101.toNat 0) r3.Arcs.length) <|
  gd (i64ok (((r3.Arcs.getD (r25.Arc.getD x101.toNat 0).toNat default).cap) - (r84.getD x101.toNat 0))) <|
  if (r84.getD (r25.Rev.getD x101.toNat 0).toNat 0) ≠ (((r3.Arcs.getD (r25.Arc.getD x101.toNat 0).toNat default).cap) - (r84.getD x101.toNat 0)) then
  (some (.inr (.inl false)))
  else
  gd (i64ok (x101 + 1)) <|
  some (.inl (x101 + 1)))
  else
  some (.inr (.inr ()))
def m_acequialaw02_CsrBack_j2 (at2 : Int) (by3 : Int) (r3 : Net) (r14 : List Int) (r25 : Csr) (r84 : List Int) : Option (Bool) :=
  Option.bind (m_csr_Flow r25 r84 (r14.length : Int)) fun (r113, r114) =>
  if r114 ≠ 0 then
  (some false)
  else
  Option.bind (m_acequialow_Longs r113 r14) fun r126 =>
  if (!r126) = true then
  (some false)
  else
  if (r84.length : Int) = 0 then
  (Option.bind m_acequialaw02_awake fun r130 =>
  some r130)
  else
  gd (i64ok at2) <|
  gd ((r84.length : Int) ≠ 0) <|
  gd (inb (at2.tmod (r84.length : Int)) r25.Arc.length) <|
  gd (inb (r25.Arc.getD (at2.tmod (r84.length : Int)).toNat 0) r14.length) <|
  Option.bind (m_csr_Res r25 (r14.set (r25.Arc.getD (at2.tmod (r84.length : Int)).toNat 0).toNat by3)) fun (r136, r137) =>
  gd (i64ok at2) <|
  gd ((r84.length : Int) ≠ 0) <|
  gd (inb (at2.tmod (r84.length : Int)) r84.length) <|
  gd (i64ok ((r84.getD (at2.tmod (r84.length : Int)).toNat 0) + 1)) <|
  gd (inb (at2.tmod (r84.length : Int)) r84.length) <|
  Option.bind (m_csr_Flow r25 (r84.set (at2.tmod (r84.length : Int)).toNat ((r84.getD (at2.tmod (r84.length : Int)).toNat 0) + 1)) ((r14.set (r25.Arc.getD (at2.tmod (r84.length : Int)).toNat 0).toNat by3).length : Int)) fun (r153, r154) =>
  if 0 ≤ by3 then
  (gd (inb (r25.Arc.getD (at2.tmod (r84.length : Int)).toNat 0) r3.Arcs.length) <|
  if ((decide (r137 = 0)) == (decide (by3 ≤ ((r3.Arcs.getD (r25.Arc.getD (at2.tmod (r84.length : Int)).toNat 0).toNat default).cap)))) = true then
  (if r154 = 20 then
  (Option.bind m_acequialaw02_awake fun r169 =>
  some r169)
  else
  some false)
  else
  some false)
  else
  if ((decide (r137 = 0)) == false) = true then
  (if r154 = 20 then
  (Option.bind m_acequialaw02_awake fun r173 =>
  some r173)
  else
  some false)
  else
  some false
def m_acequialaw02_CsrBack (n0 : Net) (l1 : List Int) (at2 : Int) (by3 : Int) : Option (Bool) :=
  Option.bind (m_acequialow_Some n0 40 80) fun r3 =>
  Option.bind (m_acequialow_Within r3 l1) fun r14 =>
  Option.bind (m_csr_Make r3) fun (r25, r26) =>
  Option.bind (m_csr_Res r25 r14) fun (r84, r85) =>
  if r26 ≠ 0 then
  (some false)
  else
  if r85 ≠ 0 then
  (some false)
  else
  Option.bind (m_csr_Len r25) fun r98 =>
  if (r84.length : Int) ≠ r98 then
  (some false)
  else
  Option.bind (loopM (fun s => m_acequialaw02_CsrBack_s1 r3 r25 r84 s) FUEL 0) fun o => match o with | .inl p1_0_0 => (some p1_0_0) | .inr () => (m_acequialaw02_CsrBack_j2 at2 by3 r3 r14 r25 r84)
end Go.Acq
