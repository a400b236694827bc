/- Plain models of functions: acequialaw02.CsrPairs, csr.Tail, sort.Search, sort.SearchInts, sort.SearchInts$1. (Printed by sx.py.) -/
import Derived.Test.YtcdbemdogkmahaaAcqMS2
namespace Go.Acq
open Go
set_option linter.unusedVariables false

/-- sort.SearchInts$1 -/
def m_sort_SearchInts_1 (i0 : Int) (c1 : List Int) (c2 : Int) : Option (Bool) :=
  gd (inb i0 c1.length) <|
  some (decide (c2 ≤ (c1.getD i0.toNat 0)))
/-- sort.Search -/
def m_sort_Search_SearchInts_1_s1 (f1_0 : List Int) (f1_1 : Int) (i1 : Int) (j2 : Int) : Option ((Int × Int) ⊕ (Int)) :=
  if i1 < j2 then
  (gd (i64ok (i1 + j2)) <|
  gd (u64ok (i1 + j2)) <|
  gd (i64ok (Int.fdiv (i1 + j2) (2 ^ 1))) <|
  Option.bind (m_sort_SearchInts_1 (Int.fdiv (i1 + j2) (2 ^ 1)) f1_0 f1_1) fun r7 =>
  if (!r7) = true then
  (gd (i64ok ((Int.fdiv (i1 + j2) (2 ^ 1)) + 1)) <|
  some (.inl (((Int.fdiv (i1 + j2) (2 ^ 1)) + 1), j2)))
  else
  some (.inl (i1, (Int.fdiv (i1 + j2) (2 ^ 1)))))
  else
  some (.inr i1)
def m_sort_Search_SearchInts_1_j2 (i11 : Int) : Option (Int) :=
  some i11
def m_sort_Search_SearchInts_1 (n0 : Int) (f1_0 : List Int) (f1_1 : Int) : Option (Int) :=
  Option.bind (loopM (fun s => m_sort_Search_SearchInts_1_s1 f1_0 f1_1 s.1 s.2) FUEL (0, n0)) fun p1_0_0 => m_sort_Search_SearchInts_1_j2 p1_0_0
/-- sort.SearchInts -/
def m_sort_SearchInts (a0 : List Int) (x1 : Int) : Option (Int) :=
  Option.bind (m_sort_Search_SearchInts_1 (a0.length : Int) a0 x1) fun r5 =>
  some r5
/-- acequia/csr.Tail -/
def m_csr_Tail_j1 (c0 : Csr) (a1 : Int) (x6 : Bool) : Option (Int × Bool) :=
  if x6 = true then
  (some (0, false))
  else
  gd (i64ok (a1 + 1)) <|
  Option.bind (m_sort_SearchInts c0.First (a1 + 1)) fun r9 =>
  gd (i64ok (r9 - 1)) <|
  some ((r9 - 1), true)
def m_csr_Tail (c0 : Csr) (a1 : Int) : Option (Int × Bool) :=
  if a1 < 0 then
  (m_csr_Tail_j1 c0 a1 true)
  else
  Option.bind (m_csr_Len c0) fun r4 =>
  m_csr_Tail_j1 c0 a1 (decide (r4 ≤ a1))
/-- acequia/acequialaw02.CsrPairs -/
def m_acequialaw02_CsrPairs_s1 (r3 : Net) (r14 : Csr) (r86 : Int) (x88 : Int) : Option ((Int) ⊕ (Bool ⊕ Unit)) :=
  if x88 < r86 then
  (gd (inb x88 r14.Rev.length) <|
  if (r14.Rev.getD x88.toNat 0) < 0 then
  (some (.inr (.inl false)))
  else
  Option.bind (m_csr_Len r14) fun r92 =>
  if r92 ≤ (r14.Rev.getD x88.toNat 0) then
  (some (.inr (.inl false)))
  else
  if (r14.Rev.getD x88.toNat 0) = x88 then
  (some (.inr (.inl false)))
  else
  gd (inb (r14.Rev.getD x88.toNat 0) r14.Rev.length) <|
  if (r14.Rev.getD (r14.Rev.getD x88.toNat 0).toNat 0) ≠ x88 then
  (some (.inr (.inl false)))
  else
  gd (inb x88 r14.Arc.length) <|
  gd (inb (r14.Rev.getD x88.toNat 0) r14.Arc.length) <|
  if (r14.Arc.getD x88.toNat 0) ≠ (r14.Arc.getD (r14.Rev.getD x88.toNat 0).toNat 0) then
  (some (.inr (.inl false)))
  else
  gd (inb x88 r14.Back.length) <|
  gd (inb (r14.Rev.getD x88.toNat 0) r14.Back.length) <|
  if ((r14.Back.getD x88.toNat false) == (r14.Back.getD (r14.Rev.getD x88.toNat 0).toNat false)) = true then
  (some (.inr (.inl false)))
  else
  Option.bind (m_csr_Tail r14 x88) fun (r104, r105) =>
  Option.bind (m_csr_Tail r14 (r14.Rev.getD x88.toNat 0)) fun (r107, r108) =>
  if (!r105) = true then
  (some (.inr (.inl false)))
  else
  if (!r108) = true then
  (some (.inr (.inl false)))
  else
  gd (inb x88 r14.Head.length) <|
  if (r14.Head.getD x88.toNat 0) ≠ r107 then
  (some (.inr (.inl false)))
  else
  gd (inb (r14.Rev.getD x88.toNat 0) r14.Head.length) <|
  if (r14.Head.getD (r14.Rev.getD x88.toNat 0).toNat 0) ≠ r104 then
  (some (.inr (.inl false)))
  else
  gd (inb x88 r14.Arc.length) <|
  gd (inb (r14.Arc.getD x88.toNat 0) r3.Arcs.length) <|
  gd (inb x88 r14.Back.length) <|
  if (!(r14.Back.getD x88.toNat false)) = true then
  (if ((r3.Arcs.getD (r14.Arc.getD x88.toNat 0).toNat default).fr) ≠ r104 then
  (some (.inr (.inl false)))
  else
  if ((r3.Arcs.getD (r14.Arc.getD x88.toNat 0).toNat default).to) ≠ r107 then
  (some (.inr (.inl false)))
  else
  gd (inb x88 r14.Cap.length) <|
  if ((r3.Arcs.getD (r14.Arc.getD x88.toNat 0).toNat default).cap) ≠ (r14.Cap.getD x88.toNat 0) then
  (some (.inr (.inl false)))
  else
  gd (inb x88 r14.Back.length) <|
  if (r14.Back.getD x88.toNat false) = true then
  (gd (inb x88 r14.Cap.length) <|
  if (r14.Cap.getD x88.toNat 0) ≠ 0 then
  (some (.inr (.inl false)))
  else
  gd (i64ok (x88 + 1)) <|
  some (.inl (x88 + 1)))
  else
  gd (i64ok (x88 + 1)) <|
  some (.inl (x88 + 1)))
  else
  gd (inb x88 r14.Back.length) <|
  if (r14.Back.getD x88.toNat false) = true then
  (gd (inb x88 r14.Cap.length) <|
  if (r14.Cap.getD x88.toNat 0) ≠ 0 then
  (some (.inr (.inl false)))
  else
  gd (i64ok (x88 + 1)) <|
  some (.inl (x88 + 1)))
  else
  gd (i64ok (x88 + 1)) <|
  some (.inl (x88 + 1)))
  else
  some (.inr (.inr ()))
def m_acequialaw02_CsrPairs_j2  : Option (Bool) :=
  Option.bind m_acequialaw02_awake fun r139 =>
  some r139
def m_acequialaw02_CsrPairs (n0 : Net) : Option (Bool) :=
  Option.bind (m_acequialow_Some n0 40 80) fun r3 =>
  Option.bind (m_csr_Make r3) fun (r14, r15) =>
  if r15 ≠ 0 then
  (some false)
  else
  Option.bind (m_csr_Len r14) fun r74 =>
  if (r14.Rev.length : Int) ≠ r74 then
  (some false)
  else
  Option.bind (m_csr_Len r14) fun r77 =>
  if (r14.Cap.length : Int) ≠ r77 then
  (some false)
  else
  Option.bind (m_csr_Len r14) fun r80 =>
  if (r14.Back.length : Int) ≠ r80 then
  (some false)
  else
  Option.bind (m_csr_Len r14) fun r83 =>
  if (r14.Arc.length : Int) ≠ r83 then
  (some false)
  else
  Option.bind (m_csr_Len r14) fun r86 =>
  Option.bind (loopM (fun s => m_acequialaw02_CsrPairs_s1 r3 r14 r86 s) FUEL 0) fun o => match o with | .inl p1_0_0 => (some p1_0_0) | .inr () => m_acequialaw02_CsrPairs_j2
end Go.Acq
