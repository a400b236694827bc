/- Plain models of functions: acequialaw02.CsrRows, bits.Mul, bits.Mul64, csr.Forward, slices.Repeat[[]int,int]. (Printed by sx.py.) -/
import Derived.Test.YtcdbemdogkmahaaAcqMS3
namespace Go.Acq
open Go
set_option linter.unusedVariables false

/-- math/bits.Mul64 -/
def m_bits_Mul64 (x0 : Int) (y1 : Int) : Option (Int × Int) :=
  gd (u64ok x0) <|
  gd (u64ok y1) <|
  gd (u64ok ((x0 % 4294967296) * (y1 % 4294967296))) <|
  gd (u64ok ((Int.fdiv x0 (2 ^ 32)) * (y1 % 4294967296))) <|
  gd (u64ok (((Int.fdiv x0 (2 ^ 32)) * (y1 % 4294967296)) + (Int.fdiv ((x0 % 4294967296) * (y1 % 4294967296)) (2 ^ 32)))) <|
  gd (u64ok (((Int.fdiv x0 (2 ^ 32)) * (y1 % 4294967296)) + (Int.fdiv ((x0 % 4294967296) * (y1 % 4294967296)) (2 ^ 32)))) <|
  gd (u64ok ((x0 % 4294967296) * (Int.fdiv y1 (2 ^ 32)))) <|
  gd (u64ok (((((Int.fdiv x0 (2 ^ 32)) * (y1 % 4294967296)) + (Int.fdiv ((x0 % 4294967296) * (y1 % 4294967296)) (2 ^ 32))) % 4294967296) + ((x0 % 4294967296) * (Int.fdiv y1 (2 ^ 32))))) <|
  gd (u64ok ((Int.fdiv x0 (2 ^ 32)) * (Int.fdiv y1 (2 ^ 32)))) <|
  gd (u64ok (((Int.fdiv x0 (2 ^ 32)) * (Int.fdiv y1 (2 ^ 32))) + (Int.fdiv (((Int.fdiv x0 (2 ^ 32)) * (y1 % 4294967296)) + (Int.fdiv ((x0 % 4294967296) * (y1 % 4294967296)) (2 ^ 32))) (2 ^ 32)))) <|
  gd (u64ok ((((Int.fdiv x0 (2 ^ 32)) * (Int.fdiv y1 (2 ^ 32))) + (Int.fdiv (((Int.fdiv x0 (2 ^ 32)) * (y1 % 4294967296)) + (Int.fdiv ((x0 % 4294967296) * (y1 % 4294967296)) (2 ^ 32))) (2 ^ 32))) + (Int.fdiv (((((Int.fdiv x0 (2 ^ 32)) * (y1 % 4294967296)) + (Int.fdiv ((x0 % 4294967296) * (y1 % 4294967296)) (2 ^ 32))) % 4294967296) + ((x0 % 4294967296) * (Int.fdiv y1 (2 ^ 32)))) (2 ^ 32)))) <|
  gd (u64ok (x0 * y1)) <|
  some (((((Int.fdiv x0 (2 ^ 32)) * (Int.fdiv y1 (2 ^ 32))) + (Int.fdiv (((Int.fdiv x0 (2 ^ 32)) * (y1 % 4294967296)) + (Int.fdiv ((x0 % 4294967296) * (y1 % 4294967296)) (2 ^ 32))) (2 ^ 32))) + (Int.fdiv (((((Int.fdiv x0 (2 ^ 32)) * (y1 % 4294967296)) + (Int.fdiv ((x0 % 4294967296) * (y1 % 4294967296)) (2 ^ 32))) % 4294967296) + ((x0 % 4294967296) * (Int.fdiv y1 (2 ^ 32)))) (2 ^ 32))), (x0 * y1))
/-- math/bits.Mul -/
def m_bits_Mul (x0 : Int) (y1 : Int) : Option (Int × Int) :=
  Option.bind (m_bits_Mul64 x0 y1) fun (r1, r2) =>
  some (r1, r2)
/-- slices.Repeat[[]int,int] -/
def m_slices_Repeat_int_s2 (xs14 : List Int) (n16 : Int) : Option ((List Int × Int) ⊕ (List Int)) :=
  if n16 < (xs14.length : Int) then
  (gd (0 ≤ n16 ∧ n16 ≤ (xs14.length : Int)) <|
  gd (0 ≤ n16 ∧ n16 ≤ (xs14.length : Int)) <|
  gd (i64ok (n16 + ((min (xs14.drop n16.toNat).length (xs14.take n16.toNat).length : Nat) : Int))) <|
  some (.inl ((xs14.take n16.toNat ++ cpy (xs14.drop n16.toNat) (xs14.take n16.toNat)), (n16 + ((min (xs14.drop n16.toNat).length (xs14.take n16.toNat).length : Nat) : Int)))))
  else
  some (.inr xs14)
def m_slices_Repeat_int_j3 (xs21 : List Int) : Option (List Int) :=
  some xs21
def m_slices_Repeat_int_j1 (x0 : List Int) (r5 : Int) (x8 : Bool) : Option (List Int) :=
  if x8 = true then
  (none)
  else
  gd (i64ok r5) <|
  gd (mkok r5) <|
  Option.bind (loopM (fun s => m_slices_Repeat_int_s2 s.1 s.2) FUEL ((cpy (List.replicate r5.toNat (0 : Int)) x0), ((min (List.replicate r5.toNat (0 : Int)).length x0.length : Nat) : Int))) fun p2_0_0 => m_slices_Repeat_int_j3 p2_0_0
def m_slices_Repeat_int (x0 : List Int) (count1 : Int) : Option (List Int) :=
  if count1 < 0 then
  (none)
  else
  gd (u64ok (x0.length : Int)) <|
  gd (u64ok count1) <|
  Option.bind (m_bits_Mul (x0.length : Int) count1) fun (r4, r5) =>
  if 0 < r4 then
  (m_slices_Repeat_int_j1 x0 r5 true)
  else
  m_slices_Repeat_int_j1 x0 r5 (decide (9223372036854775807 < r5))
/-- acequia/csr.Forward -/
def m_csr_Forward_j2 (c0 : Csr) (xs20 : List Int) (x22 : Int) (x27 : Bool) : Option ((List Int × Int) ⊕ (List Int)) :=
  if x27 = true then
  (gd (inb (c0.Arc.getD x22.toNat 0) xs20.length) <|
  gd (i64ok (x22 + 1)) <|
  some (.inl ((xs20.set (c0.Arc.getD x22.toNat 0).toNat x22), (x22 + 1))))
  else
  gd (i64ok (x22 + 1)) <|
  some (.inl (xs20, (x22 + 1)))
def m_csr_Forward_s1 (c0 : Csr) (arcs1 : Int) (r18 : Int) (xs20 : List Int) (x22 : Int) : Option ((List Int × Int) ⊕ (List Int)) :=
  if x22 < r18 then
  (gd (inb x22 c0.Arc.length) <|
  gd (inb x22 c0.Back.length) <|
  if (!(c0.Back.getD x22.toNat false)) = true then
  (m_csr_Forward_j2 c0 xs20 x22 (decide ((c0.Arc.getD x22.toNat 0) < arcs1)))
  else
  m_csr_Forward_j2 c0 xs20 x22 false)
  else
  some (.inr xs20)
def m_csr_Forward_j3 (xs32 : List Int) : Option (List Int) :=
  some xs32
def m_csr_Forward (c0 : Csr) (arcs1 : Int) : Option (List Int) :=
  if arcs1 < 0 then
  (some ([]))
  else
  if 16384 < arcs1 then
  (some ([]))
  else
  Option.bind (m_slices_Repeat_int ([(-1)]) arcs1) fun r7 =>
  Option.bind (m_csr_Len c0) fun r18 =>
  Option.bind (loopM (fun s => m_csr_Forward_s1 c0 arcs1 r18 s.1 s.2) FUEL (r7, 0)) fun p1_0_0 => m_csr_Forward_j3 p1_0_0
/-- acequia/acequialaw02.CsrRows -/
def m_acequialaw02_CsrRows_s2 (r14 : Csr) (x87 : Int) (xs94 : List Int) (a96 : Int) : Option ((List Int × Int) ⊕ (Bool ⊕ (List Int))) :=
  gd (i64ok (x87 + 1)) <|
  gd (inb (x87 + 1) r14.First.length) <|
  if a96 < (r14.First.getD (x87 + 1).toNat 0) then
  (Option.bind (m_csr_Tail r14 a96) fun (r100, r101) =>
  if (!r101) = true then
  (some (.inr (.inl false)))
  else
  if r100 ≠ x87 then
  (some (.inr (.inl false)))
  else
  gd (inb x87 r14.First.length) <|
  if (r14.First.getD x87.toNat 0) < a96 then
  (gd (i64ok (a96 - 1)) <|
  gd (inb (a96 - 1) r14.Arc.length) <|
  gd (inb a96 r14.Arc.length) <|
  if (r14.Arc.getD a96.toNat 0) ≤ (r14.Arc.getD (a96 - 1).toNat 0) then
  (some (.inr (.inl false)))
  else
  gd (inb a96 r14.Arc.length) <|
  gd (inb (r14.Arc.getD a96.toNat 0) xs94.length) <|
  gd (i64ok ((xs94.getD (r14.Arc.getD a96.toNat 0).toNat 0) + 1)) <|
  gd (inb (r14.Arc.getD a96.toNat 0) xs94.length) <|
  gd (i64ok (a96 + 1)) <|
  some (.inl ((xs94.set (r14.Arc.getD a96.toNat 0).toNat ((xs94.getD (r14.Arc.getD a96.toNat 0).toNat 0) + 1)), (a96 + 1))))
  else
  gd (inb a96 r14.Arc.length) <|
  gd (inb (r14.Arc.getD a96.toNat 0) xs94.length) <|
  gd (i64ok ((xs94.getD (r14.Arc.getD a96.toNat 0).toNat 0) + 1)) <|
  gd (inb (r14.Arc.getD a96.toNat 0) xs94.length) <|
  gd (i64ok (a96 + 1)) <|
  some (.inl ((xs94.set (r14.Arc.getD a96.toNat 0).toNat ((xs94.getD (r14.Arc.getD a96.toNat 0).toNat 0) + 1)), (a96 + 1))))
  else
  some (.inr (.inr xs94))
def m_acequialaw02_CsrRows_j3 (x87 : Int) (xs121 : List Int) : Option ((List Int × Int) ⊕ (Bool ⊕ (List Int))) :=
  gd (i64ok (x87 + 1)) <|
  some (.inl (xs121, (x87 + 1)))
def m_acequialaw02_CsrRows_s1 (r3 : Net) (r14 : Csr) (xs85 : List Int) (x87 : Int) : Option ((List Int × Int) ⊕ (Bool ⊕ (List Int))) :=
  if x87 < r3.N then
  (gd (inb x87 r14.First.length) <|
  gd (i64ok (x87 + 1)) <|
  gd (inb (x87 + 1) r14.First.length) <|
  if (r14.First.getD (x87 + 1).toNat 0) < (r14.First.getD x87.toNat 0) then
  (some (.inr (.inl false)))
  else
  gd (inb x87 r14.First.length) <|
  Option.bind (loopM (fun s => m_acequialaw02_CsrRows_s2 r14 x87 s.1 s.2) FUEL (xs85, (r14.First.getD x87.toNat 0))) fun o => match o with | .inl p2_0_0 => (some (.inr (.inl p2_0_0))) | .inr p2_1_0 => (m_acequialaw02_CsrRows_j3 x87 p2_1_0))
  else
  some (.inr (.inr xs85))
def m_acequialaw02_CsrRows_j6 (r14 : Csr) (xs124 : List Int) (r126 : List Int) (x138 : Int) (want144 : Int) : Option ((Int) ⊕ (Bool ⊕ Unit)) :=
  gd (inb x138 xs124.length) <|
  if (xs124.getD x138.toNat 0) ≠ want144 then
  (some (.inr (.inl false)))
  else
  gd (inb x138 r126.length) <|
  if (!((decide ((r126.getD x138.toNat 0) < 0)) == (decide (want144 = 0)))) = true then
  (some (.inr (.inl false)))
  else
  if want144 = 2 then
  (gd (inb x138 r126.length) <|
  gd (inb (r126.getD x138.toNat 0) r14.Arc.length) <|
  if (r14.Arc.getD (r126.getD x138.toNat 0).toNat 0) ≠ x138 then
  (some (.inr (.inl false)))
  else
  gd (inb x138 r126.length) <|
  gd (inb (r126.getD x138.toNat 0) r14.Back.length) <|
  if (r14.Back.getD (r126.getD x138.toNat 0).toNat false) = true then
  (some (.inr (.inl false)))
  else
  gd (i64ok (x138 + 1)) <|
  some (.inl (x138 + 1)))
  else
  gd (i64ok (x138 + 1)) <|
  some (.inl (x138 + 1))
def m_acequialaw02_CsrRows_s5 (r3 : Net) (r14 : Csr) (xs124 : List Int) (r126 : List Int) (x138 : Int) : Option ((Int) ⊕ (Bool ⊕ Unit)) :=
  if x138 < (r3.Arcs.length : Int) then
  (gd (inb x138 r3.Arcs.length) <|
  if ((r3.Arcs.getD x138.toNat default).fr) = ((r3.Arcs.getD x138.toNat default).to) then
  (m_acequialaw02_CsrRows_j6 r14 xs124 r126 x138 0)
  else
  m_acequialaw02_CsrRows_j6 r14 xs124 r126 x138 2)
  else
  some (.inr (.inr ()))
def m_acequialaw02_CsrRows_j7  : Option (Bool) :=
  Option.bind m_acequialaw02_awake fun r159 =>
  some r159
def m_acequialaw02_CsrRows_j4 (r3 : Net) (r14 : Csr) (xs124 : List Int) : Option (Bool) :=
  Option.bind (m_csr_Forward r14 (r3.Arcs.length : Int)) fun r126 =>
  if (r126.length : Int) ≠ (r3.Arcs.length : Int) then
  (some false)
  else
  Option.bind (loopM (fun s => m_acequialaw02_CsrRows_s5 r3 r14 xs124 r126 s) FUEL 0) fun o => match o with | .inl p5_0_0 => (some p5_0_0) | .inr () => m_acequialaw02_CsrRows_j7
def m_acequialaw02_CsrRows (n0 : Net) : Option (Bool) :=
  Option.bind (m_acequialow_Some n0 40 80) fun r3 =>
  Option.bind (m_csr_Make r3) fun (r14, r15) =>
  if r15 ≠ 0 then
  (some false)
  else
  gd (i64ok (r3.N + 1)) <|
  if (r14.First.length : Int) ≠ (r3.N + 1) then
  (some false)
  else
  gd (inb 0 r14.First.length) <|
  if (r14.First.getD (0 : Int).toNat 0) ≠ 0 then
  (some false)
  else
  gd (inb r3.N r14.First.length) <|
  Option.bind (m_csr_Len r14) fun r79 =>
  if (r14.First.getD r3.N.toNat 0) ≠ r79 then
  (some false)
  else
  gd (mkok (r3.Arcs.length : Int)) <|
  Option.bind (loopM (fun s => m_acequialaw02_CsrRows_s1 r3 r14 s.1 s.2) FUEL ((List.replicate ((r3.Arcs.length : Int).toNat) (0 : Int)), 0)) fun o => match o with | .inl p1_0_0 => (some p1_0_0) | .inr p1_1_0 => (m_acequialaw02_CsrRows_j4 r3 r14 p1_1_0)
end Go.Acq
