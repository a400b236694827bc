/- Plain models of functions: acequialaw04.CutGreatest, acequialaw04.greatest. (Printed by sx.py.) -/
import Derived.Test.YtcdbemdogkmahaaAcqMS4
namespace Go.Acq
open Go
set_option linter.unusedVariables false
/-- acequia/acequialaw04.greatest -/
def m_acequialaw04_greatest_j6 (n0 : Net) (x57 : Int) (xs81 : List Hop) (xs83 : List Bool) (row85 : List Int) (x100 : Bool) : Option ((List Hop × List Bool × List Int × Int) ⊕ (List Hop × List Bool × List Int)) :=
  if x100 = true then
  (gd (inb ((n0.Arcs.getD x57.toNat default).fr) xs83.length) <|
  gd (inb ((n0.Arcs.getD x57.toNat default).fr) xs81.length) <|
  gd (apok (row85 ++ ([(n0.Arcs.getD x57.toNat default).fr])).length 8) <|
  gd (i64ok (x57 + 1)) <|
  some (.inl ((xs81.set ((n0.Arcs.getD x57.toNat default).fr).toNat (Hop.mk x57 true)), (xs83.set ((n0.Arcs.getD x57.toNat default).fr).toNat true), (row85 ++ ([(n0.Arcs.getD x57.toNat default).fr])), (x57 + 1))))
  else
  gd (i64ok (x57 + 1)) <|
  some (.inl (xs81, xs83, row85, (x57 + 1)))
def m_acequialaw04_greatest_j5 (n0 : Net) (f6 : List Int) (i41 : Int) (x57 : Int) (xs81 : List Hop) (xs83 : List Bool) (row85 : List Int) : Option ((List Hop × List Bool × List Int × Int) ⊕ (List Hop × List Bool × List Int)) :=
  gd (inb i41 row85.length) <|
  if ((n0.Arcs.getD x57.toNat default).to) = (row85.getD i41.toNat 0) then
  (gd (inb ((n0.Arcs.getD x57.toNat default).fr) xs83.length) <|
  if (!(xs83.getD ((n0.Arcs.getD x57.toNat default).fr).toNat false)) = true then
  (gd (inb x57 f6.length) <|
  m_acequialaw04_greatest_j6 n0 x57 xs81 xs83 row85 (decide (0 < (f6.getD x57.toNat 0))))
  else
  m_acequialaw04_greatest_j6 n0 x57 xs81 xs83 row85 false)
  else
  m_acequialaw04_greatest_j6 n0 x57 xs81 xs83 row85 false
def m_acequialaw04_greatest_j4 (n0 : Net) (f6 : List Int) (i41 : Int) (xs43 : List Hop) (xs45 : List Bool) (row47 : List Int) (x57 : Int) (x67 : Bool) : Option ((List Hop × List Bool × List Int × Int) ⊕ (List Hop × List Bool × List Int)) :=
  if x67 = true then
  (gd (inb ((n0.Arcs.getD x57.toNat default).to) xs45.length) <|
  gd (inb ((n0.Arcs.getD x57.toNat default).to) xs43.length) <|
  gd (apok (row47 ++ ([(n0.Arcs.getD x57.toNat default).to])).length 8) <|
  m_acequialaw04_greatest_j5 n0 f6 i41 x57 (xs43.set ((n0.Arcs.getD x57.toNat default).to).toNat (Hop.mk x57 false)) (xs45.set ((n0.Arcs.getD x57.toNat default).to).toNat true) (row47 ++ ([(n0.Arcs.getD x57.toNat default).to])))
  else
  m_acequialaw04_greatest_j5 n0 f6 i41 x57 xs43 xs45 row47
def m_acequialaw04_greatest_s3 (n0 : Net) (f6 : List Int) (i41 : Int) (xs43 : List Hop) (xs45 : List Bool) (row47 : List Int) (x57 : Int) : Option ((List Hop × List Bool × List Int × Int) ⊕ (List Hop × List Bool × List Int)) :=
  if x57 < (n0.Arcs.length : Int) then
  (gd (inb x57 n0.Arcs.length) <|
  gd (inb i41 row47.length) <|
  if ((n0.Arcs.getD x57.toNat default).fr) = (row47.getD i41.toNat 0) then
  (gd (inb ((n0.Arcs.getD x57.toNat default).to) xs45.length) <|
  if (!(xs45.getD ((n0.Arcs.getD x57.toNat default).to).toNat false)) = true then
  (gd (inb x57 f6.length) <|
  m_acequialaw04_greatest_j4 n0 f6 i41 xs43 xs45 row47 x57 (decide ((f6.getD x57.toNat 0) < ((n0.Arcs.getD x57.toNat default).cap))))
  else
  m_acequialaw04_greatest_j4 n0 f6 i41 xs43 xs45 row47 x57 false)
  else
  m_acequialaw04_greatest_j4 n0 f6 i41 xs43 xs45 row47 x57 false)
  else
  some (.inr (xs43, xs45, row47))
def m_acequialaw04_greatest_j7 (i41 : Int) (xs116 : List Hop) (xs118 : List Bool) (row120 : List Int) : Option ((List Hop × List Bool × List Int × Int) ⊕ (List Hop × List Bool)) :=
  gd (i64ok (i41 + 1)) <|
  some (.inl (xs116, xs118, row120, (i41 + 1)))
def m_acequialaw04_greatest_s2 (n0 : Net) (f6 : List Int) (xs27 : List Hop) (xs29 : List Bool) (row31 : List Int) (i41 : Int) : Option ((List Hop × List Bool × List Int × Int) ⊕ (List Hop × List Bool)) :=
  if i41 < (row31.length : Int) then
  (Option.bind (loopM (fun s => m_acequialaw04_greatest_s3 n0 f6 i41 s.1 s.2.1 s.2.2.1 s.2.2.2) FUEL (xs27, xs29, row31, 0)) fun (p3_0_0, p3_0_1, p3_0_2) => m_acequialaw04_greatest_j7 i41 p3_0_0 p3_0_1 p3_0_2)
  else
  some (.inr (xs27, xs29))
def m_acequialaw04_greatest_s9 (n0 : Net) (xs131 : List Hop) (way137 : List Hop) (v147 : Int) : Option ((List Hop × Int) ⊕ (List Hop)) :=
  if v147 ≠ n0.S then
  (gd (inb v147 xs131.length) <|
  gd (apok (([(xs131.getD v147.toNat default)]) ++ way137).length 16) <|
  gd (inb ((xs131.getD v147.toNat default).Arc) n0.Arcs.length) <|
  if (xs131.getD v147.toNat default).Back = true then
  (gd (inb ((xs131.getD v147.toNat default).Arc) n0.Arcs.length) <|
  some (.inl ((([(xs131.getD v147.toNat default)]) ++ way137), (n0.Arcs.getD ((xs131.getD v147.toNat default).Arc).toNat default).to)))
  else
  some (.inl ((([(xs131.getD v147.toNat default)]) ++ way137), (n0.Arcs.getD ((xs131.getD v147.toNat default).Arc).toNat default).fr)))
  else
  some (.inr way137)
def m_acequialaw04_greatest_j12 (x16 : Int) (f194 : List Int) : Option ((List Int × Int) ⊕ ((List Int × Bool) ⊕ (List Int))) :=
  gd (i64ok (x16 + 1)) <|
  some (.inl (f194, (x16 + 1)))
def m_acequialaw04_greatest_j11 (f6 : List Int) (x16 : Int) (r178 : List Int) (x192 : Bool) : Option ((List Int × Int) ⊕ ((List Int × Bool) ⊕ (List Int))) :=
  if x192 = true then
  (some (.inr (.inl (f6, false))))
  else
  m_acequialaw04_greatest_j12 x16 r178
def m_acequialaw04_greatest_j10 (n0 : Net) (f6 : List Int) (x16 : Int) (way165 : List Hop) : Option ((List Int × Int) ⊕ ((List Int × Bool) ⊕ (List Int))) :=
  Option.bind (m_flow_Room n0 f6 way165) fun (r175, r176) =>
  Option.bind (m_flow_Send n0 f6 way165 r175) fun (r178, r179) =>
  if r176 ≠ 0 then
  (m_acequialaw04_greatest_j11 f6 x16 r178 true)
  else
  if r179 ≠ 0 then
  (m_acequialaw04_greatest_j11 f6 x16 r178 true)
  else
  m_acequialaw04_greatest_j11 f6 x16 r178 (decide (r175 < 1))
def m_acequialaw04_greatest_j8 (n0 : Net) (f6 : List Int) (x16 : Int) (xs131 : List Hop) (xs133 : List Bool) : Option ((List Int × Int) ⊕ ((List Int × Bool) ⊕ (List Int))) :=
  gd (inb n0.T xs133.length) <|
  if (!(xs133.getD n0.T.toNat false)) = true then
  (some (.inr (.inl (f6, true))))
  else
  Option.bind (loopM (fun s => m_acequialaw04_greatest_s9 n0 xs131 s.1 s.2) FUEL ([], n0.T)) fun p9_0_0 => m_acequialaw04_greatest_j10 n0 f6 x16 p9_0_0
def m_acequialaw04_greatest_s1 (n0 : Net) (f6 : List Int) (x16 : Int) : Option ((List Int × Int) ⊕ ((List Int × Bool) ⊕ (List Int))) :=
  if x16 < 400 then
  (gd (mkok n0.N) <|
  gd (mkok n0.N) <|
  gd (inb n0.S (List.replicate n0.N.toNat (false : Bool)).length) <|
  Option.bind (loopM (fun s => m_acequialaw04_greatest_s2 n0 f6 s.1 s.2.1 s.2.2.1 s.2.2.2) FUEL ((List.replicate n0.N.toNat (default : Hop)), ((List.replicate n0.N.toNat (false : Bool)).set n0.S.toNat true), [n0.S], 0)) fun (p2_0_0, p2_0_1) => m_acequialaw04_greatest_j8 n0 f6 x16 p2_0_0 p2_0_1)
  else
  some (.inr (.inr f6))
def m_acequialaw04_greatest_j13 (f205 : List Int) : Option (List Int × Bool) :=
  some (f205, false)
def m_acequialaw04_greatest (n0 : Net) : Option (List Int × Bool) :=
  gd (mkok (n0.Arcs.length : Int)) <|
  Option.bind (loopM (fun s => m_acequialaw04_greatest_s1 n0 s.1 s.2) FUEL ((List.replicate ((n0.Arcs.length : Int).toNat) (0 : Int)), 0)) fun o => match o with | .inl (p1_0_0, p1_0_1) => (some (p1_0_0, p1_0_1)) | .inr p1_1_0 => (m_acequialaw04_greatest_j13 p1_1_0)
/-- acequia/acequialaw04.CutGreatest -/
def m_acequialaw04_CutGreatest_j10 (x101 : Int) (b114 : Bool) : Option ((Int) ⊕ (Bool ⊕ Unit)) :=
  if b114 = true then
  (some (.inr (.inl false)))
  else
  gd (i64ok (x101 + 1)) <|
  some (.inl (x101 + 1))
def m_acequialaw04_CutGreatest_j9 (x101 : Int) (b113 : Bool) : Option ((Int) ⊕ (Bool ⊕ Unit)) :=
  m_acequialaw04_CutGreatest_j10 x101 b113
def m_acequialaw04_CutGreatest_j8 (x101 : Int) (b112 : Bool) : Option ((Int) ⊕ (Bool ⊕ Unit)) :=
  m_acequialaw04_CutGreatest_j9 x101 b112
def m_acequialaw04_CutGreatest_j7 (r44 : List Bool) (r82 : List Bool) (x101 : Int) (b107 : Bool) : Option ((Int) ⊕ (Bool ⊕ Unit)) :=
  if b107 = true then
  (m_acequialaw04_CutGreatest_j9 x101 true)
  else
  gd (inb x101 r82.length) <|
  if (r82.getD x101.toNat false) = true then
  (gd (inb x101 r44.length) <|
  m_acequialaw04_CutGreatest_j8 x101 (!(r44.getD x101.toNat false)))
  else
  m_acequialaw04_CutGreatest_j8 x101 false
def m_acequialaw04_CutGreatest_s6 (r29 : Int) (r32 : List Bool) (r44 : List Bool) (r82 : List Bool) (r93 : Int) (x101 : Int) : Option ((Int) ⊕ (Bool ⊕ Unit)) :=
  if x101 < (r82.length : Int) then
  (if r93 = r29 then
  (gd (inb x101 r32.length) <|
  if (r32.getD x101.toNat false) = true then
  (gd (inb x101 r82.length) <|
  m_acequialaw04_CutGreatest_j7 r44 r82 x101 (!(r82.getD x101.toNat false)))
  else
  m_acequialaw04_CutGreatest_j7 r44 r82 x101 false)
  else
  m_acequialaw04_CutGreatest_j10 x101 false)
  else
  some (.inr (.inr ()))
def m_acequialaw04_CutGreatest_j11  : Option (Bool) :=
  Option.bind m_acequialaw04_awake fun r118 =>
  some r118
def m_acequialaw04_CutGreatest_j5 (s1 : List Bool) (r3 : Net) (r14 : List Int) (r29 : Int) (r32 : List Bool) (r44 : List Bool) : Option (Bool) :=
  Option.bind (m_acequialaw04_side r3 s1) fun r82 =>
  Option.bind (m_cut_Cap r3 r82) fun (r93, r94) =>
  if r94 ≠ 0 then
  (some false)
  else
  if r93 < r29 then
  (some false)
  else
  Option.bind (m_cut_Tight r3 r14 r82) fun r98 =>
  if (!((decide (r93 = r29)) == r98)) = true then
  (some false)
  else
  Option.bind (loopM (fun s => m_acequialaw04_CutGreatest_s6 r29 r32 r44 r82 r93 s) FUEL 0) fun o => match o with | .inl p6_0_0 => (some p6_0_0) | .inr () => m_acequialaw04_CutGreatest_j11
def m_acequialaw04_CutGreatest_j4 (s1 : List Bool) (r3 : Net) (r14 : List Int) (r29 : Int) (r32 : List Bool) (r44 : List Bool) (b67 : Bool) : Option (Bool) :=
  if b67 = true then
  (some false)
  else
  Option.bind (m_cut_Cap r3 r32) fun (r71, r72) =>
  if r72 ≠ 0 then
  (some false)
  else
  if r71 ≠ r29 then
  (some false)
  else
  Option.bind (m_cut_Cap r3 r44) fun (r76, r77) =>
  if r77 ≠ 0 then
  (some false)
  else
  if r76 ≠ r29 then
  (some false)
  else
  m_acequialaw04_CutGreatest_j5 s1 r3 r14 r29 r32 r44
def m_acequialaw04_CutGreatest_j3 (s1 : List Bool) (r3 : Net) (r14 : List Int) (r29 : Int) (r32 : List Bool) (r44 : List Bool) (b63 : Bool) : Option (Bool) :=
  if b63 = true then
  (m_acequialaw04_CutGreatest_j4 s1 r3 r14 r29 r32 r44 true)
  else
  Option.bind (m_cut_Tight r3 r14 r44) fun r65 =>
  m_acequialaw04_CutGreatest_j4 s1 r3 r14 r29 r32 r44 (!r65)
def m_acequialaw04_CutGreatest_j2 (s1 : List Bool) (r3 : Net) (r14 : List Int) (r29 : Int) (r32 : List Bool) (r44 : List Bool) (b59 : Bool) : Option (Bool) :=
  if b59 = true then
  (m_acequialaw04_CutGreatest_j3 s1 r3 r14 r29 r32 r44 true)
  else
  Option.bind (m_cut_Tight r3 r14 r32) fun r61 =>
  m_acequialaw04_CutGreatest_j3 s1 r3 r14 r29 r32 r44 (!r61)
def m_acequialaw04_CutGreatest_j1 (s1 : List Bool) (r3 : Net) (r14 : List Int) (r29 : Int) (r32 : List Bool) (r44 : List Bool) (r45 : Int) (b57 : Bool) : Option (Bool) :=
  if b57 = true then
  (m_acequialaw04_CutGreatest_j2 s1 r3 r14 r29 r32 r44 true)
  else
  m_acequialaw04_CutGreatest_j2 s1 r3 r14 r29 r32 r44 (decide (r45 ≠ 0))
def m_acequialaw04_CutGreatest (n0 : Net) (s1 : List Bool) : Option (Bool) :=
  Option.bind (m_acequialow_Some n0 12 30) fun r3 =>
  Option.bind (m_acequialaw04_greatest r3) fun (r14, r15) =>
  if (!r15) = true then
  (Option.bind m_acequialaw04_awake fun r27 =>
  some r27)
  else
  Option.bind (m_flow_Value r3 r14) fun (r29, r30) =>
  Option.bind (m_cut_From r3 r14) fun (r32, r33) =>
  Option.bind (m_cut_To r3 r14) fun (r44, r45) =>
  if r30 ≠ 0 then
  (m_acequialaw04_CutGreatest_j1 s1 r3 r14 r29 r32 r44 r45 true)
  else
  m_acequialaw04_CutGreatest_j1 s1 r3 r14 r29 r32 r44 r45 (decide (r33 ≠ 0))
end Go.Acq
