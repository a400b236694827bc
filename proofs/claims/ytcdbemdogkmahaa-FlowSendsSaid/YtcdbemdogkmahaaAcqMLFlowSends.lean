/- Plain models of functions: acequialaw03.FlowSends, acequialaw03.hops. (Printed by sx.py.) -/
import Derived.Test.YtcdbemdogkmahaaAcqMS3
namespace Go.Acq
open Go
set_option linter.unusedVariables false

/-- acequia/acequialaw03.hops -/
def m_acequialaw03_hops_j3 (n0 : Net) (v3 : Int) (x27 : Int) (may43 : List Hop) : Option ((List Hop × Int) ⊕ (List Hop)) :=
  if ((n0.Arcs.getD x27.toNat default).to) = v3 then
  (gd (apok (may43 ++ ([(Hop.mk x27 true)])).length 16) <|
  gd (i64ok (x27 + 1)) <|
  some (.inl ((may43 ++ ([(Hop.mk x27 true)])), (x27 + 1))))
  else
  gd (i64ok (x27 + 1)) <|
  some (.inl (may43, (x27 + 1)))
def m_acequialaw03_hops_s2 (n0 : Net) (v3 : Int) (may17 : List Hop) (x27 : Int) : Option ((List Hop × Int) ⊕ (List Hop)) :=
  if x27 < (n0.Arcs.length : Int) then
  (gd (inb x27 n0.Arcs.length) <|
  if ((n0.Arcs.getD x27.toNat default).fr) = v3 then
  (gd (apok (may17 ++ ([(Hop.mk x27 false)])).length 16) <|
  m_acequialaw03_hops_j3 n0 v3 x27 (may17 ++ ([(Hop.mk x27 false)])))
  else
  m_acequialaw03_hops_j3 n0 v3 x27 may17)
  else
  some (.inr may17)
def m_acequialaw03_hops_j5 (x14 : Int) (v95 : Int) (out96 : List Hop) : Option ((Int × List Hop × Int) ⊕ (Int × List Hop)) :=
  gd (i64ok (x14 + 1)) <|
  some (.inl (v95, out96, (x14 + 1)))
def m_acequialaw03_hops_j4 (n0 : Net) (l2 : List Int) (v3 : Int) (out4 : List Hop) (x14 : Int) (may66 : List Hop) : Option ((Int × List Hop × Int) ⊕ (Int × List Hop)) :=
  if (may66.length : Int) = 0 then
  (some (.inr (v3, out4)))
  else
  gd (i64ok (l2.getD x14.toNat 0)) <|
  gd ((may66.length : Int) ≠ 0) <|
  gd (inb ((l2.getD x14.toNat 0).tmod (may66.length : Int)) may66.length) <|
  gd (apok (out4 ++ ([(may66.getD ((l2.getD x14.toNat 0).tmod (may66.length : Int)).toNat default)])).length 16) <|
  gd (inb ((may66.getD ((l2.getD x14.toNat 0).tmod (may66.length : Int)).toNat default).Arc) n0.Arcs.length) <|
  if (may66.getD ((l2.getD x14.toNat 0).tmod (may66.length : Int)).toNat default).Back = true then
  (gd (inb ((may66.getD ((l2.getD x14.toNat 0).tmod (may66.length : Int)).toNat default).Arc) n0.Arcs.length) <|
  m_acequialaw03_hops_j5 x14 ((n0.Arcs.getD ((may66.getD ((l2.getD x14.toNat 0).tmod (may66.length : Int)).toNat default).Arc).toNat default).fr) (out4 ++ ([(may66.getD ((l2.getD x14.toNat 0).tmod (may66.length : Int)).toNat default)])))
  else
  m_acequialaw03_hops_j5 x14 ((n0.Arcs.getD ((may66.getD ((l2.getD x14.toNat 0).tmod (may66.length : Int)).toNat default).Arc).toNat default).to) (out4 ++ ([(may66.getD ((l2.getD x14.toNat 0).tmod (may66.length : Int)).toNat default)]))
def m_acequialaw03_hops_s1 (n0 : Net) (l2 : List Int) (v3 : Int) (out4 : List Hop) (x14 : Int) : Option ((Int × List Hop × Int) ⊕ (Int × List Hop)) :=
  if x14 < (l2.length : Int) then
  (gd (inb x14 l2.length) <|
  Option.bind (loopM (fun s => m_acequialaw03_hops_s2 n0 v3 s.1 s.2) FUEL ([], 0)) fun p2_0_0 => m_acequialaw03_hops_j4 n0 l2 v3 out4 x14 p2_0_0)
  else
  some (.inr (v3, out4))
def m_acequialaw03_hops_j6 (v107 : Int) (out108 : List Hop) : Option (List Hop × Int) :=
  some (out108, v107)
def m_acequialaw03_hops (n0 : Net) (v1 : Int) (l2 : List Int) : Option (List Hop × Int) :=
  Option.bind (loopM (fun s => m_acequialaw03_hops_s1 n0 l2 s.1 s.2.1 s.2.2) FUEL (v1, [], 0)) fun (p1_0_0, p1_0_1) => m_acequialaw03_hops_j6 p1_0_0 p1_0_1
/-- acequia/acequialaw03.FlowSends -/
def m_acequialaw03_FlowSends_s1 (r28 : List Hop) (back126 : List Hop) (i136 : Int) : Option ((List Hop × Int) ⊕ (List Hop)) :=
  if 0 ≤ i136 then
  (gd (inb i136 r28.length) <|
  gd (inb i136 r28.length) <|
  gd (apok (back126 ++ ([(Hop.mk ((r28.getD i136.toNat default).Arc) (!(r28.getD i136.toNat default).Back))])).length 16) <|
  gd (i64ok (i136 - 1)) <|
  some (.inl ((back126 ++ ([(Hop.mk ((r28.getD i136.toNat default).Arc) (!(r28.getD i136.toNat default).Back))])), (i136 - 1))))
  else
  some (.inr back126)
def m_acequialaw03_FlowSends_j2 (from2 : Int) (d4 : Int) (r3 : Net) (r14 : List Int) (r29 : Int) (r40 : Int) (r50 : List Int) (r93 : List Int) (r105 : List Int) (back151 : List Hop) : Option (Bool) :=
  Option.bind (m_flow_Send r3 r50 back151 (d4.tmod (r40 + 1))) fun (r161, r162) =>
  Option.bind (m_acequialow_Longs ((r93.set (from2.tmod r3.N).toNat ((r93.getD (from2.tmod r3.N).toNat 0) - (d4.tmod (r40 + 1)))).set r29.toNat (((r93.set (from2.tmod r3.N).toNat ((r93.getD (from2.tmod r3.N).toNat 0) - (d4.tmod (r40 + 1)))).getD r29.toNat 0) + (d4.tmod (r40 + 1)))) r105) fun r173 =>
  if r173 = true then
  (if r162 = 0 then
  (Option.bind (m_acequialow_Longs r161 r14) fun r177 =>
  if r177 = true then
  (Option.bind m_acequialaw03_awake fun r180 =>
  some r180)
  else
  some false)
  else
  some false)
  else
  some false
def m_acequialaw03_FlowSends (n0 : Net) (l1 : List Int) (from2 : Int) (moves3 : List Int) (d4 : Int) : Option (Bool) :=
  Option.bind (m_acequialow_Some n0 40 80) fun r3 =>
  Option.bind (m_acequialow_Within r3 l1) fun r14 =>
  gd (i64ok from2) <|
  gd (r3.N ≠ 0) <|
  gd (0 ≤ (min (moves3.length : Int) 30) ∧ (min (moves3.length : Int) 30) ≤ (moves3.length : Int)) <|
  Option.bind (m_acequialaw03_hops r3 (from2.tmod r3.N) (moves3.take (min (moves3.length : Int) 30).toNat)) fun (r28, r29) =>
  Option.bind (m_flow_Room r3 r14 r28) fun (r40, r41) =>
  if r41 ≠ 0 then
  (some false)
  else
  if r40 < 0 then
  (some false)
  else
  if 4611686018427387904 < r40 then
  (some false)
  else
  gd (i64ok (r40 + 1)) <|
  gd (u64ok (r40 + 1)) <|
  gd ((r40 + 1) ≠ 0) <|
  gd (i64ok (d4.tmod (r40 + 1))) <|
  Option.bind (m_flow_Send r3 r14 r28 (d4.tmod (r40 + 1))) fun (r50, r51) =>
  gd (i64ok (r40 + 1)) <|
  Option.bind (m_flow_Send r3 r14 r28 (r40 + 1)) fun (r63, r64) =>
  Option.bind (m_flow_Send r3 r14 r28 (-1)) fun (r75, r76) =>
  if r51 ≠ 0 then
  (some false)
  else
  if r64 ≠ 2 then
  (some false)
  else
  if r76 ≠ 2 then
  (some false)
  else
  Option.bind (m_flow_Within r3 r50) fun r90 =>
  if (!r90) = true then
  (some false)
  else
  Option.bind (m_flow_Excess r3 r14) fun (r93, r94) =>
  Option.bind (m_flow_Excess r3 r50) fun (r105, r106) =>
  if (r93.length : Int) ≠ r3.N then
  (some false)
  else
  if (r105.length : Int) ≠ r3.N then
  (some false)
  else
  gd (inb (from2.tmod r3.N) r93.length) <|
  gd (i64ok ((r93.getD (from2.tmod r3.N).toNat 0) - (d4.tmod (r40 + 1)))) <|
  gd (inb (from2.tmod r3.N) r93.length) <|
  gd (inb r29 (r93.set (from2.tmod r3.N).toNat ((r93.getD (from2.tmod r3.N).toNat 0) - (d4.tmod (r40 + 1)))).length) <|
  gd (i64ok (((r93.set (from2.tmod r3.N).toNat ((r93.getD (from2.tmod r3.N).toNat 0) - (d4.tmod (r40 + 1)))).getD r29.toNat 0) + (d4.tmod (r40 + 1)))) <|
  gd (inb r29 (r93.set (from2.tmod r3.N).toNat ((r93.getD (from2.tmod r3.N).toNat 0) - (d4.tmod (r40 + 1)))).length) <|
  gd (i64ok ((r28.length : Int) - 1)) <|
  Option.bind (loopM (fun s => m_acequialaw03_FlowSends_s1 r28 s.1 s.2) FUEL ([], ((r28.length : Int) - 1))) fun p1_0_0 => m_acequialaw03_FlowSends_j2 from2 d4 r3 r14 r29 r40 r50 r93 r105 p1_0_0
end Go.Acq
