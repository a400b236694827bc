/- Plain models of functions: acequialaw04.awake, acequialaw04.caps, acequialaw04.side, cut.Across, cut.And, cut.And$1, cut.Cap, cut.From, cut.From$1, cut.Or, cut.Or$1, cut.Right, cut.Tight, cut.To, cut.To$1, cut.across, cut.across$1, cut.both, cut.has, cut.left, cut.met, cut.met$1. (Printed by sx.py.) -/
import Derived.Test.YtcdbemdogkmahaaAcqMS3
namespace Go.Acq
open Go
set_option linter.unusedVariables false
/-- acequia/cut.Right -/
def m_cut_Right (n0 : Net) (s1 : List Bool) : Option (Bool) :=
  Option.bind (m_net_Check n0) fun r3 =>
  if r3 = 0 then
  (if (s1.length : Int) = n0.N then
  (gd (inb n0.S s1.length) <|
  if (s1.getD n0.S.toNat false) = true then
  (gd (inb n0.T s1.length) <|
  some (!(s1.getD n0.T.toNat false)))
  else
  some false)
  else
  some false)
  else
  some false
/-- acequia/cut.across -/
def m_cut_across (n0 : Net) (s1 : List Bool) : Option (Unit) :=
  some ()
/-- acequia/cut.has -/
def m_cut_has (s0 : List Bool) (v1 : Int) : Option (Bool) :=
  if v1 < (s0.length : Int) then
  (gd (inb v1 s0.length) <|
  some (s0.getD v1.toNat false))
  else
  some false
/-- acequia/cut.across$1 -/
def m_cut_across_1_s1 {S_ X_ : Type} (yy_ : S_ → (Int × Bool) → Option (S_ ⊕ X_)) (c1 : Net) (c2 : List Bool) (x1 : Int) (tt3 : S_ ⊕ X_) : Option ((Int × (S_ ⊕ X_)) ⊕ ((S_ ⊕ X_))) :=
  if x1 < (c1.Arcs.length : Int) then
  (gd (inb x1 c1.Arcs.length) <|
  Option.bind (m_cut_has c2 ((c1.Arcs.getD x1.toNat default).fr)) fun r9 =>
  Option.bind (m_cut_has c2 ((c1.Arcs.getD x1.toNat default).to)) fun r11 =>
  if (!(r9 == r11)) = true then
  (Option.bind (yieldM yy_ tt3 (x1, r9)) fun tt14 =>
  if (!tt14.isLeft) = true then
  (some (.inr tt14))
  else
  gd (i64ok (x1 + 1)) <|
  some (.inl ((x1 + 1), tt14)))
  else
  gd (i64ok (x1 + 1)) <|
  some (.inl ((x1 + 1), tt3)))
  else
  some (.inr tt3)
def m_cut_across_1 {S_ X_ : Type} (yy_ : S_ → (Int × Bool) → Option (S_ ⊕ X_)) (c1 : Net) (c2 : List Bool) (tt_ : S_ ⊕ X_) : Option ((S_ ⊕ X_)) :=
  Option.bind (loopM (fun s => m_cut_across_1_s1 yy_ c1 c2 s.1 s.2) FUEL (0, tt_)) fun p1_0_0 => some p1_0_0
/-- acequia/cut.Cap -/
def m_cut_Cap_y1 (n0 : Net) (sum13 : Int) (y14 : Int) (y15 : Bool) : Option ((Int) ⊕ (Empty)) :=
  if y15 = true then
  (gd (inb y14 n0.Arcs.length) <|
  gd (i64ok (sum13 + ((n0.Arcs.getD y14.toNat default).cap))) <|
  some (.inl (sum13 + ((n0.Arcs.getD y14.toNat default).cap))))
  else
  some (.inl sum13)
def m_cut_Cap (n0 : Net) (s1 : List Bool) : Option (Int × Int) :=
  Option.bind (m_cut_Right n0 s1) fun r3 =>
  if (!r3) = true then
  (some (0, 2))
  else
  Option.bind (m_cut_across n0 s1) fun _ =>
  Option.bind (m_cut_across_1 (fun s v => m_cut_Cap_y1 n0 s v.1 v.2) n0 s1 (.inl 0)) fun t => match t with | .inl sum13 => (some (sum13, 0)) | .inr x => nomatch x
/-- acequia/cut.Across -/
def m_cut_Across_y1 (f1 : List Int) (sum18 : Int) (y19 : Int) (y20 : Bool) : Option ((Int) ⊕ (Empty)) :=
  if y20 = true then
  (gd (inb y19 f1.length) <|
  gd (i64ok (sum18 + (f1.getD y19.toNat 0))) <|
  some (.inl (sum18 + (f1.getD y19.toNat 0))))
  else
  gd (inb y19 f1.length) <|
  gd (i64ok (sum18 - (f1.getD y19.toNat 0))) <|
  some (.inl (sum18 - (f1.getD y19.toNat 0)))
def m_cut_Across (n0 : Net) (f1 : List Int) (s2 : List Bool) : Option (Int × Int) :=
  Option.bind (m_cut_Right n0 s2) fun r5 =>
  if (!r5) = true then
  (some (0, 2))
  else
  Option.bind (m_flow_Within n0 f1) fun r8 =>
  if (!r8) = true then
  (some (0, 20))
  else
  Option.bind (m_cut_across n0 s2) fun _ =>
  Option.bind (m_cut_across_1 (fun s v => m_cut_Across_y1 f1 s v.1 v.2) n0 s2 (.inl 0)) fun t => match t with | .inl sum18 => (some (sum18, 0)) | .inr x => nomatch x
/-- acequia/cut.Tight -/
def m_cut_Tight_y1 (n0 : Net) (f1 : List Int) (y19 : Int) (y20 : Bool) : Option ((Unit) ⊕ (Unit)) :=
  if y20 = true then
  (gd (inb y19 f1.length) <|
  gd (inb y19 n0.Arcs.length) <|
  if (f1.getD y19.toNat 0) < ((n0.Arcs.getD y19.toNat default).cap) then
  (some (.inr ()))
  else
  if (!y20) = true then
  (gd (inb y19 f1.length) <|
  if 0 < (f1.getD y19.toNat 0) then
  (some (.inr ()))
  else
  some (.inl ()))
  else
  some (.inl ()))
  else
  if (!y20) = true then
  (gd (inb y19 f1.length) <|
  if 0 < (f1.getD y19.toNat 0) then
  (some (.inr ()))
  else
  some (.inl ()))
  else
  some (.inl ())
def m_cut_Tight (n0 : Net) (f1 : List Int) (s2 : List Bool) : Option (Bool) :=
  Option.bind (m_cut_Right n0 s2) fun r7 =>
  if (!r7) = true then
  (some false)
  else
  Option.bind (m_flow_Within n0 f1) fun r10 =>
  if (!r10) = true then
  (some false)
  else
  Option.bind (m_cut_across n0 s2) fun _ =>
  Option.bind (m_cut_across_1 (fun s v => m_cut_Tight_y1 n0 f1 v.1 v.2) n0 s2 (.inl ())) fun t => match t with | .inl _ => (some true) | .inr _ => (some false)
/-- acequia/cut.left -/
def m_cut_left (n0 : Net) (f1 : List Int) : Option (Csr × List Int × Int) :=
  Option.bind (m_flow_Within n0 f1) fun r5 =>
  if (!r5) = true then
  (some ((Csr.mk 0 0 0 ([]) ([]) ([]) ([]) ([]) ([])), [], 20))
  else
  Option.bind (m_csr_Make n0) fun (r8, r9) =>
  if r9 ≠ 0 then
  (some (r8, [], r9))
  else
  Option.bind (m_csr_Res r8 f1) fun (r68, r69) =>
  some (r8, r68, r69)
/-- acequia/cut.From$1 -/
def m_cut_From_1 (a0 : Int) (c1 : List Int) : Option (Bool) :=
  gd (inb a0 c1.length) <|
  some (decide (0 < (c1.getD a0.toNat 0)))
/-- acequia/cut.met$1 -/
def m_cut_met_1 (v0 : Int) (c1 : List Bool) (c2 : List Int) : Option (List Bool × List Int) :=
  gd (inb v0 c1.length) <|
  if (!(c1.getD v0.toNat false)) = true then
  (gd (inb v0 c1.length) <|
  gd (apok (c2 ++ ([v0])).length 8) <|
  some ((c1.set v0.toNat true), (c2 ++ ([v0]))))
  else
  some (c1, c2)
/-- acequia/cut.met -/
def m_cut_met_From_1_s2 (c0 : Csr) (may2_0 : List Int) (i25 : Int) (xs29 : List Bool) (row31 : List Int) (a41 : Int) : Option ((List Bool × List Int × Int) ⊕ (List Bool × List Int)) :=
  gd (inb i25 row31.length) <|
  gd (i64ok ((row31.getD i25.toNat 0) + 1)) <|
  gd (inb ((row31.getD i25.toNat 0) + 1) c0.First.length) <|
  if a41 < (c0.First.getD ((row31.getD i25.toNat 0) + 1).toNat 0) then
  (Option.bind (m_cut_From_1 a41 may2_0) fun r46 =>
  if r46 = true then
  (gd (inb a41 c0.Head.length) <|
  Option.bind (m_cut_met_1 (c0.Head.getD a41.toNat 0) xs29 row31) fun (r50, r51) =>
  gd (i64ok (a41 + 1)) <|
  some (.inl (r50, r51, (a41 + 1))))
  else
  gd (i64ok (a41 + 1)) <|
  some (.inl (xs29, row31, (a41 + 1))))
  else
  some (.inr (xs29, row31))
def m_cut_met_From_1_j3 (i25 : Int) (xs65 : List Bool) (row67 : List Int) : Option ((List Bool × List Int × Int) ⊕ (List Bool)) :=
  gd (i64ok (i25 + 1)) <|
  some (.inl (xs65, row67, (i25 + 1)))
def m_cut_met_From_1_s1 (c0 : Csr) (may2_0 : List Int) (xs13 : List Bool) (row15 : List Int) (i25 : Int) : Option ((List Bool × List Int × Int) ⊕ (List Bool)) :=
  if i25 < (row15.length : Int) then
  (gd (inb i25 row15.length) <|
  gd (inb (row15.getD i25.toNat 0) c0.First.length) <|
  Option.bind (loopM (fun s => m_cut_met_From_1_s2 c0 may2_0 i25 s.1 s.2.1 s.2.2) FUEL (xs13, row15, (c0.First.getD (row15.getD i25.toNat 0).toNat 0))) fun (p2_0_0, p2_0_1) => m_cut_met_From_1_j3 i25 p2_0_0 p2_0_1)
  else
  some (.inr xs13)
def m_cut_met_From_1_j4 (xs78 : List Bool) : Option (List Bool) :=
  some xs78
def m_cut_met_From_1 (c0 : Csr) (from1 : Int) (may2_0 : List Int) : Option (List Bool) :=
  gd (mkok c0.N) <|
  gd (inb from1 (List.replicate c0.N.toNat (false : Bool)).length) <|
  Option.bind (loopM (fun s => m_cut_met_From_1_s1 c0 may2_0 s.1 s.2.1 s.2.2) FUEL (((List.replicate c0.N.toNat (false : Bool)).set from1.toNat true), [from1], 0)) fun p1_0_0 => m_cut_met_From_1_j4 p1_0_0
/-- acequia/cut.From -/
def m_cut_From (n0 : Net) (f1 : List Int) : Option (List Bool × Int) :=
  Option.bind (m_cut_left n0 f1) fun (r3, r4, r5) =>
  if r5 ≠ 0 then
  (some ([], r5))
  else
  Option.bind (m_cut_met_From_1 r3 n0.S r4) fun r75 =>
  some (r75, 0)
/-- acequia/cut.To$1 -/
def m_cut_To_1 (a0 : Int) (c1 : List Int) (c2 : Csr) : Option (Bool) :=
  gd (inb a0 c2.Rev.length) <|
  gd (inb (c2.Rev.getD a0.toNat 0) c1.length) <|
  some (decide (0 < (c1.getD (c2.Rev.getD a0.toNat 0).toNat 0)))
/-- acequia/cut.met -/
def m_cut_met_To_1_s2 (c0 : Csr) (may2_0 : List Int) (may2_1 : Csr) (i25 : Int) (xs29 : List Bool) (row31 : List Int) (a41 : Int) : Option ((List Bool × List Int × Int) ⊕ (List Bool × List Int)) :=
  gd (inb i25 row31.length) <|
  gd (i64ok ((row31.getD i25.toNat 0) + 1)) <|
  gd (inb ((row31.getD i25.toNat 0) + 1) c0.First.length) <|
  if a41 < (c0.First.getD ((row31.getD i25.toNat 0) + 1).toNat 0) then
  (Option.bind (m_cut_To_1 a41 may2_0 may2_1) fun r46 =>
  if r46 = true then
  (gd (inb a41 c0.Head.length) <|
  Option.bind (m_cut_met_1 (c0.Head.getD a41.toNat 0) xs29 row31) fun (r50, r51) =>
  gd (i64ok (a41 + 1)) <|
  some (.inl (r50, r51, (a41 + 1))))
  else
  gd (i64ok (a41 + 1)) <|
  some (.inl (xs29, row31, (a41 + 1))))
  else
  some (.inr (xs29, row31))
def m_cut_met_To_1_j3 (i25 : Int) (xs65 : List Bool) (row67 : List Int) : Option ((List Bool × List Int × Int) ⊕ (List Bool)) :=
  gd (i64ok (i25 + 1)) <|
  some (.inl (xs65, row67, (i25 + 1)))
def m_cut_met_To_1_s1 (c0 : Csr) (may2_0 : List Int) (may2_1 : Csr) (xs13 : List Bool) (row15 : List Int) (i25 : Int) : Option ((List Bool × List Int × Int) ⊕ (List Bool)) :=
  if i25 < (row15.length : Int) then
  (gd (inb i25 row15.length) <|
  gd (inb (row15.getD i25.toNat 0) c0.First.length) <|
  Option.bind (loopM (fun s => m_cut_met_To_1_s2 c0 may2_0 may2_1 i25 s.1 s.2.1 s.2.2) FUEL (xs13, row15, (c0.First.getD (row15.getD i25.toNat 0).toNat 0))) fun (p2_0_0, p2_0_1) => m_cut_met_To_1_j3 i25 p2_0_0 p2_0_1)
  else
  some (.inr xs13)
def m_cut_met_To_1_j4 (xs78 : List Bool) : Option (List Bool) :=
  some xs78
def m_cut_met_To_1 (c0 : Csr) (from1 : Int) (may2_0 : List Int) (may2_1 : Csr) : Option (List Bool) :=
  gd (mkok c0.N) <|
  gd (inb from1 (List.replicate c0.N.toNat (false : Bool)).length) <|
  Option.bind (loopM (fun s => m_cut_met_To_1_s1 c0 may2_0 may2_1 s.1 s.2.1 s.2.2) FUEL (((List.replicate c0.N.toNat (false : Bool)).set from1.toNat true), [from1], 0)) fun p1_0_0 => m_cut_met_To_1_j4 p1_0_0
/-- acequia/cut.To -/
def m_cut_To_s1 (r75 : List Bool) (xs86 : List Bool) (x88 : Int) : Option ((List Bool × Int) ⊕ (List Bool)) :=
  if x88 < (r75.length : Int) then
  (gd (inb x88 xs86.length) <|
  gd (inb x88 xs86.length) <|
  gd (i64ok (x88 + 1)) <|
  some (.inl ((xs86.set x88.toNat (!(xs86.getD x88.toNat false))), (x88 + 1))))
  else
  some (.inr xs86)
def m_cut_To_j2 (xs93 : List Bool) : Option (List Bool × Int) :=
  some (xs93, 0)
def m_cut_To (n0 : Net) (f1 : List Int) : Option (List Bool × Int) :=
  Option.bind (m_cut_left n0 f1) fun (r3, r4, r5) =>
  if r5 ≠ 0 then
  (some ([], r5))
  else
  Option.bind (m_cut_met_To_1 r3 n0.T r4 r3) fun r75 =>
  Option.bind (loopM (fun s => m_cut_To_s1 r75 s.1 s.2) FUEL (r75, 0)) fun p1_0_0 => m_cut_To_j2 p1_0_0
/-- acequia/acequialaw04.side -/
def m_acequialaw04_side (n0 : Net) (s1 : List Bool) : Option (List Bool) :=
  gd (mkok n0.N) <|
  gd (inb n0.S (cpy (List.replicate n0.N.toNat (false : Bool)) s1).length) <|
  gd (inb n0.T ((cpy (List.replicate n0.N.toNat (false : Bool)) s1).set n0.S.toNat true).length) <|
  some (((cpy (List.replicate n0.N.toNat (false : Bool)) s1).set n0.S.toNat true).set n0.T.toNat false)
/-- acequia/acequialaw04.caps -/
def m_acequialaw04_caps (want0 : Int) (s1 : List Bool) : Option (Bool) :=
  Option.bind m_acequialaw01_Four fun r1 =>
  Option.bind (m_cut_Cap r1 s1) fun (r12, r13) =>
  if r12 = want0 then
  (some (decide (r13 = 0)))
  else
  some false
/-- acequia/acequialaw04.awake -/
def m_acequialaw04_awake_j4 (r21 : List Bool) (r33 : List Bool) (b71 : Bool) : Option (Bool) :=
  if b71 = true then
  (Option.bind (m_acequialow_Bools r21 ([true, false, false, false])) fun r75 =>
  if r75 = true then
  (Option.bind (m_acequialow_Bools r33 ([true, true, true, false])) fun r80 =>
  some r80)
  else
  some false)
  else
  some false
def m_acequialaw04_awake_j3 (r21 : List Bool) (r33 : List Bool) (r34 : Int) (b69 : Bool) : Option (Bool) :=
  if b69 = true then
  (m_acequialaw04_awake_j4 r21 r33 (decide (r34 = 0)))
  else
  m_acequialaw04_awake_j4 r21 r33 false
def m_acequialaw04_awake_j2 (r1 : Net) (r21 : List Bool) (r22 : Int) (r33 : List Bool) (r34 : Int) (b62 : Bool) : Option (Bool) :=
  if b62 = true then
  (Option.bind (m_cut_Tight r1 ([5, 4, 3, 6, 2]) ([true, true, false, false])) fun r66 =>
  if r66 = true then
  (m_acequialaw04_awake_j3 r21 r33 r34 (decide (r22 = 0)))
  else
  m_acequialaw04_awake_j3 r21 r33 r34 false)
  else
  some false
def m_acequialaw04_awake_j1 (r1 : Net) (r19 : Int) (r21 : List Bool) (r22 : Int) (r33 : List Bool) (r34 : Int) (b60 : Bool) : Option (Bool) :=
  if b60 = true then
  (m_acequialaw04_awake_j2 r1 r21 r22 r33 r34 (decide (r19 = 0)))
  else
  m_acequialaw04_awake_j2 r1 r21 r22 r33 r34 false
def m_acequialaw04_awake  : Option (Bool) :=
  Option.bind m_acequialaw01_Four fun r1 =>
  Option.bind (m_cut_Across r1 ([5, 4, 3, 6, 2]) ([true, true, false, false])) fun (r18, r19) =>
  Option.bind (m_cut_From r1 ([5, 4, 3, 6, 2])) fun (r21, r22) =>
  Option.bind (m_cut_To r1 ([5, 4, 3, 6, 2])) fun (r33, r34) =>
  Option.bind (m_acequialaw04_caps 9 ([true, false, false, false])) fun r47 =>
  if r47 = true then
  (Option.bind (m_acequialaw04_caps 9 ([true, true, false, false])) fun r52 =>
  if r52 = true then
  (Option.bind (m_acequialaw04_caps 11 ([true, false, true, false])) fun r57 =>
  if r57 = true then
  (m_acequialaw04_awake_j1 r1 r19 r21 r22 r33 r34 (decide (r18 = 9)))
  else
  m_acequialaw04_awake_j1 r1 r19 r21 r22 r33 r34 false)
  else
  some false)
  else
  some false
end Go.Acq
